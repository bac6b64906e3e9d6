/- What a fence is: the reference and the program say the same. -/
import Derived.Test.YtoiondajpccobaaPx1
import Derived.Test.YtoiondajpccobaaPx2
import Derived.Test.YtoiondajpccobaaMBase
namespace Go.Proofs.Ytoiondajpccobaa.M
open Go.RowKit Go.Proofs.Ytoiondajpccobaa.P Go.Proofs.YtoiondajpccobaaW.PrintWords Go.Proofs.Ytoiondajpccobaa.M
set_option linter.unusedVariables false
set_option linter.unusedSimpArgs false

def inn (lo hi : Int) (n : Int) : Bool := decide (lo ≤ n) && decide (n ≤ hi)
theorem inn_iff (lo hi n : Int) : inn lo hi n = true ↔ lo ≤ n ∧ n ≤ hi := by simp [inn]
theorem within_f (a b c : Int) : impl_within.f a b c = some (inn b c a) := by
  unfold impl_within.f inn
  by_cases h : a ≥ b
  · rw [if_pos h]; simp [h]
  · rw [if_neg h]; simp [show ¬ b ≤ a from h]
theorem l1In_inn (a b c : Int) : spec_l1In.f a b c = some (inn b c a) := by
  unfold spec_l1In.f inn
  by_cases h : a ≥ b
  · rw [if_pos h]; simp [h]
  · rw [if_neg h]; simp [show ¬ b ≤ a from h]
def fenceB (s : ByteArray) : Bool := inn 1 20 (s.size : Int) && (bytesOf s).all boardB
theorem isFence_f (s : ByteArray) : impl_IsFence.f s = some (fenceB s) := by
  unfold impl_IsFence.f fenceB inn
  have h1 : decide (1 ≤ s.size) = decide (1 ≤ (s.size : Int)) := by by_cases h : 1 ≤ s.size <;> simp [h] <;> omega
  have h2 : decide (s.size ≤ 20) = decide ((s.size : Int) ≤ 20) := by by_cases h : s.size ≤ 20 <;> simp [h] <;> omega
  rw [h1, h2]
theorem bt_bytes (s : ByteArray) (i : Nat) (h : i < s.size) : bt s (i : Int) = (bytesOf s)[i]'(by rw [bytesOf_length]; exact h) := by
  rw [← rd_bytesOf, rd_get _ _ (by rw [bytesOf_length]; exact h)]
theorem stGood_l0 (s : ByteArray) (hs : s.size ≤ 20) (d : Nat) : ∀ i : Nat, i ≤ s.size → s.size - i = d → Ev (fun k => spec_stGood.l0 k s (i : Int)) (((bytesOf s).drop i).all boardB) := by
  induction d with
  | zero =>
    intro i hi hd
    have e : i = s.size := by omega
    subst e
    refine Ev.step (f := fun _ => some _) (fun k => ?_) (Ev.now _)
    simp only [spec_stGood.l0]
    rw [if_neg (by omega), List.drop_of_length_le (by rw [bytesOf_length]; omega)]
    rfl
  | succ d ih =>
    intro i hi hd
    have hlt : i < s.size := by omega
    have hl : i < (bytesOf s).length := by rw [bytesOf_length]; exact hlt
    rw [List.drop_eq_getElem_cons hl, List.all_cons]
    have hbt := bt_bytes s i hlt
    have ih2 := ih (i + 1) (by omega) (by omega)
    generalize (bytesOf s)[i] = c at hbt ⊢
    have hw : wrap64 ((i : Int) + 1) = ((i + 1 : Nat) : Int) := by rw [wrap_id (by omega) (by omega)]; rfl
    by_cases h1 : c = 46
    · refine Ev.step (fun k => ?_) (evTo (by simp [boardB, h1]) ih2)
      simp only [spec_stGood.l0]
      rw [if_pos (by omega), if_pos (by omega), hbt, if_pos h1, hw]
    · by_cases h2 : c < 97
      · refine Ev.step (f := fun _ => some false) (fun k => ?_) (evTo ?_ (Ev.now _))
        · simp only [spec_stGood.l0]
          rw [if_pos (by omega), if_pos (by omega), hbt, if_neg h1, if_pos h2]
        · simp [boardB, h1, show ¬ 97 ≤ c by omega]
      · by_cases h3 : c > 101
        · refine Ev.step (f := fun _ => some false) (fun k => ?_) (evTo ?_ (Ev.now _))
          · simp only [spec_stGood.l0]
            rw [if_pos (by omega), if_pos (by omega), hbt, if_neg h1, if_neg h2, if_pos h3]
          · simp [boardB, h1, show ¬ c ≤ 101 by omega]
        · refine Ev.step (fun k => ?_) (evTo ?_ ih2)
          · simp only [spec_stGood.l0]
            rw [if_pos (by omega), if_pos (by omega), hbt, if_neg h1, if_neg h2, if_neg h3, hw]
          · simp [boardB, show 97 ≤ c by omega, show c ≤ 101 by omega]
theorem stGood_ev (s : ByteArray) : Ev (fun k => spec_stGood.f k s) (fenceB s) := by
  unfold spec_stGood.f fenceB
  rw [l1In_inn]
  simp only [Option.bind_some]
  cases h : inn 1 20 (s.size : Int)
  · exact Ev.now _
  · rw [inn_iff] at h
    exact stGood_l0 s (by omega) _ 0 (Nat.zero_le _) rfl
theorem fence_size {s : ByteArray} (h : fenceB s = true) : 1 ≤ s.size ∧ s.size ≤ 20 := by
  unfold fenceB at h
  rw [Bool.and_eq_true, inn_iff] at h
  omega

end Go.Proofs.Ytoiondajpccobaa.M
