/- What each painter works: the reference's way. -/
import Derived.Test.YtmnafjlpfndnmaaPx14
import Derived.Test.YtmnafjlpfndnmaaPx4
import Derived.Test.YtmnafjlpfndnmaaMBase
import Derived.Test.YtmnafjlpfndnmaaMAll
import Derived.Test.YtmnafjlpfndnmaaMShare
import Derived.Test.YtmnafjlpfndnmaaMWorks
namespace Go.Proofs.Ytmnafjlpfndnmaa.M
open Go.RowKit Go.Proofs.Ytmnafjlpfndnmaa.P Go.Proofs.YtmnafjlpfndnmaaW.PrintWords Go.Proofs.Ytmnafjlpfndnmaa.M
set_option linter.unusedVariables false
set_option linter.unusedSimpArgs false

theorem shWork_l0 (w s : List Int) (hx : ∀ x ∈ w, 0 ≤ x ∧ x ≤ 100) (hl : w.length ≤ 12) (hs : ∀ n ∈ s, 0 ≤ n) (hsl : s.length ≤ 1000) (d : Nat) : ∀ (i a : Nat) (out : List Int), i ≤ s.length → s.length - i = d → (a : Int) + sm (s.drop i) ≤ (w.length : Int) → out.length = i →
    Ev (fun k => spec_shWork.l0 k w out (a : Int) s (s.length : Int) (i : Int)) (out ++ worksL (w.drop a) (s.drop i)) := by
  induction d with
  | zero =>
    intro i a out hi hd hsm ho
    have e : i = s.length := by omega
    subst e
    refine Ev.step (f := fun _ => some _) (fun k => ?_) (Ev.now _)
    simp only [spec_shWork.l0]
    rw [if_neg (by omega), List.drop_length]
    simp [worksL]
  | succ d ih =>
    intro i a out hi hd hsm ho
    have hlt : i < s.length := by omega
    have hn := hs s[i] (List.getElem_mem hlt)
    rw [List.drop_eq_getElem_cons hlt] at hsm ⊢
    simp only [sm] at hsm
    have h0 := sm_nonneg (s.drop (i + 1)) (fun x h => hs x (List.mem_of_mem_drop h))
    have hrd := rd_get s i hlt
    have ih2 := fun b e => ih (i + 1) b (out ++ [sm ((w.drop a).take s[i].toNat)]) (by omega) (by omega) e (by simp; omega)
    generalize s[i] = n at hn hsm hrd ih2 ⊢
    obtain ⟨n, rfl⟩ := Int.eq_ofNat_of_zero_le hn
    have ih3 := ih2 (a + n) (by omega)
    rw [Int.toNat_natCast] at ih3
    have hsum := shSum_ev ((w.drop a).take n) (by rw [List.length_take]; omega) (fun x h => by have := hx x (List.mem_of_mem_drop (List.mem_of_mem_take h)); omega)
    refine Ev.step (f := fun k => (spec_shSum.f k ((w.drop a).take n)).bind fun t => spec_shWork.l0 k w (out ++ [t]) ((a + n : Nat) : Int) s (s.length : Int) ((i + 1 : Nat) : Int)) (fun k => ?_) (Ev.bind hsum (evTo (by simp [worksL]) ih3))
    simp only [spec_shWork.l0]
    rw [if_pos (by omega), if_pos (by omega), if_pos (by omega), hrd, wrap_id (a := (a : Int) + (n : Int)) (by omega) (by omega), if_pos (by omega), if_pos (by omega), if_pos (by omega)]
    have hout : out.length < 17592186044416 := by omega
    simp only [hout, if_true]
    rw [wrap_id (a := (i : Int) + 1) (by omega) (by omega), Int.toNat_natCast, show ((a : Int) + (n : Int)).toNat = a + n from by omega, List.drop_take, Nat.add_sub_cancel_left]
    rfl
theorem shWork_ev (w s : List Int) (hx : ∀ x ∈ w, 0 ≤ x ∧ x ≤ 100) (hl : w.length ≤ 12) (hs : ∀ n ∈ s, 0 ≤ n) (hsl : s.length ≤ 1000) (hsm : sm s ≤ (w.length : Int)) : Ev (fun k => spec_shWork.f k w s) (worksL w s) := by
  have h := shWork_l0 w s hx hl hs hsl _ 0 0 [] (Nat.zero_le _) rfl (by simpa using hsm) rfl
  unfold spec_shWork.f
  simpa using h
theorem share_bounds {w s : List Int} {p : Int} (h : shareB w p s = true) : (s.length : Int) = p ∧ (∀ n ∈ s, 0 ≤ n) ∧ sm s = (w.length : Int) := by
  unfold shareB at h
  rw [Bool.and_eq_true, Bool.and_eq_true, decide_eq_true_eq, decide_eq_true_eq, List.all_eq_true] at h
  exact ⟨h.1, fun n hn => ((inn_iff _ _ _).1 (h.2.1 n hn)).1, h.2.2⟩

end Go.Proofs.Ytmnafjlpfndnmaa.M
