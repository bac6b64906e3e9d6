/- For all arguments FirstRails gives the reference's answer: the plain part. -/
import Derived.Test.YtdolabkagkdfaaaPx1
import Derived.Test.YtdolabkagkdfaaaPx19
import Derived.Test.YtdolabkagkdfaaaPx22
import Derived.Test.YtdolabkagkdfaaaPx23
import Derived.Test.YtdolabkagkdfaaaPx25
import Derived.Test.YtdolabkagkdfaaaMBase
import Derived.Test.YtdolabkagkdfaaaMInts
import Derived.Test.YtdolabkagkdfaaaMAll
import Derived.Test.YtdolabkagkdfaaaMPosts
import Derived.Test.YtdolabkagkdfaaaMRoot
import Derived.Test.YtdolabkagkdfaaaMGround
import Derived.Test.YtdolabkagkdfaaaMRows
namespace Go.Proofs.Ytdolabkagkdfaaa.Pure
open Go.RowKit Go.Proofs.Ytdolabkagkdfaaa.P Go.Proofs.YtdolabkagkdfaaaW.PrintWords Go.Proofs.Ytdolabkagkdfaaa.M
set_option linter.unusedVariables false
set_option linter.unusedSimpArgs false

def OkRows (r : List (List Int)) : Prop := r.length ≤ 300000 ∧ ∀ x ∈ r, x.length ≤ 3
theorem sqn (L : Nat) (h : L ≤ 501) : wrap64 ((L : Int) * (L : Int)) = ((L * L : Nat) : Int) := wsq L (L * L) (Nat.le_refl _) (Nat.le_trans (Nat.mul_le_mul h h) (by decide))
theorem subw (a b : Nat) (h : b ≤ a) (ha : a ≤ 1000000000) : wrap64 ((a : Int) - (b : Int)) = ((a - b : Nat) : Int) := by
  rw [wrap_id (by omega) (by omega)]; omega
theorem addw (a b : Nat) (ha : a ≤ 1000000000) (hb : b ≤ 1000000000) : wrap64 ((a : Int) + (b : Int)) = ((a + b : Nat) : Int) := by
  rw [wrap_id (by omega) (by omega)]; omega
theorem inner (a0 : Int) (L : Nat) (h1 : 1 ≤ L) (h2 : L ≤ 500) (hnext : ∀ out : List (List Int), out.length ≤ L * 500 → (∀ x ∈ out, x.length ≤ 3) → ∃ r, OkRows r ∧ Ev (fun k => spec_FirstRails.l0 k a0 out ((L + 1 : Nat) : Int)) (r, true) ∧ Ev (fun k => impl_FirstRails.l0 k a0 out ((L + 1 : Nat) : Int)) (r, true)) (d : Nat) :
    ∀ (G : Nat) (out : List (List Int)), 1 ≤ G → G ≤ L → L - G = d → out.length + 500 ≤ L * 500 + G → (∀ x ∈ out, x.length ≤ 3) → ∃ r, OkRows r ∧ Ev (fun k => spec_FirstRails.l1 k a0 out (L : Int) (G : Int)) (r, true) ∧ Ev (fun k => impl_FirstRails.l1 k a0 out (L : Int) (G : Int)) (r, true) := by
  induction d with
  | zero =>
    intro G out hG1 hG2 hd ho hx
    have c : ¬ ((G : Int) < (L : Int)) := by omega
    have hL : L ≤ 1000 := by omega
    obtain ⟨r, hr, e1, e2⟩ := hnext out (by omega) hx
    refine ⟨r, hr, Ev.step (fun k => ?_) e1, Ev.step (fun k => ?_) e2⟩
    · simp only [spec_FirstRails.l1]
      rw [if_neg c, wn1 L hL]
    · simp only [impl_FirstRails.l1]
      rw [if_neg c, wn1 L hL]
  | succ d ih =>
    intro G out hG1 hG2 hd ho hx
    have hlt : G < L := by omega
    have c : (G : Int) < (L : Int) := by omega
    have hL : L ≤ 501 := by omega
    have hG : G ≤ 501 := by omega
    have hGn : G ≤ 1000 := by omega
    have i1 : 1 ≤ G + 1 := by omega
    have i2 : G + 1 ≤ L := by omega
    have i3 : L - (G + 1) = d := by omega
    have i4 : out.length + 500 ≤ L * 500 + (G + 1) := by omega
    have i5 : out.length + 1 + 500 ≤ L * 500 + (G + 1) := by omega
    have hout : out.length < 5864062014805 := by omega
    have hsq : G * G ≤ L * L := Nat.mul_le_mul hG2 hG2
    have hLL : L * L ≤ 1000000000 := Nat.le_trans (Nat.mul_le_mul hL hL) (by decide)
    have hN : L * L - G * G ≤ 1000000000 := Nat.le_trans (Nat.sub_le _ _) hLL
    obtain ⟨r, hr1, hr2, e1, t, e2, ht⟩ := roots_ev (L * L - G * G) hN
    have hgg : G * G ≤ 1000000000 := Nat.le_trans hsq hLL
    have hrr : r * r ≤ 1000000000 := Nat.le_trans hr2 hN
    have w1 := sqn L hL
    have w2 := sqn G hG
    have w3 := subw _ _ hsq hLL
    have w4 := wn1 G hGn
    have w5 := wsq r _ hr2 hN
    have w6 := addw (r * r) (G * G) hrr hgg
    have hiff : (((r * r + G * G : Nat) : Int) = ((L * L : Nat) : Int)) ↔ r * r = L * L - G * G := by
      rw [Int.ofNat_inj]
      exact ⟨fun h => by rw [← h, Nat.add_sub_cancel], fun h => by rw [h, Nat.sub_add_cancel hsq]⟩
    refine (?_ : ∃ q, OkRows q ∧ Ev (fun k => (spec_poRoot.f k ((L * L - G * G : Nat) : Int)).bind fun t430 => (if t430 ≤ (G : Int) then (if (wrap64 ((wrap64 (t430 * t430)) + ((G * G : Nat) : Int))) = ((L * L : Nat) : Int) then (if out.length < 5864062014805 then (spec_FirstRails.l1 k a0 (out ++ [(([(G : Int), t430, (L : Int)] : List Int))]) (L : Int) ((G + 1 : Nat) : Int)) else (none)) else (spec_FirstRails.l1 k a0 out (L : Int) ((G + 1 : Nat) : Int))) else (spec_FirstRails.l1 k a0 out (L : Int) ((G + 1 : Nat) : Int)))) (q, true) ∧ Ev (fun k => (impl_root.f k ((L * L - G * G : Nat) : Int)).bind fun bt444 => (if bt444.2 = true then (if bt444.1 ≤ (G : Int) then (if out.length < 5864062014805 then (impl_FirstRails.l1 k a0 (out ++ [(([(G : Int), bt444.1, (L : Int)] : List Int))]) (L : Int) ((G + 1 : Nat) : Int)) else (none)) else (impl_FirstRails.l1 k a0 out (L : Int) ((G + 1 : Nat) : Int))) else (impl_FirstRails.l1 k a0 out (L : Int) ((G + 1 : Nat) : Int)))) (q, true)).elim fun q hq => ⟨q, hq.1, Ev.step (fun k => ?_) hq.2.1, Ev.step (fun k => ?_) hq.2.2⟩
    · by_cases hroot : r * r = L * L - G * G
      · have htr := ht hroot
        subst htr
        have hE := hiff.2 hroot
        by_cases hle : (t : Int) ≤ (G : Int)
        · obtain ⟨q, hq, e3, e4⟩ := ih (G + 1) (out ++ [[(G : Int), (t : Int), (L : Int)]]) i1 i2 i3 (by rw [List.length_append, List.length_singleton]; exact i5) (fun x h => by
            rcases List.mem_append.1 h with h | h
            · exact hx x h
            · rw [List.mem_singleton.1 h]; exact Nat.le_refl _)
          refine ⟨q, hq, Ev.bind e1 ?_, Ev.bind e2 ?_⟩
          · rw [w5, w6]
            simp only [if_pos hle, if_pos hE, if_pos hout]
            exact e3
          · simp only [decide_eq_true hroot, if_true, if_pos hle, if_pos hout]
            exact e4
        · obtain ⟨q, hq, e3, e4⟩ := ih (G + 1) out i1 i2 i3 i4 hx
          refine ⟨q, hq, Ev.bind e1 ?_, Ev.bind e2 ?_⟩
          · simp only [if_neg hle]
            exact e3
          · simp only [decide_eq_true hroot, if_true, if_neg hle]
            exact e4
      · obtain ⟨q, hq, e3, e4⟩ := ih (G + 1) out i1 i2 i3 i4 hx
        have hE := fun h => hroot (hiff.1 h)
        refine ⟨q, hq, Ev.bind e1 ?_, Ev.bind e2 ?_⟩
        · rw [w5, w6]
          simp only [if_neg hE, ite_self]
          exact e3
        · simp only [decide_eq_false hroot, Bool.false_eq_true, if_false]
          exact e4
    · simp only [spec_FirstRails.l1]
      rw [if_pos c, w1, w2, w3, w4]
    · simp only [impl_FirstRails.l1]
      rw [if_pos c, w1, w2, w3, w4]
theorem outer (M : Nat) (hM : M ≤ 500) (d : Nat) : ∀ (L : Nat) (out : List (List Int)), 1 ≤ L → L ≤ M + 1 → M + 1 - L = d → out.length + 500 ≤ L * 500 → (∀ x ∈ out, x.length ≤ 3) → ∃ r, OkRows r ∧ Ev (fun k => spec_FirstRails.l0 k (M : Int) out (L : Int)) (r, true) ∧ Ev (fun k => impl_FirstRails.l0 k (M : Int) out (L : Int)) (r, true) := by
  induction d with
  | zero =>
    intro L out h1 h2 hd ho hx
    have c : ¬ ((L : Int) ≤ (M : Int)) := by omega
    refine ⟨out, ⟨by omega, hx⟩, Ev.step (f := fun _ => some _) (fun k => ?_) (Ev.now _), Ev.step (f := fun _ => some _) (fun k => ?_) (Ev.now _)⟩
    · simp only [spec_FirstRails.l0]
      rw [if_neg c]
    · simp only [impl_FirstRails.l0]
      rw [if_neg c]
  | succ d ih =>
    intro L out h1 h2 hd ho hx
    have c : (L : Int) ≤ (M : Int) := by omega
    have hL : L ≤ 500 := by omega
    have i1 : 1 ≤ L + 1 := by omega
    have i2 : L + 1 ≤ M + 1 := by omega
    have i3 : M + 1 - (L + 1) = d := by omega
    have i5 : out.length + 500 ≤ L * 500 + 1 := Nat.le_trans ho (Nat.le_add_right _ _)
    have i4 : ∀ n : Nat, n ≤ L * 500 → n + 500 ≤ (L + 1) * 500 := by intro n hn; omega
    obtain ⟨r, hr, e1, e2⟩ := inner (M : Int) L h1 hL (fun out2 h3 h4 => ih (L + 1) out2 i1 i2 i3 (i4 _ h3) h4) (L - 1) 1 out (Nat.le_refl _) h1 rfl i5 hx
    refine ⟨r, hr, Ev.step (fun k => ?_) e1, Ev.step (fun k => ?_) e2⟩
    · simp only [spec_FirstRails.l0]
      rw [if_pos c]
      rfl
    · simp only [impl_FirstRails.l0]
      rw [if_pos c]
      rfl
theorem both (a : Int) : ∃ (r : List (List Int)) (b : Bool), OkRows r ∧ Ev (fun k => spec_FirstRails.f k a) (r, b) ∧ Ev (fun k => impl_FirstRails.f k a) (r, b) := by
  have ha : impl_areLong.f [a] = some (long a) := by rw [areLong_f]; simp
  unfold spec_FirstRails.f impl_FirstRails.f
  rw [poLong_f, ha]
  cases hg : long a with
  | false => exact ⟨[], false, ⟨by simp, by simp⟩, Ev.now _, Ev.now _⟩
  | true =>
    have h2 := (long_iff _).1 hg
    obtain ⟨M, rfl⟩ := Int.eq_ofNat_of_zero_le (show 0 ≤ a by omega)
    obtain ⟨r, hr, e1, e2⟩ := outer M (by omega) _ 1 [] (Nat.le_refl _) (by omega) rfl (by simp) (by simp)
    exact ⟨r, true, hr, e1, e2⟩
theorem FnExactFirstRails : laws_FnExactFirstRails.Pure := by
  intro a _
  refine Ev.rounds ?_
  obtain ⟨r, b, hr, e1, e2⟩ := both a
  unfold laws_FnExactFirstRails.f
  refine Ev.bind e1 (Ev.bind e2 (Ev.bind (eqRows_ev r hr.2 (Nat.le_trans hr.1 (by decide))) (Ev.bind (markRows_ev r hr.2 (Nat.le_trans hr.1 (by decide))) (Ev.bind (heldRows_ev r hr.2 (Nat.le_trans hr.1 (by decide))) ?_))))
  have h0 : (0 : Int) ≤ ((mkRows 1 r).1 : Int) := by omega
  simp only [h0, and_self, if_true]
  exact Ev.now _

end Go.Proofs.Ytdolabkagkdfaaa.Pure
