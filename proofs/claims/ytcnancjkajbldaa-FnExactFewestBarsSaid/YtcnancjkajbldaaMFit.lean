/- First fit: the reference and the program cut alike. -/
import Derived.Test.YtcnancjkajbldaaPx1
import Derived.Test.YtcnancjkajbldaaPx22
import Derived.Test.YtcnancjkajbldaaPx23
import Derived.Test.YtcnancjkajbldaaPx24
import Derived.Test.YtcnancjkajbldaaPx4
import Derived.Test.YtcnancjkajbldaaMBase
import Derived.Test.YtcnancjkajbldaaMAll
import Derived.Test.YtcnancjkajbldaaMMax
namespace Go.Proofs.Ytcnancjkajbldaa.M
open Go.RowKit Go.Proofs.Ytcnancjkajbldaa.P Go.Proofs.YtcnancjkajbldaaW.PrintWords Go.Proofs.Ytcnancjkajbldaa.M
set_option linter.unusedVariables false
set_option linter.unusedSimpArgs false

def long (a : Int) : Bool := decide (1 ≤ a) && decide (a ≤ 500)
theorem long_iff (a : Int) : long a = true ↔ 1 ≤ a ∧ a ≤ 500 := by simp [long]
theorem poLong_f (a : Int) : spec_poLong.f a = some (long a) := by
  unfold spec_poLong.f spec_l1In.f long
  by_cases h : a ≥ 1
  · simp [h]
  · have h' : ¬ 1 ≤ a := h
    simp [h, h']
theorem areLong_f (l : List Int) : impl_areLong.f l = some (l.all long) := by
  unfold impl_areLong.f impl_allWithin.f long
  rfl
def railsB (l : List Int) : Bool := (decide (1 ≤ (l.length : Int)) && decide ((l.length : Int) ≤ 8)) && l.all long
theorem poGood_ev (l : List Int) (hl : l.length ≤ 1048576) : Ev (fun k => spec_poGood.f k l) (railsB l) := by
  unfold spec_poGood.f railsB
  rw [l1In_f]
  cases hx : (decide (1 ≤ (l.length : Int)) && decide ((l.length : Int) ≤ 8))
  · exact Ev.const rfl
  · simp only [Option.bind_some, if_true, Bool.true_and]
    exact Ev.bind (l1All_ev l 1 500 (by omega)) (Ev.now _)
theorem areRails_f (l : List Int) : impl_AreRails.f l = some (railsB l) := by
  unfold impl_AreRails.f impl_within.f railsB
  by_cases h : (l.length : Int) ≥ 1
  · rw [if_pos h, areLong_f]
    by_cases h2 : (l.length : Int) ≤ 8
    · simp [h2]; omega
    · simp [h2]
  · rw [if_neg h]; simp [show ¬ 1 ≤ (l.length : Int) from h]
theorem areBarred_f (l : List Int) (b : Int) : impl_areBarred.f l b = some (railsB l && long b) := by
  unfold impl_areBarred.f
  rw [areRails_f, areLong_f]
  cases h : railsB l
  · rfl
  · simp
theorem rails_bounds {l : List Int} (h : railsB l = true) : 1 ≤ l.length ∧ l.length ≤ 8 ∧ ∀ x ∈ l, 1 ≤ x ∧ x ≤ 500 := by
  unfold railsB at h
  rw [Bool.and_eq_true, Bool.and_eq_true, decide_eq_true_eq, decide_eq_true_eq, List.all_eq_true] at h
  exact ⟨by omega, by omega, fun x hx => (long_iff x).1 (h.2 x hx)⟩
theorem all_max (l : List Int) (b : Int) (h1 : ∀ x ∈ l, 1 ≤ x) : ∀ x0 rest, l = x0 :: rest → ((l.all fun n => decide (1 ≤ n) && decide (n ≤ b)) = decide (¬ maxL x0 rest > b)) := by
  rintro x0 rest rfl
  rw [Bool.eq_iff_iff, List.all_eq_true, decide_eq_true_eq, maxL_gt]
  constructor
  · intro h
    rintro (h2 | ⟨x, hx, h2⟩)
    · have := h x0 List.mem_cons_self
      simp at this; omega
    · have := h x (List.mem_cons_of_mem _ hx)
      simp at this; omega
  · intro h x hx
    have hx1 := h1 x hx
    have hxb : x ≤ b := by
      rcases List.mem_cons.1 hx with rfl | hx
      · exact Int.not_lt.1 (fun q => h (.inl q))
      · exact Int.not_lt.1 (fun q => h (.inr ⟨x, hx, q⟩))
    simp; omega
theorem fit_search (bar rail : Int) (rails O R : List Int) (i : Nat) (res : List Int × Bool) (hi : i ≤ 100) (hR : R.length ≤ 100) (hO : O.length ≤ 100)
    (hnext : Ev (fun k => spec_FirstFit.l0 k bar
      (if slices_IndexFunc_int_int.at (impl_FirstFit.pr rail) R < 0 then O ++ [(R.length : Int)] else O ++ [slices_IndexFunc_int_int.at (impl_FirstFit.pr rail) R])
      (if slices_IndexFunc_int_int.at (impl_FirstFit.pr rail) R < 0 then (R ++ [bar]).set R.length (wrap64 (bar - rail)) else R.set (slices_IndexFunc_int_int.at (impl_FirstFit.pr rail) R).toNat (wrap64 (rd R (slices_IndexFunc_int_int.at (impl_FirstFit.pr rail) R) - rail)))
      rails (rails.length : Int) ((i + 1 : Nat) : Int)) res) (d : Nat) :
    ∀ j : Nat, j + d = R.length → (∀ q, q < j → impl_FirstFit.pr rail (R.getD q 0) = false) → Ev (fun k => spec_FirstFit.l1 k bar O R rail (j : Int) rails (rails.length : Int) (i : Int)) res := by
  have wi : wrap64 ((i : Int) + 1) = ((i + 1 : Nat) : Int) := by rw [wrap_id (by omega) (by omega)]; rfl
  induction d with
  | zero =>
    intro j hj hq
    have hjl : j = R.length := by omega
    subst hjl
    have hat := slices_IndexFunc_int_int.at_miss (impl_FirstFit.pr rail) R hq
    rw [hat] at hnext
    have hneg : (-1 : Int) < 0 := by decide
    simp only [if_pos hneg] at hnext
    refine Ev.step (fun k => ?_) hnext
    have hrdn : rd (R ++ [bar]) (R.length : Int) = bar := by simp [rd]
    simp only [spec_FirstFit.l1]
    rw [if_neg (Int.lt_irrefl _), if_pos True.intro, if_pos (show R.length < 17592186044416 by omega), Option.bind_some, if_pos (Int.natCast_nonneg _), hrdn, if_pos (show (R.length : Int) < ((R ++ [bar]).length : Int) by rw [List.length_append, List.length_singleton]; omega), if_pos (show O.length < 17592186044416 by omega), wi, Int.toNat_natCast]
  | succ d ih =>
    intro j hj hq
    have hlt : j < R.length := by omega
    have c1 : (j : Int) < (R.length : Int) := by omega
    have c2 : 0 ≤ (j : Int) := by omega
    have hrdj : rd R (j : Int) = R.getD j 0 := by simp [rd]
    by_cases c : R.getD j 0 < rail
    · have wj : wrap64 ((j : Int) + 1) = ((j + 1 : Nat) : Int) := by rw [wrap_id (by omega) (by omega)]; rfl
      refine Ev.step (fun k => ?_) (ih (j + 1) (by omega) (fun q h => ?_))
      · simp only [spec_FirstFit.l1]
        rw [if_pos c1, if_pos c2, hrdj, if_pos c, wj]
      · by_cases e : q = j
        · subst e
          exact decide_eq_false (by omega)
        · exact hq q (by omega)
    · have hg : R[j] = R.getD j 0 := by rw [List.getD_eq_getElem?_getD, List.getElem?_eq_getElem hlt]; rfl
      have hat := slices_IndexFunc_int_int.at_hit (impl_FirstFit.pr rail) R j hlt (by rw [hg]; exact decide_eq_true (by omega)) hq
      rw [hat] at hnext
      have hneg : ¬ (j : Int) < 0 := by omega
      simp only [if_neg hneg] at hnext
      have hne : ¬ (j : Int) = (R.length : Int) := by omega
      refine Ev.step (fun k => ?_) hnext
      simp only [spec_FirstFit.l1]
      rw [if_pos c1, if_pos c2, hrdj, if_neg c, if_neg hne, if_pos (show O.length < 17592186044416 by omega), wi]
theorem fit_l0 (bar : Int) (rails : List Int) (hl : rails.length ≤ 8) (d : Nat) : ∀ (i : Nat) (O R : List Int), i + d = rails.length → O.length ≤ i → R.length ≤ i → Ev (fun k => spec_FirstFit.l0 k bar O R rails (rails.length : Int) (i : Int)) (impl_FirstFit.l0 bar (rails.drop i) O R, true) := by
  induction d with
  | zero =>
    intro i O R hi hO hR
    refine Ev.step (f := fun _ => some _) (fun k => ?_) (Ev.now _)
    simp only [spec_FirstFit.l0]
    rw [if_neg (by omega), List.drop_eq_nil_of_le (by omega)]
    rfl
  | succ d ih =>
    intro i O R hi hO hR
    have hlt : i < rails.length := by omega
    have c1 : (i : Int) < (rails.length : Int) := by omega
    have c2 : 0 ≤ (i : Int) := by omega
    have hrd := rd_get rails i hlt
    rw [List.drop_eq_getElem_cons hlt]
    have hs := fit_search bar rails[i] rails O R i (impl_FirstFit.l0 bar (rails[i] :: rails.drop (i + 1)) O R, true) (by omega) (by omega) (by omega) (evTo ?_ (ih (i + 1) _ _ (by omega) ?_ ?_)) R.length 0 (by omega) (fun q h => absurd h (Nat.not_lt_zero _))
    · refine Ev.step (fun k => ?_) hs
      simp only [spec_FirstFit.l0]
      rw [if_pos c1, if_pos c2, if_pos c1, hrd]
      rfl
    · conv => rhs; unfold impl_FirstFit.l0
      by_cases c : slices_IndexFunc_int_int.at (impl_FirstFit.pr rails[i]) R < 0
      · simp only [if_pos c]
      · simp only [if_neg c]
    · by_cases c : slices_IndexFunc_int_int.at (impl_FirstFit.pr rails[i]) R < 0
      · simp only [if_pos c, List.length_append, List.length_singleton]; omega
      · simp only [if_neg c, List.length_append, List.length_singleton]; omega
    · by_cases c : slices_IndexFunc_int_int.at (impl_FirstFit.pr rails[i]) R < 0
      · simp only [if_pos c, List.length_set, List.length_append, List.length_singleton]; omega
      · simp only [if_neg c, List.length_set]; omega
theorem fitOut_len (bar : Int) : ∀ (rails O R : List Int), (impl_FirstFit.l0 bar rails O R).length = O.length + rails.length
  | [], _, _ => rfl
  | rail :: rs, O, R => by
    unfold impl_FirstFit.l0
    by_cases c : slices_IndexFunc_int_int.at (impl_FirstFit.pr rail) R < 0
    · rw [if_pos c, fitOut_len bar rs, List.length_append, List.length_singleton, List.length_cons]; omega
    · rw [if_neg c, fitOut_len bar rs, List.length_append, List.length_singleton, List.length_cons]; omega

end Go.Proofs.Ytcnancjkajbldaa.M
