/- Widths, rates, sums: the reference and the program say the same. -/
import Derived.Test.YtcnancjkajbldaaPx1
import Derived.Test.YtcnancjkajbldaaPx13
import Derived.Test.YtcnancjkajbldaaPx2
import Derived.Test.YtcnancjkajbldaaPx4
import Derived.Test.YtcnancjkajbldaaPx5
import Derived.Test.YtcnancjkajbldaaMBase
import Derived.Test.YtcnancjkajbldaaMAll
namespace Go.Proofs.Ytcnancjkajbldaa.M
open Go.RowKit Go.Proofs.Ytcnancjkajbldaa.P Go.Proofs.YtcnancjkajbldaaW.PrintWords Go.Proofs.Ytcnancjkajbldaa.M
set_option linter.unusedVariables false
set_option linter.unusedSimpArgs false

def inn (lo hi : Int) (n : Int) : Bool := decide (lo ≤ n) && decide (n ≤ hi)
theorem inn_iff (lo hi n : Int) : inn lo hi n = true ↔ lo ≤ n ∧ n ≤ hi := by simp [inn]
def widthsB (l : List Int) : Bool := inn 1 12 (l.length : Int) && l.all (inn 1 100)
def ratesB (l : List Int) : Bool := inn 1 5 (l.length : Int) && l.all (inn 1 20)
theorem within_f (a b c : Int) : impl_within.f a b c = some (inn b c a) := by
  unfold impl_within.f inn
  by_cases h : a ≥ b
  · rw [if_pos h]; simp [h]
  · rw [if_neg h]; simp [show ¬ b ≤ a from h]
theorem l1In_inn (a b c : Int) : spec_l1In.f a b c = some (inn b c a) := l1In_f a b c
theorem allWithin_f (l : List Int) (lo hi : Int) : impl_allWithin.f l lo hi = some (l.all (inn lo hi)) := rfl
theorem shWidths_ev (l : List Int) (hl : l.length ≤ 1048576) : Ev (fun k => spec_shWidths.f k l) (widthsB l) := by
  unfold spec_shWidths.f widthsB
  rw [l1In_inn]
  simp only [Option.bind_some]
  cases h : inn 1 12 (l.length : Int)
  · exact Ev.now _
  · exact Ev.bind (l1All_ev l 1 100 (by omega)) (Ev.now _)
theorem areWidths_f (l : List Int) : impl_AreWidths.f l = some (widthsB l) := by
  unfold impl_AreWidths.f widthsB
  rw [within_f, allWithin_f]
  cases h : inn 1 12 (l.length : Int) <;> rfl
theorem shRates_ev (l : List Int) (hl : l.length ≤ 1048576) : Ev (fun k => spec_shRates.f k l) (ratesB l) := by
  unfold spec_shRates.f ratesB
  rw [l1In_inn]
  simp only [Option.bind_some]
  cases h : inn 1 5 (l.length : Int)
  · exact Ev.now _
  · exact Ev.bind (l1All_ev l 1 20 (by omega)) (Ev.now _)
theorem areRates_f (l : List Int) : impl_AreRates.f l = some (ratesB l) := by
  unfold impl_AreRates.f ratesB
  rw [within_f, allWithin_f]
  cases h : inn 1 5 (l.length : Int) <;> rfl
theorem shRated_ev (w r : List Int) (hw : w.length ≤ 1048576) (hr : r.length ≤ 1048576) : Ev (fun k => spec_shRated.f k w r) (widthsB w && ratesB r) := by
  unfold spec_shRated.f
  refine Ev.bind (shWidths_ev w hw) ?_
  cases h : widthsB w
  · exact Ev.now _
  · exact Ev.bind (shRates_ev r hr) (Ev.now _)
theorem areRated_f (w r : List Int) : impl_areRated.f w r = some (widthsB w && ratesB r) := by
  unfold impl_areRated.f
  rw [areWidths_f, areRates_f]
  cases h : widthsB w <;> rfl
theorem shPainters_ev (w : List Int) (p : Int) (hw : w.length ≤ 1048576) : Ev (fun k => spec_shPainters.f k w p) (widthsB w && inn 1 5 p) := by
  unfold spec_shPainters.f
  refine Ev.bind (shWidths_ev w hw) ?_
  rw [l1In_inn]
  cases h : widthsB w
  · exact Ev.now _
  · exact Ev.now _
theorem arePainted_f (w : List Int) (p : Int) : impl_arePainted.f w p = some (widthsB w && inn 1 5 p) := by
  unfold impl_arePainted.f
  rw [areWidths_f, within_f]
  cases h : widthsB w <;> rfl
/-- The sum of a list. -/
def sm : List Int → Int
  | [] => 0
  | x :: xs => x + sm xs
theorem sm_append (a b : List Int) : sm (a ++ b) = sm a + sm b := by
  induction a with
  | nil => simp [sm]
  | cons x xs ih => simp only [List.cons_append, sm, ih]; omega
theorem sm_range (b : Int) (hb : 0 ≤ b) (l : List Int) (h : ∀ x ∈ l, 0 ≤ x ∧ x ≤ b) : 0 ≤ sm l ∧ sm l ≤ b * (l.length : Int) := by
  induction l with
  | nil => simp [sm]
  | cons x xs ih =>
    have h1 := ih (fun y hy => h y (List.mem_cons_of_mem _ hy))
    have h2 := h x List.mem_cons_self
    simp only [sm, List.length_cons]
    rw [show ((xs.length + 1 : Nat) : Int) = (xs.length : Int) + 1 from by omega, Int.mul_add, Int.mul_one]
    omega
theorem shSum_l0 (l : List Int) (hl : l.length ≤ 1000000) (hx : ∀ x ∈ l, -1000000 ≤ x ∧ x ≤ 1000000) (d : Nat) : ∀ (i : Nat) (acc : Int), i ≤ l.length → l.length - i = d → -1000000 * (i : Int) ≤ acc → acc ≤ 1000000 * (i : Int) →
    Ev (fun k => spec_shSum.l0 k acc l (l.length : Int) (i : Int)) (acc + sm (l.drop i)) := by
  induction d with
  | zero =>
    intro i acc hi hd h0 h1
    have e : i = l.length := by omega
    subst e
    refine Ev.step (f := fun _ => some _) (fun k => ?_) (Ev.now _)
    simp only [spec_shSum.l0]
    rw [if_neg (by omega), List.drop_length]
    simp [sm]
  | succ d ih =>
    intro i acc hi hd h0 h1
    have hlt : i < l.length := by omega
    have hb := hx l[i] (List.getElem_mem hlt)
    refine Ev.step (fun k => ?_) (evTo ?_ (ih (i + 1) (acc + l[i]) (by omega) (by omega) (by omega) (by omega)))
    · simp only [spec_shSum.l0]
      rw [if_pos (by omega), if_pos (by omega), if_pos (by omega), rd_get l i hlt, wrap_id (a := acc + l[i]) (by omega) (by omega), wrap_id (by omega) (by omega)]
      rfl
    · rw [List.drop_eq_getElem_cons hlt, sm]
      omega
theorem shSum_ev (l : List Int) (hl : l.length ≤ 1000000) (hx : ∀ x ∈ l, -1000000 ≤ x ∧ x ≤ 1000000) : Ev (fun k => spec_shSum.f k l) (sm l) := evTo (by simp) (shSum_l0 l hl hx _ 0 0 (Nat.zero_le _) rfl (by omega) (by omega))
theorem sumOf_l0 : ∀ (k : Nat) (a : Int) (l : List Int) (n i : Int), impl_sumOf.l0 k a l n i = spec_shSum.l0 k a l n i
  | 0, _, _, _, _ => rfl
  | k + 1, a, l, n, i => by
    simp only [impl_sumOf.l0, spec_shSum.l0, sumOf_l0 k]
theorem sumOf_ev (l : List Int) (hl : l.length ≤ 1000000) (hx : ∀ x ∈ l, -1000000 ≤ x ∧ x ≤ 1000000) : Ev (fun k => impl_sumOf.f k l) (sm l) := by
  have h := shSum_ev l hl hx
  unfold spec_shSum.f at h
  unfold impl_sumOf.f
  simpa only [sumOf_l0] using h
theorem widths_bounds {l : List Int} (h : widthsB l = true) : 1 ≤ l.length ∧ l.length ≤ 12 ∧ ∀ x ∈ l, 1 ≤ x ∧ x ≤ 100 := by
  unfold widthsB at h
  rw [Bool.and_eq_true, inn_iff, List.all_eq_true] at h
  exact ⟨by omega, by omega, fun x hx => (inn_iff _ _ _).1 (h.2 x hx)⟩
theorem rates_bounds {l : List Int} (h : ratesB l = true) : 1 ≤ l.length ∧ l.length ≤ 5 ∧ ∀ x ∈ l, 1 ≤ x ∧ x ≤ 20 := by
  unfold ratesB at h
  rw [Bool.and_eq_true, inn_iff, List.all_eq_true] at h
  exact ⟨by omega, by omega, fun x hx => (inn_iff _ _ _).1 (h.2 x hx)⟩

end Go.Proofs.Ytcnancjkajbldaa.M
