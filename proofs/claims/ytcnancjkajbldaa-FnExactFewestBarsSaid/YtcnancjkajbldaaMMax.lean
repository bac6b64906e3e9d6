/- The greatest number of a list, as slices.Max finds it. -/
import Derived.Test.YtcnancjkajbldaaPx5
import Derived.Test.YtcnancjkajbldaaMBase
namespace Go.Proofs.Ytcnancjkajbldaa.M
open Go.RowKit Go.Proofs.Ytcnancjkajbldaa.P Go.Proofs.YtcnancjkajbldaaW.PrintWords Go.Proofs.Ytcnancjkajbldaa.M
set_option linter.unusedVariables false
set_option linter.unusedSimpArgs false

def maxL (m : Int) (l : List Int) : Int := l.foldl max m
theorem mx_max (a b : Int) : mx a b = max a b := by
  unfold mx
  split <;> omega
theorem max_l0 (l : List Int) (hl : l.length ≤ 1000000000) (d : Nat) : ∀ (i : Nat) (m : Int), i ≤ l.length → l.length - i = d → Ev (fun k => slices_Max_int_int.l0 k l m (i : Int)) (maxL m (l.drop i)) := by
  induction d with
  | zero =>
    intro i m hi hd
    have e : i = l.length := by omega
    subst e
    refine Ev.step (f := fun _ => some _) (fun k => ?_) (Ev.now _)
    simp only [slices_Max_int_int.l0]
    rw [if_neg (by omega), List.drop_length]
    rfl
  | succ d ih =>
    intro i m hi hd
    have hlt : i < l.length := by omega
    rw [List.drop_eq_getElem_cons hlt]
    refine Ev.step (fun k => ?_) (ih (i + 1) (max m l[i]) (by omega) (by omega))
    simp only [slices_Max_int_int.l0]
    rw [if_pos (by omega), if_pos (by omega), rd_get l i hlt, mx_max, wrap_id (by omega) (by omega)]
    rfl
theorem max_ev (x : Int) (l : List Int) (hl : l.length ≤ 1000000) : Ev (fun k => slices_Max_int_int.f k (x :: l)) (maxL x l) := by
  unfold slices_Max_int_int.f
  have h1 : ¬ (((x :: l).length : Int) < 1) := by simp only [List.length_cons]; omega
  have h2 : 0 < ((x :: l).length : Int) := by simp only [List.length_cons]; omega
  simp only [h1, h2, if_true, if_false]
  have h := max_l0 (x :: l) (by simp; omega) _ 1 x (by simp) rfl
  simpa [rd] using h
theorem maxL_ge (l : List Int) : ∀ m : Int, m ≤ maxL m l := by
  induction l with
  | nil => intro m; exact Int.le_refl _
  | cons x xs ih => intro m; exact Int.le_trans (Int.le_max_left m x) (ih (max m x))
theorem maxL_gt (l : List Int) : ∀ m b : Int, (maxL m l > b ↔ m > b ∨ ∃ x ∈ l, x > b) := by
  induction l with
  | nil => intro m b; simp [maxL]
  | cons y ys ih =>
    intro m b
    show maxL (max m y) ys > b ↔ _
    rw [ih]
    constructor
    · rintro (h | ⟨x, hx, h⟩)
      · by_cases hm : m > b
        · exact .inl hm
        · exact .inr ⟨y, List.mem_cons_self, by omega⟩
      · exact .inr ⟨x, List.mem_cons_of_mem _ hx, h⟩
    · rintro (h | ⟨x, hx, h⟩)
      · exact .inl (by omega)
      · rcases List.mem_cons.1 hx with rfl | hx
        · exact .inl (by omega)
        · exact .inr ⟨x, hx, h⟩

end Go.Proofs.Ytcnancjkajbldaa.M
