/- Whole roots: the reference's greatest one whose square isn't greater, and the program's search. -/
import Derived.Test.YtdolabkagkdfaaaPx19
import Derived.Test.YtdolabkagkdfaaaMBase
namespace Go.Proofs.Ytdolabkagkdfaaa.M
open Go.RowKit Go.Proofs.Ytdolabkagkdfaaa.P Go.Proofs.YtdolabkagkdfaaaW.PrintWords Go.Proofs.Ytdolabkagkdfaaa.M
set_option linter.unusedVariables false
set_option linter.unusedSimpArgs false

theorem root_exists (n : Nat) : ∃ r : Nat, r * r ≤ n ∧ n < (r + 1) * (r + 1) := by
  induction n with
  | zero => exact ⟨0, by omega, by omega⟩
  | succ n ih =>
    obtain ⟨r, h1, h2⟩ := ih
    by_cases h : n + 1 < (r + 1) * (r + 1)
    · exact ⟨r, by omega, h⟩
    · refine ⟨r + 1, by omega, ?_⟩
      have e : (r + 1 + 1) * (r + 1 + 1) = (r + 1) * (r + 1) + 2 * (r + 1) + 1 := by rw [Nat.add_mul, Nat.mul_add]; omega
      omega
theorem root_le {r n : Nat} (h : r * r ≤ n) : r ≤ n := by
  rcases Nat.eq_zero_or_pos r with h0 | h0
  · omega
  · exact Nat.le_trans (Nat.le_mul_of_pos_left r h0) h
theorem sq_succ (r : Nat) : (r + 1) * (r + 1) = r * r + 2 * r + 1 := by rw [Nat.add_mul, Nat.mul_add]; omega
theorem poRoot_l0 (n r : Nat) (hn : n ≤ 1000000000) (h1 : r * r ≤ n) (h2 : n < (r + 1) * (r + 1)) (d : Nat) : ∀ i : Nat, i ≤ r → r - i = d → Ev (fun k => spec_poRoot.l0 k (n : Int) (i : Int)) (r : Int) := by
  have hr := root_le h1
  have hs := sq_succ r
  induction d with
  | zero =>
    intro i hi hd
    have e : i = r := by omega
    subst e
    refine Ev.step (f := fun _ => some _) (fun k => ?_) (Ev.now _)
    simp only [spec_poRoot.l0]
    rw [wrap_id (a := (i : Int) + 1) (by omega) (by omega), show ((i : Int) + 1) * ((i : Int) + 1) = (((i + 1) * (i + 1) : Nat) : Int) from by rw [Int.natCast_mul]; rfl, wrap_id (by omega) (by omega), if_neg (by omega)]
  | succ d ih =>
    intro i hi hd
    have hm : (i + 1) * (i + 1) ≤ r * r := Nat.mul_le_mul (by omega) (by omega)
    refine Ev.step (fun k => ?_) (ih (i + 1) (by omega) (by omega))
    simp only [spec_poRoot.l0]
    rw [wrap_id (a := (i : Int) + 1) (by omega) (by omega), show ((i : Int) + 1) * ((i : Int) + 1) = (((i + 1) * (i + 1) : Nat) : Int) from by rw [Int.natCast_mul]; rfl, wrap_id (by omega) (by omega), if_pos (by omega)]
    rfl
theorem root_l0 (n r t : Nat) (hn : n ≤ 1000000000) (h1 : r * r ≤ n) (h2 : n < (r + 1) * (r + 1)) (ht : t = if r * r = n then r else r + 1) (d : Nat) : ∀ i : Nat, i ≤ t → t - i = d → Ev (fun k => impl_root.l0 k (n : Int) (i : Int)) ((t : Int), decide (r * r = n)) := by
  have hr := root_le h1
  have hs := sq_succ r
  induction d with
  | zero =>
    intro i hi hd
    have e : i = t := by omega
    have hval : (t * t = n ∧ r * r = n) ∨ (n < t * t ∧ r * r ≠ n ∧ t * t ≤ 4000000000) := by
      by_cases hq : r * r = n
      · rw [if_pos hq] at ht; subst ht; exact .inl ⟨hq, hq⟩
      · rw [if_neg hq] at ht; subst ht; exact .inr ⟨h2, hq, by omega⟩
    rw [e]
    refine Ev.step (f := fun _ => some _) (fun k => ?_) (Ev.now _)
    simp only [impl_root.l0]
    rw [← Int.natCast_mul, wrap_id (by omega) (by omega), if_neg (by omega)]
    rcases hval with ⟨a, b⟩ | ⟨a, b, _⟩
    · simp [a, b]
    · simp [b]; omega
  | succ d ih =>
    intro i hi hd
    have hlt : i * i < n := by
      by_cases hq : r * r = n
      · rw [if_pos hq] at ht
        have h3 : (i + 1) * (i + 1) ≤ r * r := Nat.mul_le_mul (by omega) (by omega)
        have h4 := sq_succ i
        omega
      · rw [if_neg hq] at ht
        have h3 : i * i ≤ r * r := Nat.mul_le_mul (by omega) (by omega)
        omega
    have hit : i < t := by omega
    have hil := root_le (show i * i ≤ n by omega)
    refine Ev.step (fun k => ?_) (ih (i + 1) (by omega) (by omega))
    simp only [impl_root.l0]
    rw [← Int.natCast_mul, wrap_id (a := ((i * i : Nat) : Int)) (by omega) (by omega), if_pos (by omega), wrap_id (a := (i : Int) + 1) (by omega) (by omega)]
    rfl
theorem roots_ev (n : Nat) (hn : n ≤ 1000000000) : ∃ r : Nat, r ≤ n ∧ r * r ≤ n ∧ Ev (fun k => spec_poRoot.f k (n : Int)) (r : Int) ∧ ∃ t : Nat, Ev (fun k => impl_root.f k (n : Int)) ((t : Int), decide (r * r = n)) ∧ (r * r = n → t = r) := by
  obtain ⟨r, h1, h2⟩ := root_exists n
  refine ⟨r, root_le h1, h1, poRoot_l0 n r hn h1 h2 _ 0 (Nat.zero_le _) rfl, _, root_l0 n r _ hn h1 h2 rfl _ 0 (Nat.zero_le _) rfl, fun h => by rw [if_pos h]⟩

end Go.Proofs.Ytdolabkagkdfaaa.M
