/- The reference's and the program's tests on lengths say the same. -/
import Derived.Test.YtdolabkagkdfaaaPx1
import Derived.Test.YtdolabkagkdfaaaMBase
namespace Go.Proofs.Ytdolabkagkdfaaa.M
open Go.RowKit Go.Proofs.Ytdolabkagkdfaaa.P Go.Proofs.YtdolabkagkdfaaaW.PrintWords Go.Proofs.Ytdolabkagkdfaaa.M
set_option linter.unusedVariables false
set_option linter.unusedSimpArgs false

def long (a : Int) : Bool := decide (1 ≤ a) && decide (a ≤ 500)
theorem poLong_f (a : Int) : spec_poLong.f a = some (long a) := by
  unfold spec_poLong.f spec_l1In.f long
  by_cases h : a ≥ 1
  · simp [h]
  · have h' : ¬ 1 ≤ a := h
    simp [h, h']
theorem areLong_f (l : List Int) : impl_areLong.f l = some (l.all long) := by
  unfold impl_areLong.f impl_allWithin.f long
  rfl
theorem long_iff (a : Int) : long a = true ↔ 1 ≤ a ∧ a ≤ 500 := by simp [long]
def parts (a b : Int) : Int := (a + b - 1) / b
theorem poParts_f (a b : Int) (ha : long a = true) (hb : long b = true) : spec_poParts.f a b = some (parts a b) := by
  rw [long_iff] at ha hb
  unfold spec_poParts.f parts
  rw [if_neg (by omega), wrap_id (a := a + b) (by omega) (by omega), wrap_id (a := a + b - 1) (by omega) (by omega), Int.tdiv_eq_ediv_of_nonneg (by omega)]
  have h1 : 0 ≤ (a + b - 1) / b := Int.ediv_nonneg (by omega) (by omega)
  have h2 : (a + b - 1) / b ≤ a + b - 1 := Int.ediv_le_self _ (by omega)
  rw [wrap_id (by omega) (by omega)]
theorem up_f (a b : Int) (ha : long a = true) (hb : long b = true) : impl_up.f a b = some (parts a b) := poParts_f a b ha hb
theorem parts_range (a b : Int) (ha : long a = true) (hb : long b = true) : 1 ≤ parts a b ∧ parts a b ≤ 500 := by
  rw [long_iff] at ha hb
  unfold parts
  have h1 : 1 ≤ (a + b - 1) / b := by rw [Int.le_ediv_iff_mul_le (by omega)]; omega
  have h2 : (a + b - 1) / b ≤ a := by
    have h3 : 1 * a ≤ b * a := Int.mul_le_mul_of_nonneg_right (by omega) (by omega)
    have h4 : b * 1 ≤ b * a := Int.mul_le_mul_of_nonneg_left (by omega) (by omega)
    have h5 : (b - 1) * 1 ≤ (b - 1) * a := Int.mul_le_mul_of_nonneg_left (by omega) (by omega)
    rw [Int.sub_mul] at h5
    have : (a + b - 1) / b < a + 1 := by
      rw [Int.ediv_lt_iff_lt_mul (by omega), Int.add_mul, Int.mul_comm a b]
      rw [Int.mul_comm b a] at *
      omega
    omega
  omega

end Go.Proofs.Ytdolabkagkdfaaa.M
