/- The reference's greatest common divisor. -/
import Derived.Test.YtdolabkagkdfaaaPx3
import Derived.Test.YtdolabkagkdfaaaMBase
import Derived.Test.YtdolabkagkdfaaaMGcd
namespace Go.Proofs.Ytdolabkagkdfaaa.M
open Go.RowKit Go.Proofs.Ytdolabkagkdfaaa.P Go.Proofs.YtdolabkagkdfaaaW.PrintWords Go.Proofs.Ytdolabkagkdfaaa.M
set_option linter.unusedVariables false
set_option linter.unusedSimpArgs false

theorem coDivides_l0 : ∀ (b a : Nat), Ev (fun k => spec_coDivides.l0 k (a : Int) (b : Int)) (Nat.gcd a b : Int) := by
  intro b
  induction b using Nat.strongRecOn with
  | _ b ih =>
    intro a
    by_cases hb : b = 0
    · subst hb
      refine Ev.step (f := fun _ => some (a : Int)) (fun k => ?_) (evTo (by simp) (Ev.now _))
      simp only [spec_coDivides.l0]
      rw [if_neg (by omega)]
    · refine Ev.step (fun k => ?_) (evTo (by rw [gcd_step]) (ih (a % b) (Nat.mod_lt _ (by omega)) b))
      simp only [spec_coDivides.l0]
      rw [if_pos (by omega), if_neg (by omega), tmod_nat]
theorem coDivides_ev (a b : Int) (ha : 0 ≤ a) (hb : 0 ≤ b) : Ev (fun k => spec_coDivides.f k a b) (Int.gcd a b : Int) := by
  obtain ⟨a, rfl⟩ := Int.eq_ofNat_of_zero_le ha
  obtain ⟨b, rfl⟩ := Int.eq_ofNat_of_zero_le hb
  exact coDivides_l0 b a

end Go.Proofs.Ytdolabkagkdfaaa.M
