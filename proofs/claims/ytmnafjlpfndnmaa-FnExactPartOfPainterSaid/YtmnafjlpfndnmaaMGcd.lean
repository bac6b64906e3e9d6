/- Euclid's steps, of the reference and of the program: the greatest common divisor; lowest terms. -/
import Derived.Test.YtmnafjlpfndnmaaPx7
import Derived.Test.YtmnafjlpfndnmaaMBase
namespace Go.Proofs.Ytmnafjlpfndnmaa.M
open Go.RowKit Go.Proofs.Ytmnafjlpfndnmaa.P Go.Proofs.YtmnafjlpfndnmaaW.PrintWords Go.Proofs.Ytmnafjlpfndnmaa.M
set_option linter.unusedVariables false
set_option linter.unusedSimpArgs false

theorem gcd_step (a b : Nat) : Nat.gcd b (a % b) = Nat.gcd a b := by
  rw [Nat.gcd_comm b, ← Nat.gcd_rec, Nat.gcd_comm]
theorem tmod_nat (a b : Nat) : Int.tmod (a : Int) (b : Int) = ((a % b : Nat) : Int) := by
  rw [Int.tmod_eq_emod_of_nonneg (by omega)]; rfl
theorem divisor_l0 : ∀ (b a : Nat), Ev (fun k => impl_divisor.l0 k (a : Int) (b : Int)) (Nat.gcd a b : Int) := by
  intro b
  induction b using Nat.strongRecOn with
  | _ b ih =>
    intro a
    by_cases hb : b = 0
    · subst hb
      refine Ev.step (f := fun _ => some (a : Int)) (fun k => ?_) (evTo (by simp) (Ev.now _))
      simp only [impl_divisor.l0]
      rw [if_pos (by omega)]
    · refine Ev.step (fun k => ?_) (evTo (by rw [gcd_step]) (ih (a % b) (Nat.mod_lt _ (by omega)) b))
      simp only [impl_divisor.l0]
      rw [if_neg (by omega), tmod_nat]
theorem divisor_ev (a b : Int) (ha : 0 ≤ a) (hb : 0 ≤ b) : Ev (fun k => impl_divisor.f k a b) (Int.gcd a b : Int) := by
  obtain ⟨a, rfl⟩ := Int.eq_ofNat_of_zero_le ha
  obtain ⟨b, rfl⟩ := Int.eq_ofNat_of_zero_le hb
  exact divisor_l0 b a

end Go.Proofs.Ytmnafjlpfndnmaa.M
