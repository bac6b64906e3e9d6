/- Lowest terms, of the reference and of the program. -/
import Derived.Test.YtmnafjlpfndnmaaPx7
import Derived.Test.YtmnafjlpfndnmaaMBase
import Derived.Test.YtmnafjlpfndnmaaMGcd
namespace Go.Proofs.Ytmnafjlpfndnmaa.M
open Go.RowKit Go.Proofs.Ytmnafjlpfndnmaa.P Go.Proofs.YtmnafjlpfndnmaaW.PrintWords Go.Proofs.Ytmnafjlpfndnmaa.M
set_option linter.unusedVariables false
set_option linter.unusedSimpArgs false

theorem shLow_l0 (n d : Int) : ∀ (b a : Nat), (0 < a ∨ 0 < b) → Ev (fun k => spec_shLow.l0 k n d (a : Int) (b : Int)) (wrap64 (Int.tdiv n (Nat.gcd a b : Int)), wrap64 (Int.tdiv d (Nat.gcd a b : Int))) := by
  intro b
  induction b using Nat.strongRecOn with
  | _ b ih =>
    intro a hab
    by_cases hb : b = 0
    · subst hb
      refine Ev.step (f := fun _ => some _) (fun k => ?_) (evTo (by rw [Nat.gcd_zero_right]) (Ev.now _))
      simp only [spec_shLow.l0]
      rw [if_neg (by omega), if_neg (by omega)]
    · refine Ev.step (fun k => ?_) (evTo (by rw [gcd_step]) (ih (a % b) (Nat.mod_lt _ (by omega)) b (.inl (by omega))))
      simp only [spec_shLow.l0]
      rw [if_pos (by omega), if_neg (by omega), tmod_nat]
theorem shLow_ev (a b : Int) (ha : 0 ≤ a) (hb : 0 < b) : Ev (fun k => spec_shLow.f k a b) (wrap64 (Int.tdiv a (Int.gcd a b : Int)), wrap64 (Int.tdiv b (Int.gcd a b : Int))) := by
  obtain ⟨a, rfl⟩ := Int.eq_ofNat_of_zero_le ha
  obtain ⟨b, rfl⟩ := Int.eq_ofNat_of_zero_le (Int.le_of_lt hb)
  exact shLow_l0 _ _ b a (.inr (by omega))
theorem lowest_ev (a b : Int) (ha : 0 ≤ a) (hb : 0 < b) : Ev (fun k => impl_lowest.f k a b) (wrap64 (Int.tdiv a (Int.gcd a b : Int)), wrap64 (Int.tdiv b (Int.gcd a b : Int)), true) := by
  unfold impl_lowest.f
  refine Ev.bind (divisor_ev a b ha (Int.le_of_lt hb)) (Ev.const ?_)
  rw [if_neg]
  have : 0 < Int.gcd a b := Int.gcd_pos_of_ne_zero_right _ (by omega)
  omega

end Go.Proofs.Ytmnafjlpfndnmaa.M
