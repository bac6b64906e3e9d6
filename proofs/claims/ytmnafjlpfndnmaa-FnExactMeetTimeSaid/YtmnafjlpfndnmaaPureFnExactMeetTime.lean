/- For all arguments MeetTime gives the reference's answer, and leaves the list alone: the plain part. -/
import Derived.Test.YtmnafjlpfndnmaaPx6
import Derived.Test.YtmnafjlpfndnmaaPx7
import Derived.Test.YtmnafjlpfndnmaaPx8
import Derived.Test.YtmnafjlpfndnmaaPx9
import Derived.Test.YtmnafjlpfndnmaaMBase
import Derived.Test.YtmnafjlpfndnmaaMInts
import Derived.Test.YtmnafjlpfndnmaaMAll
import Derived.Test.YtmnafjlpfndnmaaMGcd
import Derived.Test.YtmnafjlpfndnmaaMLow
import Derived.Test.YtmnafjlpfndnmaaMShare
import Derived.Test.YtmnafjlpfndnmaaMTerms
namespace Go.Proofs.Ytmnafjlpfndnmaa.Pure
open Go.RowKit Go.Proofs.Ytmnafjlpfndnmaa.P Go.Proofs.YtmnafjlpfndnmaaW.PrintWords Go.Proofs.Ytmnafjlpfndnmaa.M
set_option linter.unusedVariables false
set_option linter.unusedSimpArgs false

theorem law_of (w : List Int) (a : Int) (b : Int) (r0 : Int) (r1 : Int) (r2 : Bool) (hb_w : ¬ ((w.length : Int) > 1048576)) (hs : Ev (fun k => spec_MeetTime.f k w a b) (r0, r1, r2)) (hi : Ev (fun k => impl_MeetTime.f k w a b) (r0, r1, r2)) : Ev (fun k => laws_FnExactMeetTime.f k w a b) true := by
  have ht_w := toIntS_ev w (by omega)
  have he_w := eqIntS_same w (by omega)
  unfold laws_FnExactMeetTime.f
  repeat (first
    | exact Ev.now _
    | (with_reducible refine Ev.bind hs ?_)
    | (with_reducible refine Ev.bind hi ?_)
    | (with_reducible refine Ev.bind ht_w ?_)
    | (with_reducible refine Ev.bind he_w ?_)
    | simp only [if_true, if_false, bne_self_eq_false, Bool.false_eq_true, Option.bind_some, hb_w]
    | (refine Ev.step (fun k => rfl) ?_; simp only [laws_FnExactMeetTime.j0, if_true, if_false, bne_self_eq_false, Bool.false_eq_true, Option.bind_some, hb_w])
    )

theorem shMeet_ev (w : List Int) (a b : Int) (hw : w.length ≤ 1048576) : Ev (fun k => spec_shMeet.f k w a b) (widthsB w && (inn 1 20 a && inn 1 20 b)) := by
  unfold spec_shMeet.f
  refine Ev.bind (shWidths_ev w hw) ?_
  rw [l1In_inn, l1In_inn]
  simp only [Option.bind_some]
  cases widthsB w <;> cases inn 1 20 a <;> cases inn 1 20 b <;> exact Ev.now _
theorem areTwoRates_f (w : List Int) (a b : Int) : impl_areTwoRates.f w a b = some (widthsB w && (inn 1 20 a && inn 1 20 b)) := by
  unfold impl_areTwoRates.f
  rw [areRated_f]
  have h : ratesB [a, b] = (inn 1 20 a && inn 1 20 b) := by simp [ratesB, inn]
  rw [h]
  rfl
theorem FnExactMeetTime : laws_FnExactMeetTime.Pure := by
  intro w a b _ _ _ _ _
  refine Ev.rounds ?_
  by_cases hw : (w.length : Int) > 1048576
  · unfold laws_FnExactMeetTime.f
    simp only [hw, if_true]; exact Ev.now _
  cases hb : widthsB w && (inn 1 20 a && inn 1 20 b)
  · refine law_of w a b 0 0 false hw ?_ ?_
    · unfold spec_MeetTime.f
      refine Ev.bind (shMeet_ev w a b (by omega)) ?_
      rw [hb]; exact Ev.now _
    · unfold impl_MeetTime.f
      rw [areTwoRates_f, hb]; exact Ev.now _
  · have h1 := hb
    rw [Bool.and_eq_true, Bool.and_eq_true, inn_iff, inn_iff] at h1
    have h2 := widths_bounds h1.1
    have hs := sm_range 100 (by omega) w (fun x hx => by have := h2.2.2 x hx; omega)
    have hspec := shSum_ev w (by omega) (fun x hx => by have := h2.2.2 x hx; omega)
    have himpl := sumOf_ev w (by omega) (fun x hx => by have := h2.2.2 x hx; omega)
    have hm := shMeet_ev w a b (by omega)
    have hr := areTwoRates_f w a b
    rw [hb] at hm hr
    generalize sm w = s at hs hspec himpl
    obtain ⟨S, rfl⟩ := Int.eq_ofNat_of_zero_le hs.1
    obtain ⟨a, rfl⟩ := Int.eq_ofNat_of_zero_le (show 0 ≤ a by omega)
    obtain ⟨b, rfl⟩ := Int.eq_ofNat_of_zero_le (show 0 ≤ b by omega)
    have k1 : S * a ≤ 1200 * 20 := Nat.mul_le_mul (by omega) (by omega)
    have k2 : S * a * b ≤ 1200 * 20 * 20 := Nat.mul_le_mul k1 (by omega)
    have k3 : S * b ≤ 1200 * 20 := Nat.mul_le_mul (by omega) (by omega)
    refine law_of w (a : Int) (b : Int) (low (S * a * b) (a + b)).1 (low (S * a * b) (a + b)).2 true hw ?_ ?_
    · unfold spec_MeetTime.f
      refine Ev.bind hm ?_
      simp only [if_true]
      refine Ev.bind hspec ?_
      rw [← Int.natCast_mul, wrap_id (a := ((S * a : Nat) : Int)) (by omega) (by omega), ← Int.natCast_mul, wrap_id (a := ((S * a * b : Nat) : Int)) (by omega) (by omega), ← Int.natCast_add, wrap_id (a := ((a + b : Nat) : Int)) (by omega) (by omega)]
      exact Ev.bind (shLow_low (S * a * b) (a + b) (by omega) (by omega) (by omega)) (Ev.now _)
    · unfold impl_MeetTime.f
      rw [hr]
      simp only [Option.bind_some, if_true]
      refine Ev.bind himpl ?_
      rw [← Int.natCast_mul, wrap_id (a := ((S * a : Nat) : Int)) (by omega) (by omega), ← Int.natCast_mul, wrap_id (a := ((S * a * b : Nat) : Int)) (by omega) (by omega), ← Int.natCast_add, wrap_id (a := ((a + b : Nat) : Int)) (by omega) (by omega)]
      exact Ev.bind (lowest_low (S * a * b) (a + b) (by omega) (by omega) (by omega)) (Ev.now _)

end Go.Proofs.Ytmnafjlpfndnmaa.Pure
