/- For all arguments TogetherTime gives the reference's answer, and leaves the lists alone: the plain part. -/
import Derived.Test.YtmnafjlpfndnmaaPx12
import Derived.Test.YtmnafjlpfndnmaaPx13
import Derived.Test.YtmnafjlpfndnmaaMBase
import Derived.Test.YtmnafjlpfndnmaaMInts
import Derived.Test.YtmnafjlpfndnmaaMAll
import Derived.Test.YtmnafjlpfndnmaaMGcd
import Derived.Test.YtmnafjlpfndnmaaMLow
import Derived.Test.YtmnafjlpfndnmaaMShare
import Derived.Test.YtmnafjlpfndnmaaMTerms
namespace Go.Proofs.Ytmnafjlpfndnmaa.Pure
open Go.RowKit Go.Proofs.Ytmnafjlpfndnmaa.P Go.Proofs.YtmnafjlpfndnmaaW.PrintWords Go.Proofs.Ytmnafjlpfndnmaa.M
set_option linter.unusedVariables false
set_option linter.unusedSimpArgs false

theorem law_of (w : List Int) (r : List Int) (r0 : Int) (r1 : Int) (r2 : Bool) (hb_w : ¬ ((w.length : Int) > 1048576)) (hb_r : ¬ ((r.length : Int) > 1048576)) (hs : Ev (fun k => spec_TogetherTime.f k w r) (r0, r1, r2)) (hi : Ev (fun k => impl_TogetherTime.f k w r) (r0, r1, r2)) : Ev (fun k => laws_FnExactTogetherTime.f k w r) true := by
  have ht_w := toIntS_ev w (by omega)
  have he_w := eqIntS_same w (by omega)
  have ht_r := toIntS_ev r (by omega)
  have he_r := eqIntS_same r (by omega)
  unfold laws_FnExactTogetherTime.f
  repeat (first
    | exact Ev.now _
    | (with_reducible refine Ev.bind hs ?_)
    | (with_reducible refine Ev.bind hi ?_)
    | (with_reducible refine Ev.bind ht_w ?_)
    | (with_reducible refine Ev.bind he_w ?_)
    | (with_reducible refine Ev.bind ht_r ?_)
    | (with_reducible refine Ev.bind he_r ?_)
    | simp only [if_true, if_false, bne_self_eq_false, Bool.false_eq_true, Option.bind_some, hb_w, hb_r]
    | (refine Ev.step (fun k => rfl) ?_; simp only [laws_FnExactTogetherTime.j0, if_true, if_false, bne_self_eq_false, Bool.false_eq_true, Option.bind_some, hb_w, hb_r])
    )

theorem FnExactTogetherTime : laws_FnExactTogetherTime.Pure := by
  intro w r _ _ _ _ _ _
  refine Ev.rounds ?_
  by_cases hw : (w.length : Int) > 1048576
  · unfold laws_FnExactTogetherTime.f
    simp only [hw, if_true]; exact Ev.now _
  by_cases hr : (r.length : Int) > 1048576
  · unfold laws_FnExactTogetherTime.f
    simp only [hw, hr, if_true, if_false]; exact Ev.now _
  cases hb : widthsB w && ratesB r
  · refine law_of w r 0 0 false hw hr ?_ ?_
    · unfold spec_TogetherTime.f
      refine Ev.bind (shRated_ev w r (by omega) (by omega)) ?_
      rw [hb]; exact Ev.now _
    · unfold impl_TogetherTime.f
      rw [areRated_f, hb]; exact Ev.now _
  · have h1 := hb
    rw [Bool.and_eq_true] at h1
    have h2 := widths_bounds h1.1
    have h3 := rates_bounds h1.2
    have hs := sm_range 100 (by omega) w (fun x hx => by have := h2.2.2 x hx; omega)
    have hspec := shSum_ev w (by omega) (fun x hx => by have := h2.2.2 x hx; omega)
    have himpl := sumOf_ev w (by omega) (fun x hx => by have := h2.2.2 x hx; omega)
    have hm := shRated_ev w r (by omega) (by omega)
    have hq := areRated_f w r
    rw [hb] at hm hq
    generalize sm w = s at hs hspec himpl
    obtain ⟨S, rfl⟩ := Int.eq_ofNat_of_zero_le hs.1
    obtain ⟨rs, rfl, hrs⟩ := rates_nat h3.2.2
    have hl : rs.length ≤ 5 := by simpa using h3.2.1
    have hl0 : 0 < rs.length := by have := h3.1; simp at this; omega
    have e1 := shAll_ev rs hrs hl
    have e2 := speeds_ev rs hrs hl
    have b1 := small rs hrs hl
    have b2 := partSum_pos rs (fun x hx => (hrs x hx).1) hl0
    generalize prodOf rs = P at e1 e2 b1
    generalize partSum rs = tt at e1 e2 b1 b2
    have hg : 0 < Nat.gcd tt P := Nat.gcd_pos_of_pos_right _ (by omega)
    obtain ⟨n, hn⟩ := Nat.gcd_dvd_left tt P
    obtain ⟨m, hmm⟩ := Nat.gcd_dvd_right tt P
    have d1 : tt / Nat.gcd tt P = n := by
      have := Nat.mul_div_cancel_left n hg
      rwa [← hn] at this
    have d2 : P / Nat.gcd tt P = m := by
      have := Nat.mul_div_cancel_left m hg
      rwa [← hmm] at this
    have hlow : low tt P = ((n : Int), (m : Int)) := by unfold low; rw [d1, d2]
    have c1 : n ≤ tt := by rw [← d1]; exact Nat.div_le_self _ _
    have c2 : m ≤ P := by rw [← d2]; exact Nat.div_le_self _ _
    have n0 : 0 < n := by
      rcases Nat.eq_zero_or_pos n with h | h
      · rw [h] at hn; omega
      · exact h
    have k1 : S * P ≤ 1200 * 3200000 := Nat.mul_le_mul (by omega) (by omega)
    have k2 : S * m ≤ 1200 * 3200000 := Nat.mul_le_mul (by omega) (by omega)
    have hkey : low (S * m) n = low (S * P) tt := by
      rw [← low_mul (Nat.gcd tt P) (S * m) n hg, Nat.mul_left_comm, ← hn, ← hmm]
    refine law_of w _ (low (S * P) tt).1 (low (S * P) tt).2 true hw hr ?_ ?_
    · unfold spec_TogetherTime.f
      refine Ev.bind hm ?_
      simp only [if_true]
      refine Ev.bind e1 (Ev.bind hspec ?_)
      rw [hlow, ← hkey]
      dsimp only
      rw [← Int.natCast_mul, wrap_id (a := ((S * m : Nat) : Int)) (by omega) (by omega)]
      exact Ev.bind (shLow_low (S * m) n (by omega) (by omega) (by omega)) (Ev.now _)
    · unfold impl_TogetherTime.f
      rw [hq]
      simp only [Option.bind_some, if_true]
      refine Ev.bind e2 (Ev.bind himpl ?_)
      dsimp only
      rw [← Int.natCast_mul, wrap_id (a := ((S * P : Nat) : Int)) (by omega) (by omega)]
      exact Ev.bind (lowest_low (S * P) tt (by omega) (by omega) (by omega)) (Ev.now _)

end Go.Proofs.Ytmnafjlpfndnmaa.Pure
