/- For all arguments PartOfPainter gives the reference's answer, and leaves the lists alone: the plain part. -/
import Derived.Test.YtmnafjlpfndnmaaPx10
import Derived.Test.YtmnafjlpfndnmaaPx11
import Derived.Test.YtmnafjlpfndnmaaPx12
import Derived.Test.YtmnafjlpfndnmaaMBase
import Derived.Test.YtmnafjlpfndnmaaMInts
import Derived.Test.YtmnafjlpfndnmaaMAll
import Derived.Test.YtmnafjlpfndnmaaMGcd
import Derived.Test.YtmnafjlpfndnmaaMLow
import Derived.Test.YtmnafjlpfndnmaaMShare
import Derived.Test.YtmnafjlpfndnmaaMTerms
namespace Go.Proofs.Ytmnafjlpfndnmaa.Pure
open Go.RowKit Go.Proofs.Ytmnafjlpfndnmaa.P Go.Proofs.YtmnafjlpfndnmaaW.PrintWords Go.Proofs.Ytmnafjlpfndnmaa.M
set_option linter.unusedVariables false
set_option linter.unusedSimpArgs false

theorem law_of (w : List Int) (r : List Int) (a : Int) (r0 : Int) (r1 : Int) (r2 : Bool) (hb_w : ¬ ((w.length : Int) > 1048576)) (hb_r : ¬ ((r.length : Int) > 1048576)) (hs : Ev (fun k => spec_PartOfPainter.f k w r a) (r0, r1, r2)) (hi : Ev (fun k => impl_PartOfPainter.f k w r a) (r0, r1, r2)) : Ev (fun k => laws_FnExactPartOfPainter.f k w r a) true := by
  have ht_w := toIntS_ev w (by omega)
  have he_w := eqIntS_same w (by omega)
  have ht_r := toIntS_ev r (by omega)
  have he_r := eqIntS_same r (by omega)
  unfold laws_FnExactPartOfPainter.f
  repeat (first
    | exact Ev.now _
    | (with_reducible refine Ev.bind hs ?_)
    | (with_reducible refine Ev.bind hi ?_)
    | (with_reducible refine Ev.bind ht_w ?_)
    | (with_reducible refine Ev.bind he_w ?_)
    | (with_reducible refine Ev.bind ht_r ?_)
    | (with_reducible refine Ev.bind he_r ?_)
    | simp only [if_true, if_false, bne_self_eq_false, Bool.false_eq_true, Option.bind_some, hb_w, hb_r]
    | (refine Ev.step (fun k => rfl) ?_; simp only [laws_FnExactPartOfPainter.j0, if_true, if_false, bne_self_eq_false, Bool.false_eq_true, Option.bind_some, hb_w, hb_r])
    )

theorem no (w r : List Int) (a : Int) (hw : w.length ≤ 1048576) (hr : r.length ≤ 1048576) (hb : ((widthsB w && ratesB r) && inn 0 ((r.length : Int) - 1) a) = false) : Ev (fun k => spec_PartOfPainter.f k w r a) (0, 0, false) ∧ Ev (fun k => impl_PartOfPainter.f k w r a) (0, 0, false) := by
  have e : wrap64 ((r.length : Int) - 1) = (r.length : Int) - 1 := wrap_id (by omega) (by omega)
  constructor
  · unfold spec_PartOfPainter.f
    refine Ev.bind (shRated_ev w r hw hr) ?_
    rw [e, l1In_inn]
    have j : Ev (fun k => spec_PartOfPainter.j0 k r a true) (0, 0, false) := by
      refine Ev.step (fun k => rfl) ?_
      simp only [spec_PartOfPainter.j0, if_true]
      exact Ev.now _
    cases h : (widthsB w && ratesB r)
    · exact j
    · rw [h, Bool.true_and] at hb
      simp only [if_true, Option.bind_some, hb, Bool.not_false]
      exact j
  · unfold impl_PartOfPainter.f
    rw [areRated_f, e, within_f]
    have j : Ev (fun k => impl_PartOfPainter.j0 k r a true) (0, 0, false) := by
      refine Ev.step (fun k => rfl) ?_
      simp only [impl_PartOfPainter.j0, if_true]
      exact Ev.now _
    cases h : (widthsB w && ratesB r)
    · exact j
    · rw [h, Bool.true_and] at hb
      simp only [if_true, Option.bind_some, hb, Bool.not_false]
      exact j
theorem FnExactPartOfPainter : laws_FnExactPartOfPainter.Pure := by
  intro w r a _ _ _ _ _ _ _
  refine Ev.rounds ?_
  by_cases hw : (w.length : Int) > 1048576
  · unfold laws_FnExactPartOfPainter.f
    simp only [hw, if_true]; exact Ev.now _
  by_cases hr : (r.length : Int) > 1048576
  · unfold laws_FnExactPartOfPainter.f
    simp only [hw, hr, if_true, if_false]; exact Ev.now _
  cases hb : (widthsB w && ratesB r) && inn 0 ((r.length : Int) - 1) a
  · obtain ⟨p, q⟩ := no w r a (by omega) (by omega) hb
    exact law_of w r a 0 0 false hw hr p q
  · have h1 := hb
    rw [Bool.and_eq_true, inn_iff] at h1
    have h4 := h1.1
    rw [Bool.and_eq_true] at h4
    have h3 := rates_bounds h4.2
    have hm := shRated_ev w r (by omega) (by omega)
    have hq := areRated_f w r
    rw [h1.1] at hm hq
    have e : wrap64 ((r.length : Int) - 1) = (r.length : Int) - 1 := wrap_id (by omega) (by omega)
    obtain ⟨rs, rfl, hrs⟩ := rates_nat h3.2.2
    have hl : rs.length ≤ 5 := by simpa using h3.2.1
    obtain ⟨i, rfl⟩ := Int.eq_ofNat_of_zero_le h1.2.1
    have hi : i < rs.length := by have := h1.2.2; simp at this; omega
    have hrd : rd (rs.map fun r : Nat => (r : Int)) (i : Int) = ((rs[i] : Nat) : Int) := by
      rw [rd_get _ i (by simpa using hi)]; simp
    have hri := hrs rs[i] (List.getElem_mem hi)
    have hdiv : ∃ c, prodOf rs = rs[i] * c := by
      have h : ∀ a b : List Nat, prodOf (a ++ b) = prodOf a * prodOf b := by
        intro a b
        induction a with
        | nil => simp [prodOf]
        | cons x xs ih => simp only [List.cons_append, prodOf, ih, Nat.mul_assoc]
      have h5 : rs = rs.take i ++ (rs[i] :: rs.drop (i + 1)) := by rw [← List.drop_eq_getElem_cons hi, List.take_append_drop]
      have h6 : prodOf rs = prodOf (rs.take i) * (rs[i] * prodOf (rs.drop (i + 1))) := by
        have h7 := h (rs.take i) (rs[i] :: rs.drop (i + 1))
        rw [← h5] at h7
        exact h7
      exact ⟨prodOf (rs.take i) * prodOf (rs.drop (i + 1)), by rw [h6, Nat.mul_left_comm]⟩
    obtain ⟨c, hc⟩ := hdiv
    have e1 := shAll_ev rs hrs hl
    have e2 := speeds_ev rs hrs hl
    have b1 := small rs hrs hl
    have b2 := partSum_pos rs (fun x hx => (hrs x hx).1) (by omega)
    generalize prodOf rs = P at e1 e2 b1 hc
    generalize partSum rs = tt at e1 e2 b1 b2
    generalize rs[i] = q at hrd hri hc
    have hg : 0 < Nat.gcd tt P := Nat.gcd_pos_of_pos_right _ (by omega)
    obtain ⟨n, hn⟩ := Nat.gcd_dvd_left tt P
    obtain ⟨m, hmm⟩ := Nat.gcd_dvd_right tt P
    have d1 : tt / Nat.gcd tt P = n := by
      have := Nat.mul_div_cancel_left n hg
      rwa [← hn] at this
    have d2 : P / Nat.gcd tt P = m := by
      have := Nat.mul_div_cancel_left m hg
      rwa [← hmm] at this
    have hlow : low tt P = ((n : Int), (m : Int)) := by unfold low; rw [d1, d2]
    have c1 : n ≤ tt := by rw [← d1]; exact Nat.div_le_self _ _
    have c2 : m ≤ P := by rw [← d2]; exact Nat.div_le_self _ _
    have n0 : 0 < n := by
      rcases Nat.eq_zero_or_pos n with h | h
      · rw [h] at hn; omega
      · exact h
    have k1 : n * q ≤ 16000000 * 20 := Nat.mul_le_mul (by omega) hri.2
    have k0 : 0 < n * q := Nat.mul_pos n0 (by omega)
    have hcq : P / q = c := by rw [hc]; exact Nat.mul_div_cancel_left c (by omega)
    have k2 : c ≤ P := by rw [← hcq]; exact Nat.div_le_self _ _
    have hkey : low m (n * q) = low c tt := by
      rw [← low_mul (Nat.gcd tt P) m (n * q) hg, ← Nat.mul_assoc, ← hn, ← hmm, ← low_mul q c tt (by omega), ← hc, Nat.mul_comm tt q]
    refine law_of w _ (i : Int) (low c tt).1 (low c tt).2 true hw hr ?_ ?_
    · unfold spec_PartOfPainter.f
      refine Ev.bind hm ?_
      rw [e, l1In_inn, (inn_iff _ _ _).2 h1.2]
      simp only [if_true, Option.bind_some, Bool.not_true]
      refine Ev.step (fun k => rfl) ?_
      simp only [spec_PartOfPainter.j0, Bool.false_eq_true, if_false]
      refine Ev.bind e1 ?_
      have z1 : 0 ≤ (i : Int) := by omega
      have z2 : (i : Int) < ((rs.map fun r : Nat => (r : Int)).length : Int) := by simp; omega
      simp only [z1, z2, if_true]
      rw [hrd, hlow, ← hkey]
      dsimp only
      rw [← Int.natCast_mul, wrap_id (a := ((n * q : Nat) : Int)) (by omega) (by omega)]
      exact Ev.bind (shLow_low m (n * q) k0 (by omega) (by omega)) (Ev.now _)
    · unfold impl_PartOfPainter.f
      rw [hq, e, within_f, (inn_iff _ _ _).2 h1.2]
      simp only [if_true, Option.bind_some, Bool.not_true]
      refine Ev.step (fun k => rfl) ?_
      simp only [impl_PartOfPainter.j0, Bool.false_eq_true, if_false]
      refine Ev.bind e2 ?_
      have z1 : 0 ≤ (i : Int) := by omega
      have z2 : (i : Int) < ((rs.map fun r : Nat => (r : Int)).length : Int) := by simp; omega
      have z3 : ¬ ((q : Int) = 0) := by omega
      simp only [z1, z2, hrd, z3, if_true, if_false]
      rw [tdiv_nat, hcq, wrap_id (a := (c : Int)) (by omega) (by omega)]
      exact Ev.bind (lowest_low c tt b2 (by omega) (by omega)) (Ev.now _)

end Go.Proofs.Ytmnafjlpfndnmaa.Pure
