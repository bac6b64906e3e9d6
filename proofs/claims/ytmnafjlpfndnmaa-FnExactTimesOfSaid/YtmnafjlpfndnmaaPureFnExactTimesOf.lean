/- For all arguments TimesOf gives the reference's answer, in memory of its own, and leaves the lists alone: the plain part. -/
import Derived.Test.YtmnafjlpfndnmaaPx17
import Derived.Test.YtmnafjlpfndnmaaPx18
import Derived.Test.YtmnafjlpfndnmaaPx19
import Derived.Test.YtmnafjlpfndnmaaMBase
import Derived.Test.YtmnafjlpfndnmaaMInts
import Derived.Test.YtmnafjlpfndnmaaMAll
import Derived.Test.YtmnafjlpfndnmaaMShare
import Derived.Test.YtmnafjlpfndnmaaMWorks
import Derived.Test.YtmnafjlpfndnmaaMWork2
namespace Go.Proofs.Ytmnafjlpfndnmaa.Pure
open Go.RowKit Go.Proofs.Ytmnafjlpfndnmaa.P Go.Proofs.YtmnafjlpfndnmaaW.PrintWords Go.Proofs.Ytmnafjlpfndnmaa.M
set_option linter.unusedVariables false
set_option linter.unusedSimpArgs false

theorem law_of (w : List Int) (r : List Int) (s : List Int) (r0 : List Int) (r1 : Bool) (hb_w : ¬ ((w.length : Int) > 1048576)) (hb_r : ¬ ((r.length : Int) > 1048576)) (hb_s : ¬ ((s.length : Int) > 1048576)) (ho_r0 : r0.length ≤ 1000000) (hs : Ev (fun k => spec_TimesOf.f k w r s) (r0, r1)) (hi : Ev (fun k => impl_TimesOf.f k w r s) (r0, r1)) : Ev (fun k => laws_FnExactTimesOf.f k w r s) true := by
  have ht_w := toIntS_ev w (by omega)
  have he_w := eqIntS_same w (by omega)
  have ht_r := toIntS_ev r (by omega)
  have he_r := eqIntS_same r (by omega)
  have ht_s := toIntS_ev s (by omega)
  have he_s := eqIntS_same s (by omega)
  obtain ⟨z_w, hm_w⟩ := markIntS_any w (1) (by omega) (by omega) (by omega)
  obtain ⟨z_r, hm_r⟩ := markIntS_any r (1 + (w.length : Int)) (by omega) (by omega) (by omega)
  obtain ⟨z_s, hm_s⟩ := markIntS_any s (1 + (w.length : Int) + (r.length : Int)) (by omega) (by omega) (by omega)
  have hn_ : ¬ (1 + (w.length : Int) + (r.length : Int) + (s.length : Int) < 0) := by omega
  have he_r0 := eqIntS_same r0 (by omega)
  have hm_r0 := markIntS_ev r0 (by omega)
  have hh_r0 := heldIntS_ev r0.length (by omega)
  have hn_r0 : ¬ ((r0.length : Int) + 1 < 0) := by omega
  unfold laws_FnExactTimesOf.f
  repeat (first
    | exact Ev.now _
    | (with_reducible refine Ev.bind hs ?_)
    | (with_reducible refine Ev.bind hi ?_)
    | (with_reducible refine Ev.bind ht_w ?_)
    | (with_reducible refine Ev.bind he_w ?_)
    | (with_reducible refine Ev.bind ht_r ?_)
    | (with_reducible refine Ev.bind he_r ?_)
    | (with_reducible refine Ev.bind ht_s ?_)
    | (with_reducible refine Ev.bind he_s ?_)
    | (with_reducible refine Ev.bind hm_w ?_)
    | (with_reducible refine Ev.bind hm_r ?_)
    | (with_reducible refine Ev.bind hm_s ?_)
    | (with_reducible refine Ev.bind he_r0 ?_)
    | (with_reducible refine Ev.bind hm_r0 ?_)
    | (with_reducible refine Ev.bind hh_r0 ?_)
    | simp only [if_true, if_false, bne_self_eq_false, Bool.false_eq_true, Option.bind_some, hb_w, hb_r, hb_s, hn_, hn_r0]
    | (refine Ev.step (fun k => rfl) ?_; simp only [laws_FnExactTimesOf.j0, if_true, if_false, bne_self_eq_false, Bool.false_eq_true, Option.bind_some, hb_w, hb_r, hb_s, hn_, hn_r0])
    | (refine Ev.step (fun k => rfl) ?_; simp only [laws_FnExactTimesOf.j1, if_true, if_false, bne_self_eq_false, Bool.false_eq_true, Option.bind_some, hb_w, hb_r, hb_s, hn_, hn_r0])
    | (refine Ev.step (fun k => rfl) ?_; simp only [laws_FnExactTimesOf.j2, if_true, if_false, bne_self_eq_false, Bool.false_eq_true, Option.bind_some, hb_w, hb_r, hb_s, hn_, hn_r0])
    )

theorem loop (W r : List Int) (hW : ∀ x ∈ W, 0 ≤ x ∧ x ≤ 1200) (hr : ∀ x ∈ r, 1 ≤ x ∧ x ≤ 20) (hl : W.length = r.length) (hl5 : r.length ≤ 1000) (d : Nat) : ∀ i : Nat, i ≤ r.length → r.length - i = d →
    Ev (fun k => spec_TimesOf.l0 k r ((List.zipWith (fun a b => a * b) W r).take i) W (W.length : Int) (i : Int)) (List.zipWith (fun a b => a * b) W r, true) := by
  have hz : (List.zipWith (fun a b : Int => a * b) W r).length = r.length := by simp; omega
  induction d with
  | zero =>
    intro i hi hd
    have e : i = r.length := by omega
    subst e
    refine Ev.step (f := fun _ => some _) (fun k => ?_) (Ev.now _)
    simp only [spec_TimesOf.l0]
    rw [if_neg (by omega), List.take_of_length_le (by omega)]
  | succ d ih =>
    intro i hi hd
    have hlt : i < r.length := by omega
    have hltW : i < W.length := by omega
    have h1 := hW _ (List.getElem_mem hltW)
    have h2 := hr _ (List.getElem_mem hlt)
    have hp1 : 0 ≤ W[i] * r[i] := Int.mul_nonneg h1.1 (by omega)
    have hp2 : W[i] * r[i] ≤ 1200 * 20 := Int.mul_le_mul h1.2 h2.2 (by omega) (by omega)
    have hlen : ((List.zipWith (fun a b : Int => a * b) W r).take i).length < 17592186044416 := by rw [List.length_take, hz]; omega
    refine Ev.step (fun k => ?_) (ih (i + 1) (by omega) (by omega))
    simp only [spec_TimesOf.l0]
    rw [if_pos (by omega), if_pos (by omega), if_pos (by omega), if_pos (by omega), if_pos hlen, rd_get W i hltW, rd_get r i hlt, Int.mul_comm r[i] W[i], wrap_id (a := W[i] * r[i]) (by omega) (by omega), wrap_id (a := (i : Int) + 1) (by omega) (by omega), List.take_succ_eq_append_getElem (by rw [hz]; exact hlt), List.getElem_zipWith]
    rfl
theorem FnExactTimesOf : laws_FnExactTimesOf.Pure := by
  intro w r s _ _ _ _ _ _ _ _ _
  refine Ev.rounds ?_
  by_cases hw : (w.length : Int) > 1048576
  · unfold laws_FnExactTimesOf.f
    simp only [hw, if_true]; exact Ev.now _
  by_cases hr : (r.length : Int) > 1048576
  · unfold laws_FnExactTimesOf.f
    simp only [hw, hr, if_true, if_false]; exact Ev.now _
  by_cases hs : (s.length : Int) > 1048576
  · unfold laws_FnExactTimesOf.f
    simp only [hw, hr, hs, if_true, if_false]; exact Ev.now _
  have h1 := shRated_ev w r (by omega) (by omega)
  have h2 := areRated_f w r
  have j : Ev (fun k => spec_TimesOf.j0 k w r s true) ([], false) := by
    refine Ev.step (fun k => rfl) ?_
    simp only [spec_TimesOf.j0, if_true]
    exact Ev.now _
  cases hb : widthsB w && ratesB r
  · rw [hb] at h1 h2
    refine law_of w r s [] false hw hr hs (by simp) ?_ ?_
    · unfold spec_TimesOf.f
      exact Ev.bind h1 j
    · unfold impl_TimesOf.f
      rw [h2]; exact Ev.now _
  · have h3 := hb
    rw [Bool.and_eq_true] at h3
    have h4 := widths_bounds h3.1
    have h8 := rates_bounds h3.2
    have h5 := shIs_ev w (r.length : Int) s (by omega) (by omega)
    have h6 := isShare_ev w (r.length : Int) s (by omega) (by omega)
    rw [hb] at h1 h2
    cases hq : shareB w (r.length : Int) s
    · rw [hq] at h5 h6
      refine law_of w r s [] false hw hr hs (by simp) ?_ ?_
      · unfold spec_TimesOf.f
        refine Ev.bind h1 ?_
        simp only [if_true]
        exact Ev.bind h5 j
      · unfold impl_TimesOf.f
        rw [h2]
        simp only [Option.bind_some, if_true]
        exact Ev.bind h6 (Ev.now _)
    · rw [hq] at h5 h6
      have h7 := share_bounds hq
      have hx : ∀ x ∈ w, 0 ≤ x ∧ x ≤ 100 := fun x hx => by have := h4.2.2 x hx; omega
      refine law_of w r s (timesL w r s) true hw hr hs (by unfold timesL; rw [List.length_zipWith, worksL_length]; omega) ?_ ?_
      · unfold spec_TimesOf.f
        refine Ev.bind h1 ?_
        simp only [if_true]
        refine Ev.bind h5 ?_
        simp only [Bool.not_true]
        refine Ev.step (fun k => rfl) ?_
        simp only [spec_TimesOf.j0, Bool.false_eq_true, if_false]
        refine Ev.bind (shWork_ev w s hx (by omega) h7.2.1 (by omega) (by omega)) ?_
        have h9 := loop (worksL w s) r (worksL_range s w hx (by omega)) h8.2.2 (by rw [worksL_length]; omega) (by omega) _ 0 (Nat.zero_le _) rfl
        exact h9
      · unfold impl_TimesOf.f
        rw [h2]
        simp only [Option.bind_some, if_true]
        refine Ev.bind h6 ?_
        simp only [if_true]
        exact Ev.bind (implTimes_ev w r s hx (by omega) h8.2.2 (by omega) h7.2.1 (by omega) (by omega)) (Ev.now _)

end Go.Proofs.Ytmnafjlpfndnmaa.Pure
