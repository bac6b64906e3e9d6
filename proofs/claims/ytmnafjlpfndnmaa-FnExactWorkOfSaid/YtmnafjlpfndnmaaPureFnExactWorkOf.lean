/- For all arguments WorkOf gives the reference's answer, in memory of its own, and leaves the lists alone: the plain part. -/
import Derived.Test.YtmnafjlpfndnmaaPx14
import Derived.Test.YtmnafjlpfndnmaaPx15
import Derived.Test.YtmnafjlpfndnmaaPx16
import Derived.Test.YtmnafjlpfndnmaaMBase
import Derived.Test.YtmnafjlpfndnmaaMInts
import Derived.Test.YtmnafjlpfndnmaaMAll
import Derived.Test.YtmnafjlpfndnmaaMShare
import Derived.Test.YtmnafjlpfndnmaaMWorks
import Derived.Test.YtmnafjlpfndnmaaMWork2
namespace Go.Proofs.Ytmnafjlpfndnmaa.Pure
open Go.RowKit Go.Proofs.Ytmnafjlpfndnmaa.P Go.Proofs.YtmnafjlpfndnmaaW.PrintWords Go.Proofs.Ytmnafjlpfndnmaa.M
set_option linter.unusedVariables false
set_option linter.unusedSimpArgs false

theorem law_of (w : List Int) (p : Int) (s : List Int) (r0 : List Int) (r1 : Bool) (hb_w : ¬ ((w.length : Int) > 1048576)) (hb_s : ¬ ((s.length : Int) > 1048576)) (ho_r0 : r0.length ≤ 1000000) (hs : Ev (fun k => spec_WorkOf.f k w p s) (r0, r1)) (hi : Ev (fun k => impl_WorkOf.f k w p s) (r0, r1)) : Ev (fun k => laws_FnExactWorkOf.f k w p s) true := by
  have ht_w := toIntS_ev w (by omega)
  have he_w := eqIntS_same w (by omega)
  have ht_s := toIntS_ev s (by omega)
  have he_s := eqIntS_same s (by omega)
  obtain ⟨z_w, hm_w⟩ := markIntS_any w (1) (by omega) (by omega) (by omega)
  obtain ⟨z_s, hm_s⟩ := markIntS_any s (1 + (w.length : Int)) (by omega) (by omega) (by omega)
  have hn_ : ¬ (1 + (w.length : Int) + (s.length : Int) < 0) := by omega
  have he_r0 := eqIntS_same r0 (by omega)
  have hm_r0 := markIntS_ev r0 (by omega)
  have hh_r0 := heldIntS_ev r0.length (by omega)
  have hn_r0 : ¬ ((r0.length : Int) + 1 < 0) := by omega
  unfold laws_FnExactWorkOf.f
  repeat (first
    | exact Ev.now _
    | (with_reducible refine Ev.bind hs ?_)
    | (with_reducible refine Ev.bind hi ?_)
    | (with_reducible refine Ev.bind ht_w ?_)
    | (with_reducible refine Ev.bind he_w ?_)
    | (with_reducible refine Ev.bind ht_s ?_)
    | (with_reducible refine Ev.bind he_s ?_)
    | (with_reducible refine Ev.bind hm_w ?_)
    | (with_reducible refine Ev.bind hm_s ?_)
    | (with_reducible refine Ev.bind he_r0 ?_)
    | (with_reducible refine Ev.bind hm_r0 ?_)
    | (with_reducible refine Ev.bind hh_r0 ?_)
    | simp only [if_true, if_false, bne_self_eq_false, Bool.false_eq_true, Option.bind_some, hb_w, hb_s, hn_, hn_r0]
    | (refine Ev.step (fun k => rfl) ?_; simp only [laws_FnExactWorkOf.j0, if_true, if_false, bne_self_eq_false, Bool.false_eq_true, Option.bind_some, hb_w, hb_s, hn_, hn_r0])
    | (refine Ev.step (fun k => rfl) ?_; simp only [laws_FnExactWorkOf.j1, if_true, if_false, bne_self_eq_false, Bool.false_eq_true, Option.bind_some, hb_w, hb_s, hn_, hn_r0])
    | (refine Ev.step (fun k => rfl) ?_; simp only [laws_FnExactWorkOf.j2, if_true, if_false, bne_self_eq_false, Bool.false_eq_true, Option.bind_some, hb_w, hb_s, hn_, hn_r0])
    )

theorem FnExactWorkOf : laws_FnExactWorkOf.Pure := by
  intro w p s _ _ _ _ _ _ _
  refine Ev.rounds ?_
  by_cases hw : (w.length : Int) > 1048576
  · unfold laws_FnExactWorkOf.f
    simp only [hw, if_true]; exact Ev.now _
  by_cases hs : (s.length : Int) > 1048576
  · unfold laws_FnExactWorkOf.f
    simp only [hw, hs, if_true, if_false]; exact Ev.now _
  have h1 := shPainters_ev w p (by omega)
  have h2 := arePainted_f w p
  cases hb : widthsB w && inn 1 5 p
  · rw [hb] at h1 h2
    refine law_of w p s [] false hw hs (by simp) ?_ ?_
    · unfold spec_WorkOf.f
      exact Ev.bind h1 (Ev.now _)
    · unfold impl_WorkOf.f
      rw [h2]; exact Ev.now _
  · have h3 := hb
    rw [Bool.and_eq_true, inn_iff] at h3
    have h4 := widths_bounds h3.1
    have h5 := shIs_ev w p s (by omega) (by omega)
    have h6 := isShare_ev w p s (by omega) (by omega)
    rw [hb] at h1 h2
    cases hq : shareB w p s
    · rw [hq] at h5 h6
      refine law_of w p s [] false hw hs (by simp) ?_ ?_
      · unfold spec_WorkOf.f
        refine Ev.bind h1 ?_
        simp only [if_true]
        exact Ev.bind h5 (Ev.now _)
      · unfold impl_WorkOf.f
        rw [h2]
        simp only [Option.bind_some, if_true]
        exact Ev.bind h6 (Ev.now _)
    · rw [hq] at h5 h6
      have h7 := share_bounds hq
      have hx : ∀ x ∈ w, 0 ≤ x ∧ x ≤ 100 := fun x hx => by have := h4.2.2 x hx; omega
      refine law_of w p s (worksL w s) true hw hs (by rw [worksL_length]; omega) ?_ ?_
      · unfold spec_WorkOf.f
        refine Ev.bind h1 ?_
        simp only [if_true]
        refine Ev.bind h5 ?_
        simp only [if_true]
        exact Ev.bind (shWork_ev w s hx (by omega) h7.2.1 (by omega) (by omega)) (Ev.now _)
      · unfold impl_WorkOf.f
        rw [h2]
        simp only [Option.bind_some, if_true]
        refine Ev.bind h6 ?_
        simp only [if_true]
        exact Ev.bind (implWorks_ev w s hx (by omega) h7.2.1 (by omega) (by omega)) (Ev.now _)

end Go.Proofs.Ytmnafjlpfndnmaa.Pure
