/- For all arguments IsShare gives the reference's answer, and leaves the lists alone: the plain part. -/
import Derived.Test.YtmnafjlpfndnmaaPx4
import Derived.Test.YtmnafjlpfndnmaaPx5
import Derived.Test.YtmnafjlpfndnmaaPx6
import Derived.Test.YtmnafjlpfndnmaaMBase
import Derived.Test.YtmnafjlpfndnmaaMInts
import Derived.Test.YtmnafjlpfndnmaaMAll
import Derived.Test.YtmnafjlpfndnmaaMShare
namespace Go.Proofs.Ytmnafjlpfndnmaa.Pure
open Go.RowKit Go.Proofs.Ytmnafjlpfndnmaa.P Go.Proofs.YtmnafjlpfndnmaaW.PrintWords Go.Proofs.Ytmnafjlpfndnmaa.M
set_option linter.unusedVariables false
set_option linter.unusedSimpArgs false

theorem law_of (w : List Int) (p : Int) (s : List Int) (r0 : Bool) (r1 : Bool) (hb_w : ¬ ((w.length : Int) > 1048576)) (hb_s : ¬ ((s.length : Int) > 1048576)) (hs : Ev (fun k => spec_IsShare.f k w p s) (r0, r1)) (hi : Ev (fun k => impl_IsShare.f k w p s) (r0, r1)) : Ev (fun k => laws_FnExactIsShare.f k w p s) true := by
  have ht_w := toIntS_ev w (by omega)
  have he_w := eqIntS_same w (by omega)
  have ht_s := toIntS_ev s (by omega)
  have he_s := eqIntS_same s (by omega)
  unfold laws_FnExactIsShare.f
  repeat (first
    | exact Ev.now _
    | (with_reducible refine Ev.bind hs ?_)
    | (with_reducible refine Ev.bind hi ?_)
    | (with_reducible refine Ev.bind ht_w ?_)
    | (with_reducible refine Ev.bind he_w ?_)
    | (with_reducible refine Ev.bind ht_s ?_)
    | (with_reducible refine Ev.bind he_s ?_)
    | simp only [if_true, if_false, bne_self_eq_false, Bool.false_eq_true, Option.bind_some, hb_w, hb_s]
    | (refine Ev.step (fun k => rfl) ?_; simp only [laws_FnExactIsShare.j0, if_true, if_false, bne_self_eq_false, Bool.false_eq_true, Option.bind_some, hb_w, hb_s])
    )

theorem FnExactIsShare : laws_FnExactIsShare.Pure := by
  intro w p s _ _ _ _ _ _ _
  refine Ev.rounds ?_
  by_cases hw : (w.length : Int) > 1048576
  · unfold laws_FnExactIsShare.f
    simp only [hw, if_true]; exact Ev.now _
  by_cases hs : (s.length : Int) > 1048576
  · unfold laws_FnExactIsShare.f
    simp only [hw, hs, if_true, if_false]; exact Ev.now _
  cases hb : widthsB w && inn 1 5 p
  · refine law_of w p s false false hw hs ?_ ?_
    · unfold spec_IsShare.f
      refine Ev.bind (shPainters_ev w p (by omega)) ?_
      rw [hb]; exact Ev.now _
    · unfold impl_IsShare.f
      rw [arePainted_f, hb]; exact Ev.now _
  · have h1 := hb
    rw [Bool.and_eq_true, inn_iff] at h1
    have h2 := widths_bounds h1.1
    refine law_of w p s (shareB w p s) true hw hs ?_ ?_
    · unfold spec_IsShare.f
      refine Ev.bind (shPainters_ev w p (by omega)) ?_
      rw [hb]
      exact Ev.bind (shIs_ev w p s (by omega) (by omega)) (Ev.now _)
    · unfold impl_IsShare.f
      rw [arePainted_f, hb]
      simp only [Option.bind_some, if_true]
      exact Ev.bind (isShare_ev w p s (by omega) (by omega)) (Ev.now _)

end Go.Proofs.Ytmnafjlpfndnmaa.Pure
