/- For all arguments FewestPainters gives the reference's answer, and leaves the list alone: the plain part. -/
import Derived.Test.YtmnafjlpfndnmaaPx23
import Derived.Test.YtmnafjlpfndnmaaPx25
import Derived.Test.YtmnafjlpfndnmaaMBase
import Derived.Test.YtmnafjlpfndnmaaMInts
import Derived.Test.YtmnafjlpfndnmaaMAll
import Derived.Test.YtmnafjlpfndnmaaMShare
import Derived.Test.YtmnafjlpfndnmaaMMax
import Derived.Test.YtmnafjlpfndnmaaMGreedy
namespace Go.Proofs.Ytmnafjlpfndnmaa.Pure
open Go.RowKit Go.Proofs.Ytmnafjlpfndnmaa.P Go.Proofs.YtmnafjlpfndnmaaW.PrintWords Go.Proofs.Ytmnafjlpfndnmaa.M
set_option linter.unusedVariables false
set_option linter.unusedSimpArgs false

theorem law_of (w : List Int) (m : Int) (r0 : Int) (r1 : Bool) (hb_w : ¬ ((w.length : Int) > 1048576)) (hs : Ev (fun k => spec_FewestPainters.f k w m) (r0, r1)) (hi : Ev (fun k => impl_FewestPainters.f k w m) (r0, r1)) : Ev (fun k => laws_FnExactFewestPainters.f k w m) true := by
  have ht_w := toIntS_ev w (by omega)
  have he_w := eqIntS_same w (by omega)
  unfold laws_FnExactFewestPainters.f
  repeat (first
    | exact Ev.now _
    | (with_reducible refine Ev.bind hs ?_)
    | (with_reducible refine Ev.bind hi ?_)
    | (with_reducible refine Ev.bind ht_w ?_)
    | (with_reducible refine Ev.bind he_w ?_)
    | simp only [if_true, if_false, bne_self_eq_false, Bool.false_eq_true, Option.bind_some, hb_w]
    | (refine Ev.step (fun k => rfl) ?_; simp only [laws_FnExactFewestPainters.j0, if_true, if_false, bne_self_eq_false, Bool.false_eq_true, Option.bind_some, hb_w])
    )

theorem FnExactFewestPainters : laws_FnExactFewestPainters.Pure := by
  intro w m _ _ _ _
  refine Ev.rounds ?_
  by_cases hw : (w.length : Int) > 1048576
  · unfold laws_FnExactFewestPainters.f
    simp only [hw, if_true]; exact Ev.now _
  obtain ⟨r, ok, hr, h0, hi, hs, hn⟩ := greedy_ev w m (by omega)
  refine law_of w m (r.length : Int) ok hw ?_ (Ev.bind hi (Ev.now _))
  unfold spec_FewestPainters.f
  refine Ev.bind (shMost_ev w m (by omega)) ?_
  cases hb : widthsB w && inn 1 30000 m
  · have h1 := hn hb
    subst h1
    rw [h0 rfl]
    exact Ev.now _
  · simp only [if_true]
    refine Ev.bind (hs hb) ?_
    cases ok
    · rw [h0 rfl]; exact Ev.now _
    · exact Ev.now _

end Go.Proofs.Ytmnafjlpfndnmaa.Pure
