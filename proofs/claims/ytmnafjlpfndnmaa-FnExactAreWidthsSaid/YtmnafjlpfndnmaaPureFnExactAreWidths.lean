/- For every list AreWidths gives the reference's answer, and leaves the list alone: the plain part. -/
import Derived.Test.YtmnafjlpfndnmaaPx3
import Derived.Test.YtmnafjlpfndnmaaMBase
import Derived.Test.YtmnafjlpfndnmaaMInts
import Derived.Test.YtmnafjlpfndnmaaMAll
import Derived.Test.YtmnafjlpfndnmaaMShare
namespace Go.Proofs.Ytmnafjlpfndnmaa.Pure
open Go.RowKit Go.Proofs.Ytmnafjlpfndnmaa.P Go.Proofs.YtmnafjlpfndnmaaW.PrintWords Go.Proofs.Ytmnafjlpfndnmaa.M
set_option linter.unusedVariables false
set_option linter.unusedSimpArgs false

theorem law_of (l : List Int) (r0 : Bool) (hb_l : ¬ ((l.length : Int) > 1048576)) (hs : Ev (fun k => spec_AreWidths.f k l) r0) (hi : impl_AreWidths.f l = some r0) : Ev (fun k => laws_FnExactAreWidths.f k l) true := by
  have ht_l := toIntS_ev l (by omega)
  have he_l := eqIntS_same l (by omega)
  unfold laws_FnExactAreWidths.f
  repeat (first
    | exact Ev.now _
    | (with_reducible refine Ev.bind hs ?_)
    | (with_reducible refine Ev.bind ht_l ?_)
    | (with_reducible refine Ev.bind he_l ?_)
    | simp only [if_true, if_false, bne_self_eq_false, Bool.false_eq_true, Option.bind_some, hi, hb_l]
    )

theorem FnExactAreWidths : laws_FnExactAreWidths.Pure := by
  intro l _ hl _
  refine Ev.rounds ?_
  by_cases hb : (l.length : Int) > 1048576
  · unfold laws_FnExactAreWidths.f
    simp only [hb, if_true]; exact Ev.now _
  · refine law_of l (widthsB l) hb ?_ (areWidths_f l)
    unfold spec_AreWidths.f
    exact Ev.bind (shWidths_ev l (by omega)) (Ev.now _)

end Go.Proofs.Ytmnafjlpfndnmaa.Pure
