/- For every text IsFence gives the reference's answer: the plain part. -/
import Derived.Test.YtoiondajpccobaaPx1
import Derived.Test.YtoiondajpccobaaPx2
import Derived.Test.YtoiondajpccobaaMBase
import Derived.Test.YtoiondajpccobaaMFence
namespace Go.Proofs.Ytoiondajpccobaa.Pure
open Go.RowKit Go.Proofs.Ytoiondajpccobaa.P Go.Proofs.YtoiondajpccobaaW.PrintWords Go.Proofs.Ytoiondajpccobaa.M
set_option linter.unusedVariables false
set_option linter.unusedSimpArgs false

theorem law_of (s : ByteArray) (r0 : Bool) (hb_s : ¬ ((s.size : Int) > 1048576)) (hs : Ev (fun k => spec_IsFence.f k s) r0) (hi : impl_IsFence.f s = some r0) : Ev (fun k => laws_FnExactIsFence.f k s) true := by
  unfold laws_FnExactIsFence.f
  repeat (first
    | exact Ev.now _
    | (with_reducible refine Ev.bind hs ?_)
    | simp only [if_true, if_false, bne_self_eq_false, Bool.false_eq_true, Option.bind_some, hi, hb_s]
    )

theorem FnExactIsFence : laws_FnExactIsFence.Pure := by
  intro s _
  refine Ev.rounds ?_
  by_cases hs : (s.size : Int) > 1048576
  · unfold laws_FnExactIsFence.f
    simp only [hs, if_true]; exact Ev.now _
  refine law_of s (fenceB s) hs ?_ (isFence_f s)
  unfold spec_IsFence.f
  exact Ev.bind (stGood_ev s) (Ev.now _)

end Go.Proofs.Ytoiondajpccobaa.Pure
