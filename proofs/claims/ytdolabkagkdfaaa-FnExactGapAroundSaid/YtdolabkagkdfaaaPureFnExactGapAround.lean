/- For all numbers GapAround gives the reference's answer: the plain part. -/
import Derived.Test.YtdolabkagkdfaaaPx3
import Derived.Test.YtdolabkagkdfaaaMPosts
import Derived.Test.YtdolabkagkdfaaaMBase
import Derived.Test.YtdolabkagkdfaaaMGcd
import Derived.Test.YtdolabkagkdfaaaMCoDiv
namespace Go.Proofs.Ytdolabkagkdfaaa.Pure
open Go.RowKit Go.Proofs.Ytdolabkagkdfaaa.P Go.Proofs.YtdolabkagkdfaaaW.PrintWords Go.Proofs.Ytdolabkagkdfaaa.M
set_option linter.unusedVariables false
set_option linter.unusedSimpArgs false

theorem FnExactGapAround : laws_FnExactGapAround.Pure := by
  intro a b ha hb
  refine Ev.rounds ?_
  unfold laws_FnExactGapAround.f spec_GapAround.f impl_GapAround.f
  simp only [poLong_f, areLong_f, List.all_cons, List.all_nil, Option.bind_some, Bool.and_true]
  cases h1 : long a <;> cases h2 : long b
  case true.true =>
    rw [long_iff] at h1 h2
    simp only [if_true, Bool.and_self]
    refine Ev.bind (a := ((Int.gcd a b : Int), true)) (Ev.bind (coDivides_ev a b (by omega) (by omega)) (Ev.const rfl)) ?_
    refine Ev.bind (a := ((Int.gcd a b : Int), true)) (Ev.bind (divisor_ev a b (by omega) (by omega)) (Ev.const rfl)) (Ev.const ?_)
    simp
  all_goals exact Ev.const (by simp)

end Go.Proofs.Ytdolabkagkdfaaa.Pure
