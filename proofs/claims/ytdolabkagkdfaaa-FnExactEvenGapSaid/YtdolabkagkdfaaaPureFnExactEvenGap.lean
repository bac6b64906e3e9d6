/- For all numbers EvenGap gives the reference's answer: the plain part. -/
import Derived.Test.YtdolabkagkdfaaaPx4
import Derived.Test.YtdolabkagkdfaaaPx5
import Derived.Test.YtdolabkagkdfaaaMPosts
import Derived.Test.YtdolabkagkdfaaaMBase
import Derived.Test.YtdolabkagkdfaaaMGcd
import Derived.Test.YtdolabkagkdfaaaMLow
namespace Go.Proofs.Ytdolabkagkdfaaa.Pure
open Go.RowKit Go.Proofs.Ytdolabkagkdfaaa.P Go.Proofs.YtdolabkagkdfaaaW.PrintWords Go.Proofs.Ytdolabkagkdfaaa.M
set_option linter.unusedVariables false
set_option linter.unusedSimpArgs false

theorem FnExactEvenGap : laws_FnExactEvenGap.Pure := by
  intro a b ha hb
  refine Ev.rounds ?_
  unfold laws_FnExactEvenGap.f spec_EvenGap.f impl_EvenGap.f
  simp only [poLong_f, areLong_f, List.all_cons, List.all_nil, Option.bind_some, Bool.and_true]
  cases h1 : long a <;> cases h2 : long b
  case true.true =>
    have hp := parts_range a b h1 h2
    have hu := up_f a b h1 h2
    have hq := poParts_f a b h1 h2
    rw [long_iff] at h1 h2
    simp only [if_true, Bool.and_self, hu, Option.bind_some, Bool.not_true]
    refine Ev.bind (a := (_, _, true)) (Ev.step (f := fun k => (spec_shLow.f k a (parts a b)).bind fun bt145 => some (bt145.1, bt145.2, true)) (fun k => ?_) (Ev.bind (shLow_ev a (parts a b) (by omega) (by omega)) (Ev.const rfl))) ?_
    · simp only [spec_EvenGap.j0, hq, Option.bind_some, Bool.false_eq_true, if_false]
    · refine Ev.bind (a := (_, _, true)) (Ev.bind (lowest_ev a (parts a b) (by omega) (by omega)) (Ev.const rfl)) (Ev.const ?_)
      simp
  all_goals
    simp only [Bool.false_eq_true, if_false, if_true, Bool.not_false, Bool.false_and, Bool.true_and]
    refine Ev.bind (a := (0, 0, false)) (Ev.step (f := fun _ => some _) (fun k => ?_) (Ev.now _)) (Ev.const ?_)
    · simp only [spec_EvenGap.j0, if_true]
    · simp

end Go.Proofs.Ytdolabkagkdfaaa.Pure
