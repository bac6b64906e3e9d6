/- For every text CountRuns gives the reference's answer: the plain part. -/
import Derived.Test.YtoiondajpccobaaPx5
import Derived.Test.YtoiondajpccobaaPx6
import Derived.Test.YtoiondajpccobaaPx7
import Derived.Test.YtoiondajpccobaaMBase
import Derived.Test.YtoiondajpccobaaMFence
import Derived.Test.YtoiondajpccobaaMRuns
namespace Go.Proofs.Ytoiondajpccobaa.Pure
open Go.RowKit Go.Proofs.Ytoiondajpccobaa.P Go.Proofs.YtoiondajpccobaaW.PrintWords Go.Proofs.Ytoiondajpccobaa.M
set_option linter.unusedVariables false
set_option linter.unusedSimpArgs false

theorem law_of (s : ByteArray) (r0 : Int) (r1 : Bool) (hb_s : ¬ ((s.size : Int) > 1048576)) (hs : Ev (fun k => spec_CountRuns.f k s) (r0, r1)) (hi : Ev (fun k => impl_CountRuns.f k s) (r0, r1)) : Ev (fun k => laws_FnExactCountRuns.f k s) true := by
  unfold laws_FnExactCountRuns.f
  repeat (first
    | exact Ev.now _
    | (with_reducible refine Ev.bind hs ?_)
    | (with_reducible refine Ev.bind hi ?_)
    | simp only [if_true, if_false, bne_self_eq_false, Bool.false_eq_true, Option.bind_some, hb_s]
    )

theorem FnExactCountRuns : laws_FnExactCountRuns.Pure := by
  intro s _
  refine Ev.rounds ?_
  by_cases hs : (s.size : Int) > 1048576
  · unfold laws_FnExactCountRuns.f
    simp only [hs, if_true]; exact Ev.now _
  have h1 := stGood_ev s
  have h2 := isFence_f s
  cases hb : fenceB s
  · rw [hb] at h1 h2
    refine law_of s 0 false hs ?_ ?_
    · unfold spec_CountRuns.f
      exact Ev.bind h1 (Ev.now _)
    · unfold impl_CountRuns.f
      rw [h2]; exact Ev.now _
  · rw [hb] at h1 h2
    have hz := fence_size hb
    obtain ⟨r, hr, e1, e2⟩ := runs_ev s hz.2
    refine law_of s (r.length : Int) true hs ?_ ?_
    · unfold spec_CountRuns.f
      refine Ev.bind h1 ?_
      simp only [if_true]
      exact Ev.bind e1 (Ev.now _)
    · unfold impl_CountRuns.f
      rw [h2]
      simp only [Option.bind_some, if_true]
      exact Ev.bind e2 (Ev.now _)

end Go.Proofs.Ytoiondajpccobaa.Pure
