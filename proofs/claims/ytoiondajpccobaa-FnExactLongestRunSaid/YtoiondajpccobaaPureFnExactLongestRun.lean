/- For every text LongestRun gives the reference's answer: the plain part. -/
import Derived.Test.YtoiondajpccobaaPx7
import Derived.Test.YtoiondajpccobaaPx8
import Derived.Test.YtoiondajpccobaaPx9
import Derived.Test.YtoiondajpccobaaMBase
import Derived.Test.YtoiondajpccobaaMFence
import Derived.Test.YtoiondajpccobaaMRuns
import Derived.Test.YtoiondajpccobaaMRuns2
namespace Go.Proofs.Ytoiondajpccobaa.Pure
open Go.RowKit Go.Proofs.Ytoiondajpccobaa.P Go.Proofs.YtoiondajpccobaaW.PrintWords Go.Proofs.Ytoiondajpccobaa.M
set_option linter.unusedVariables false
set_option linter.unusedSimpArgs false

theorem law_of (s : ByteArray) (r0 : Int) (r1 : Int) (r2 : Bool) (hb_s : ¬ ((s.size : Int) > 1048576)) (hs : Ev (fun k => spec_LongestRun.f k s) (r0, r1, r2)) (hi : Ev (fun k => impl_LongestRun.f k s) (r0, r1, r2)) : Ev (fun k => laws_FnExactLongestRun.f k s) true := by
  unfold laws_FnExactLongestRun.f
  repeat (first
    | exact Ev.now _
    | (with_reducible refine Ev.bind hs ?_)
    | (with_reducible refine Ev.bind hi ?_)
    | simp only [if_true, if_false, bne_self_eq_false, Bool.false_eq_true, Option.bind_some, hb_s]
    )

theorem FnExactLongestRun : laws_FnExactLongestRun.Pure := by
  intro s _
  refine Ev.rounds ?_
  by_cases hs : (s.size : Int) > 1048576
  · unfold laws_FnExactLongestRun.f
    simp only [hs, if_true]; exact Ev.now _
  have h1 := stGood_ev s
  have h2 := isFence_f s
  cases hb : fenceB s
  · rw [hb] at h1 h2
    refine law_of s 0 0 false hs ?_ ?_
    · unfold spec_LongestRun.f
      exact Ev.bind h1 (Ev.now _)
    · unfold impl_LongestRun.f
      rw [h2]; exact Ev.now _
  · rw [hb] at h1 h2
    have hz := fence_size hb
    obtain ⟨r, hr, e1, e2⟩ := runs_ev s hz.2
    have hfl : (r.filter fun s => !bareB s).length ≤ r.length := List.length_filter_le _ _
    obtain ⟨a, b, c, e3, e4⟩ := longest_both r (r.filter fun s => !bareB s) (by omega) (by omega) _ 0 0 0 0 (by simp) (Nat.zero_le _) (Nat.zero_le _) rfl (Int.le_refl 0) (fun _ => rfl)
    refine law_of s a b c hs ?_ ?_
    · unfold spec_LongestRun.f
      refine Ev.bind h1 ?_
      simp only [if_true]
      exact Ev.bind e1 e3
    · unfold impl_LongestRun.f
      rw [h2]
      simp only [Option.bind_some, if_true]
      exact Ev.bind (coloured_ev s r e2) e4

end Go.Proofs.Ytoiondajpccobaa.Pure
