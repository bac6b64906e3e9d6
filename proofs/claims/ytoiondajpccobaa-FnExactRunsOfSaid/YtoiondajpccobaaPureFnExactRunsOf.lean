/- For every text RunsOf gives the reference's answer: the plain part. -/
import Derived.Test.YtoiondajpccobaaPx0
import Derived.Test.YtoiondajpccobaaPx13
import Derived.Test.YtoiondajpccobaaPx17
import Derived.Test.YtoiondajpccobaaPx8
import Derived.Test.YtoiondajpccobaaMBase
import Derived.Test.YtoiondajpccobaaMFence
import Derived.Test.YtoiondajpccobaaMRuns
import Derived.Test.YtoiondajpccobaaMRuns2
import Derived.Test.YtoiondajpccobaaMStrokes
namespace Go.Proofs.Ytoiondajpccobaa.Pure
open Go.RowKit Go.Proofs.Ytoiondajpccobaa.P Go.Proofs.YtoiondajpccobaaW.PrintWords Go.Proofs.Ytoiondajpccobaa.M
set_option linter.unusedVariables false
set_option linter.unusedSimpArgs false

theorem law_of (s : ByteArray) (r0 : List S52) (r1 : Bool) (hs0 : ¬ (s.size : Int) > 1048576) (hl : r0.length ≤ 60) (hs : Ev (fun k => spec_RunsOf.f k s) (r0, r1)) (hi : Ev (fun k => impl_RunsOf.f k s) (r0, r1)) : Ev (fun k => laws_FnExactRunsOf.f k s) true := by
  have he := eqStrokeS_same r0 (by omega)
  have hm := markStrokeS_ev r0 hl
  have hh := heldStrokeS_ev r0.length hl
  have hn : ¬ (3 * (r0.length : Int) + 1 < 0) := by omega
  unfold laws_FnExactRunsOf.f
  repeat (first
    | exact Ev.now _
    | (with_reducible refine Ev.bind hs ?_)
    | (with_reducible refine Ev.bind hi ?_)
    | (with_reducible refine Ev.bind he ?_)
    | (with_reducible refine Ev.bind hm ?_)
    | (with_reducible refine Ev.bind hh ?_)
    | simp only [if_true, if_false, bne_self_eq_false, Bool.false_eq_true, Option.bind_some, hs0, hn]
    | (refine Ev.step (fun k => by simp only [laws_FnExactRunsOf.j0]; rfl) ?_)
    | (refine Ev.step (fun k => by simp only [laws_FnExactRunsOf.j1]; rfl) ?_))
theorem FnExactRunsOf : laws_FnExactRunsOf.Pure := by
  intro s _
  refine Ev.rounds ?_
  by_cases hs : (s.size : Int) > 1048576
  · unfold laws_FnExactRunsOf.f
    simp only [hs, if_true]; exact Ev.now _
  have h1 := stGood_ev s
  have h2 := isFence_f s
  cases hb : fenceB s
  · rw [hb] at h1 h2
    refine law_of s [] false hs (by simp) ?_ ?_
    · unfold spec_RunsOf.f
      exact Ev.bind h1 (Ev.now _)
    · unfold impl_RunsOf.f
      rw [h2]; exact Ev.now _
  · rw [hb] at h1 h2
    have hz := fence_size hb
    obtain ⟨r, hr, e1, e2⟩ := runs_ev s hz.2
    have hfl : (r.filter fun s => !bareB s).length ≤ r.length := List.length_filter_le _ _
    have e3 := runsOf_spec r (by omega) _ 0 [] (Nat.zero_le _) rfl (Nat.zero_le _)
    rw [List.drop_zero, List.nil_append] at e3
    refine law_of s (r.filter fun s => !bareB s) true hs (by omega) ?_ ?_
    · unfold spec_RunsOf.f
      refine Ev.bind h1 ?_
      simp only [if_true]
      exact Ev.bind e1 e3
    · unfold impl_RunsOf.f
      rw [h2]
      simp only [Option.bind_some, if_true]
      refine Ev.bind (coloured_ev s r e2) ?_
      refine Ev.bind (Ev.const (r := r.filter fun s => !bareB s) ?_) (Ev.now _)
      unfold impl_Stroke.f
      rw [if_pos (by omega)]

end Go.Proofs.Ytoiondajpccobaa.Pure
