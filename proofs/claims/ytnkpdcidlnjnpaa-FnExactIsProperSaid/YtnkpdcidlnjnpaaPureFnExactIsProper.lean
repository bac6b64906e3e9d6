/- For all arguments IsProper gives the reference's answer: the plain part. -/
import Derived.Test.YtnkpdcidlnjnpaaPx5
import Derived.Test.YtnkpdcidlnjnpaaPx6
import Derived.Test.YtnkpdcidlnjnpaaMBase
import Derived.Test.YtnkpdcidlnjnpaaMFence
import Derived.Test.YtnkpdcidlnjnpaaMStood
import Derived.Test.YtnkpdcidlnjnpaaMProper
namespace Go.Proofs.Ytnkpdcidlnjnpaa.Pure
open Go.RowKit Go.Proofs.Ytnkpdcidlnjnpaa.P Go.Proofs.YtnkpdcidlnjnpaaW.PrintWords Go.Proofs.Ytnkpdcidlnjnpaa.M
set_option linter.unusedVariables false
set_option linter.unusedSimpArgs false

theorem law_of (s : ByteArray) (a : Bool) (r0 : Bool) (r1 : Bool) (hb_s : ¬ ((s.size : Int) > 1048576)) (hs : Ev (fun k => spec_IsProper.f k s a) (r0, r1)) (hi : Ev (fun k => impl_IsProper.f k s a) (r0, r1)) : Ev (fun k => laws_FnExactIsProper.f k s a) true := by
  unfold laws_FnExactIsProper.f
  repeat (first
    | exact Ev.now _
    | (with_reducible refine Ev.bind hs ?_)
    | (with_reducible refine Ev.bind hi ?_)
    | simp only [if_true, if_false, bne_self_eq_false, Bool.false_eq_true, Option.bind_some, hb_s]
    )

theorem FnExactIsProper : laws_FnExactIsProper.Pure := by
  intro s a _
  refine Ev.rounds ?_
  by_cases hs : (s.size : Int) > 1048576
  · unfold laws_FnExactIsProper.f
    simp only [hs, if_true]; exact Ev.now _
  have h1 := coFence_ev s a
  have h2 := isStood_f s a
  cases hb : stoodB s a
  · rw [hb] at h1 h2
    refine law_of s a false false hs ?_ ?_
    · unfold spec_IsProper.f
      exact Ev.bind h1 (Ev.now _)
    · unfold impl_IsProper.f
      rw [h2]; exact Ev.now _
  · rw [hb] at h1 h2
    have hz := stood_size hb
    obtain ⟨r, e1, e2⟩ := proper_ev s a (by omega) (by omega)
    refine law_of s a r true hs ?_ ?_
    · unfold spec_IsProper.f
      refine Ev.bind h1 ?_
      simp only [if_true]
      exact Ev.bind e1 (Ev.now _)
    · unfold impl_IsProper.f
      rw [h2]
      simp only [Option.bind_some, if_true]
      exact Ev.bind e2 (Ev.now _)

end Go.Proofs.Ytnkpdcidlnjnpaa.Pure
