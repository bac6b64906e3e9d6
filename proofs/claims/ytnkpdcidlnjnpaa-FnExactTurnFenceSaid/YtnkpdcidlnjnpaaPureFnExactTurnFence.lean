/- For all arguments TurnFence gives the reference's answer: the plain part. -/
import Derived.Test.YtnkpdcidlnjnpaaPx2
import Derived.Test.YtnkpdcidlnjnpaaPx3
import Derived.Test.YtnkpdcidlnjnpaaMBase
import Derived.Test.YtnkpdcidlnjnpaaMFence
import Derived.Test.YtnkpdcidlnjnpaaMStood
namespace Go.Proofs.Ytnkpdcidlnjnpaa.Pure
open Go.RowKit Go.Proofs.Ytnkpdcidlnjnpaa.P Go.Proofs.YtnkpdcidlnjnpaaW.PrintWords Go.Proofs.Ytnkpdcidlnjnpaa.M
set_option linter.unusedVariables false
set_option linter.unusedSimpArgs false

theorem law_of (s : ByteArray) (by_ : Int) (r0 : ByteArray) (r1 : Bool) (hb_s : ¬ ((s.size : Int) > 1048576)) (hs : Ev (fun k => spec_TurnFence.f k s by_) (r0, r1)) (hi : impl_TurnFence.f s by_ = some (r0, r1)) : Ev (fun k => laws_FnExactTurnFence.f k s by_) true := by
  unfold laws_FnExactTurnFence.f
  repeat (first
    | exact Ev.now _
    | (with_reducible refine Ev.bind hs ?_)
    | simp only [if_true, if_false, bne_self_eq_false, Bool.false_eq_true, Option.bind_some, hi, hb_s]
    )

theorem FnExactTurnFence : laws_FnExactTurnFence.Pure := by
  intro s b _ _
  refine Ev.rounds ?_
  by_cases hs : (s.size : Int) > 1048576
  · unfold laws_FnExactTurnFence.f
    simp only [hs, if_true]; exact Ev.now _
  have h1 := coFence_ev s true
  have h2 := isStood_f s true
  cases hb : stoodB s true
  · rw [hb] at h1 h2
    refine law_of s b ⟨#[]⟩ false hs ?_ ?_
    · unfold spec_TurnFence.f
      exact Ev.bind h1 (Ev.now _)
    · unfold impl_TurnFence.f
      rw [h2]; rfl
  · rw [hb] at h1 h2
    have hz := stood_size hb
    have hw : wrap64 ((s.size : Int) - 1) = (s.size : Int) - 1 := wrap_id (by omega) (by omega)
    cases hi : inn 0 ((s.size : Int) - 1) b
    · refine law_of s b ⟨#[]⟩ false hs ?_ ?_
      · unfold spec_TurnFence.f
        refine Ev.bind h1 ?_
        rw [hw, l1In_inn, hi]
        exact Ev.now _
      · unfold impl_TurnFence.f
        rw [h2, hw, within_f, hi]; rfl
    · have hr := (inn_iff _ _ _).1 hi
      have c1 : 0 ≤ b := hr.1
      have c2 : b ≤ (s.size : Int) := by omega
      have c3 : (s.extract (b : Int).toNat s.size).size + (s.extract 0 (b : Int).toNat).size ≤ 9223372036854775807 := by
        rw [ByteArray.size_extract, ByteArray.size_extract]; omega
      refine law_of s b ((s.extract (b : Int).toNat s.size) ++ (s.extract 0 (b : Int).toNat)) true hs ?_ ?_
      · unfold spec_TurnFence.f
        refine Ev.bind h1 ?_
        rw [hw, l1In_inn, hi]
        simp only [Option.bind_some, if_true, c1, c2, c3]
        exact Ev.now _
      · unfold impl_TurnFence.f
        rw [h2, hw, within_f, hi]
        unfold impl_turned.f
        simp only [Option.bind_some, if_true, c1, c2, c3]

end Go.Proofs.Ytnkpdcidlnjnpaa.Pure
