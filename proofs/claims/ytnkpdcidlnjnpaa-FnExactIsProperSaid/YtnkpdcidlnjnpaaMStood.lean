/- What a fence is that may stand in a line or around. -/
import Derived.Test.YtnkpdcidlnjnpaaPx1
import Derived.Test.YtnkpdcidlnjnpaaPx3
import Derived.Test.YtnkpdcidlnjnpaaMBase
import Derived.Test.YtnkpdcidlnjnpaaMFence
namespace Go.Proofs.Ytnkpdcidlnjnpaa.M
open Go.RowKit Go.Proofs.Ytnkpdcidlnjnpaa.P Go.Proofs.YtnkpdcidlnjnpaaW.PrintWords Go.Proofs.Ytnkpdcidlnjnpaa.M
set_option linter.unusedVariables false
set_option linter.unusedSimpArgs false

def stoodB (s : ByteArray) (a : Bool) : Bool := fenceB s && (!a || decide (3 ≤ s.size))
theorem coFence_ev (s : ByteArray) (a : Bool) : Ev (fun k => spec_coFence.f k s a) (stoodB s a) := by
  unfold spec_coFence.f stoodB
  refine Ev.bind (stGood_ev s) ?_
  cases h : fenceB s
  · exact Ev.now _
  · have hs := fence_size h
    simp only [if_true]
    unfold spec_coSize.f
    rw [l1In_inn, (inn_iff _ _ _).2 (show 1 ≤ (s.size : Int) ∧ (s.size : Int) ≤ 20 by omega)]
    simp only [Option.bind_some, if_true]
    by_cases h3 : (s.size : Int) ≥ 3
    · simp only [h3, if_true, Option.bind_some]
      exact Ev.const (by simp [show 3 ≤ s.size by omega])
    · simp only [h3, if_false, Option.bind_some]
      exact Ev.const (by simp [show ¬ 3 ≤ s.size by omega])
theorem isStood_f (s : ByteArray) (a : Bool) : impl_isStood.f s a = some (stoodB s a) := by
  unfold impl_isStood.f stoodB
  rw [isFence_f]
  cases h : fenceB s
  · rfl
  · have hs := fence_size h
    simp only [Option.bind_some, if_true]
    unfold impl_isRing.f
    rw [within_f, (inn_iff _ _ _).2 (show 1 ≤ (s.size : Int) ∧ (s.size : Int) ≤ 20 by omega)]
    simp only [Option.bind_some, if_true]
    cases a
    · rfl
    · simp
      omega
theorem stood_size {s : ByteArray} {a : Bool} (h : stoodB s a = true) : 1 ≤ s.size ∧ s.size ≤ 20 ∧ (a = true → 3 ≤ s.size) := by
  unfold stoodB at h
  rw [Bool.and_eq_true] at h
  have h1 := fence_size h.1
  refine ⟨h1.1, h1.2, fun ha => ?_⟩
  subst ha
  simpa using h.2

end Go.Proofs.Ytnkpdcidlnjnpaa.M
