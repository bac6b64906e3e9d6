/- A fence's bytes are plain letters. -/
import Derived.Test.YtnkpdcidlnjnpaaPx1
import Derived.Test.YtnkpdcidlnjnpaaPx2
import Derived.Test.YtnkpdcidlnjnpaaMBase
import Derived.Test.YtnkpdcidlnjnpaaMFence
namespace Go.Proofs.Ytnkpdcidlnjnpaa.M
open Go.RowKit Go.Proofs.Ytnkpdcidlnjnpaa.P Go.Proofs.YtnkpdcidlnjnpaaW.PrintWords Go.Proofs.Ytnkpdcidlnjnpaa.M
set_option linter.unusedVariables false
set_option linter.unusedSimpArgs false

theorem fence_plain {s : ByteArray} (h : fenceB s = true) : plainB s = true := by
  have hs := fence_size h
  unfold plainB
  unfold fenceB at h
  rw [Bool.and_eq_true, List.all_eq_true] at h
  rw [Bool.and_eq_true, List.all_eq_true, decide_eq_true_eq]
  refine ⟨by omega, fun c hc => ?_⟩
  have := h.2 c hc
  simp [boardB] at this
  simp
  omega

end Go.Proofs.Ytnkpdcidlnjnpaa.M
