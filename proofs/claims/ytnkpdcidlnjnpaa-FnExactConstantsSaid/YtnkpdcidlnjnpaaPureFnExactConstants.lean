/- Every exported constant has its value: the plain part. -/
import Derived.Test.YtnkpdcidlnjnpaaPx1
namespace Go.Proofs.Ytnkpdcidlnjnpaa.Pure
open Go.RowKit Go.Proofs.Ytnkpdcidlnjnpaa.P Go.Proofs.YtnkpdcidlnjnpaaW.PrintWords
set_option linter.unusedVariables false
set_option linter.unusedSimpArgs false

theorem FnExactConstants : laws_FnExactConstants.Pure := rfl

end Go.Proofs.Ytnkpdcidlnjnpaa.Pure
