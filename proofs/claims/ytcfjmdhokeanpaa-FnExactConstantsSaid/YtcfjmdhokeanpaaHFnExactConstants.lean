/- FnExactConstants: the program's constants are the reference's. No condition. -/
import Derived.Test.YtcfjmdhokeanpaaLawFnExactConstants
import Derived.Test.YtcfjmdhokeanpaaPlain
namespace Go.Proofs.Ytcfjmdhokeanpaa.fnExactConstants
open Go.RowKit Go.Proofs.YtcfjmdhokeanpaaW.PrintWords Go.Proofs.YtcfjmdhokeanpaaW.PrintLast Go.Proofs.YtcfjmdhokeanpaaW.PrintMore Go.Proofs.Ytcfjmdhokeanpaa.P
set_option linter.unusedVariables false
set_option linter.unusedSimpArgs false
theorem pure_holds : Pure := by
  first | rfl | exact rfl | (unfold Pure; rfl)
end Go.Proofs.Ytcfjmdhokeanpaa.fnExactConstants
namespace Go.Proofs.Ytcfjmdhokeanpaa
theorem fnExactConstants_holds : Rows.FnExactConstantsSaid := fnExactConstants.proved fnExactConstants.pure_holds
#print axioms fnExactConstants_holds
end Go.Proofs.Ytcfjmdhokeanpaa
