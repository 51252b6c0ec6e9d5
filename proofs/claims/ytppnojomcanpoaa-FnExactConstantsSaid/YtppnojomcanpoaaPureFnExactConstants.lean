/- The printed pure statement of the law that the constants are the document's holds. -/
import Derived.Test.YtppnojomcanpoaaPFnExactConstantsx1
import Derived.Test.YtppnojomcanpoaaBase
namespace Go.Proofs.Ytppnojomcanpoaa.Pure
open Go.RowKit Go.Proofs.Ytppnojomcanpoaa.PFnExactConstants Go.Proofs.YtppnojomcanpoaaW.PrintWords Go.Proofs.YtppnojomcanpoaaW.PrintLast Go.Proofs.Ytppnojomcanpoaa.Base
set_option linter.unusedVariables false
set_option linter.unusedSimpArgs false

theorem FnExactConstants : laws_FnExactConstants.Pure := by
  unfold laws_FnExactConstants.Pure laws_FnExactConstants.f
  rfl

end Go.Proofs.Ytppnojomcanpoaa.Pure
