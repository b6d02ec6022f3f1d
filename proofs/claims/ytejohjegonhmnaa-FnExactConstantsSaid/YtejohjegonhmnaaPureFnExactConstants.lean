/- Every exported constant of the program has the value that the document gives. No condition. -/
import Derived.Test.YtejohjegonhmnaaPFnExactConstantsx1
namespace Go.Proofs.Ytejohjegonhmnaa.Pure
open Go.RowKit Go.Proofs.Ytejohjegonhmnaa.PFnExactConstants Go.Proofs.YtejohjegonhmnaaW.PrintWords Go.Proofs.YtejohjegonhmnaaW.PrintLast

theorem FnExactConstants : laws_FnExactConstants.Pure := rfl

end Go.Proofs.Ytejohjegonhmnaa.Pure
