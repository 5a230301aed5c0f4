/- The law FnExactConstants, printed as a Lean function, answers true: no condition. -/
import Derived.Test.YtekdhfppbahidaaPFnExactConstantsx1
namespace Go.Proofs.Ytekdhfppbahidaa.Pure
open Go.RowKit Go.Proofs.Ytekdhfppbahidaa.PFnExactConstants Go.Proofs.YtekdhfppbahidaaW.PrintWords Go.Proofs.YtekdhfppbahidaaW.PrintLast

theorem FnExactConstants : laws_FnExactConstants.Pure := rfl

end Go.Proofs.Ytekdhfppbahidaa.Pure
