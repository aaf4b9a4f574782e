/- The law FnExactConstants answers true: both constants of the program have the values that the law names. It has no condition. -/
import Derived.Test.YtccipjlggcpbgaaPFnExactConstantsx1
namespace Go.Proofs.Ytccipjlggcpbgaa.Pure
open Go.RowKit Go.Proofs.Ytccipjlggcpbgaa.PFnExactConstants Go.Proofs.YtccipjlggcpbgaaW.PrintWords Go.Proofs.YtccipjlggcpbgaaW.PrintLast

theorem FnExactConstants : laws_FnExactConstants.Pure := rfl

end Go.Proofs.Ytccipjlggcpbgaa.Pure
