/- The program's Constants returns what the reference's returns; no condition. -/
import Derived.Test.YtocbmciejfjikaaPFnExactConstantsx1
namespace Go.Proofs.Ytocbmciejfjikaa.Pure
open Go.RowKit Go.Proofs.Ytocbmciejfjikaa.PFnExactConstants Go.Proofs.YtocbmciejfjikaaW.PrintWords Go.Proofs.YtocbmciejfjikaaW.PrintLast

theorem FnExactConstants : laws_FnExactConstants.Pure := rfl

end Go.Proofs.Ytocbmciejfjikaa.Pure
