/- The program's constants are those of the document: no condition. -/
import Derived.Test.YtgcdhjnjclgdcaaPxlawsFnExactConstants
namespace Go.Proofs.Ytgcdhjnjclgdcaa.Pure
open Go.Proofs.Ytgcdhjnjclgdcaa.P
theorem FnExactConstants : laws_FnExactConstants.Pure := rfl
end Go.Proofs.Ytgcdhjnjclgdcaa.Pure
