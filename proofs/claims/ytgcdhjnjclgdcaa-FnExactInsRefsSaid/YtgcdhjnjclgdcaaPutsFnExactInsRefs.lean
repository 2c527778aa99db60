import Derived.Test.YtgcdhjnjclgdcaaRd
import Derived.Test.YtgcdhjnjclgdcaaPxlawsFnExactInsRefs
namespace Go.Proofs.Ytgcdhjnjclgdcaa.P
open Go.RowKit
/-- THE ONE PURE STATEMENT of laws_FnExactInsRefs. -/
def laws_FnExactInsRefs.Pure : Prop := ∀ (x0 : S27), Ok27 x0 → laws_FnExactInsRefs.f x0.f0 x0.f1 x0.f2 = some true
end Go.Proofs.Ytgcdhjnjclgdcaa.P
