import Derived.Test.YtgcdhjnjclgdcaaRd
import Derived.Test.YtgcdhjnjclgdcaaPxspecInsOk
namespace Go.Proofs.Ytgcdhjnjclgdcaa.P
open Go.RowKit
/-- THE ONE PURE STATEMENT of laws_FnExactInsOk. -/
def laws_FnExactInsOk.Pure : Prop := ∀ (x0 : S27), Ok27 x0 → ∃ k, laws_FnExactInsOk.f k x0.f0 x0.f1 x0.f2 = some true
end Go.Proofs.Ytgcdhjnjclgdcaa.P
