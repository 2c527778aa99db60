import Derived.Test.YtccknlcokknadaaRd
import Derived.Test.YtccknlcokknadaaPxlawsFnExactMachSame
namespace Go.Proofs.Ytccknlcokknadaa.P
open Go.RowKit
/-- THE ONE PURE STATEMENT of laws_FnExactMachSame. -/
def laws_FnExactMachSame.Pure : Prop := ∀ (x0 : S46) (x1 : S46), Ok46 x0 → Ok46 x1 → ∃ k, laws_FnExactMachSame.f k x0.f0.f0 x0.f0.f1 x0.f1 x0.f2 x0.f3 x0.f4 x1.f0.f0 x1.f0.f1 x1.f1 x1.f2 x1.f3 x1.f4 = some true
end Go.Proofs.Ytccknlcokknadaa.P
