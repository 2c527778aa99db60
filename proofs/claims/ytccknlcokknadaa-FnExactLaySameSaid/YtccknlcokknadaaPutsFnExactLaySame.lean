import Derived.Test.YtccknlcokknadaaRd
import Derived.Test.YtccknlcokknadaaPxlawsFnExactLaySame
namespace Go.Proofs.Ytccknlcokknadaa.P
open Go.RowKit
/-- THE ONE PURE STATEMENT of laws_FnExactLaySame. -/
def laws_FnExactLaySame.Pure : Prop := ∀ (x0 : S35) (x1 : S35), Ok35 x0 → Ok35 x1 → ∃ k, laws_FnExactLaySame.f k x0.f0 x0.f1 x1.f0 x1.f1 = some true
end Go.Proofs.Ytccknlcokknadaa.P
