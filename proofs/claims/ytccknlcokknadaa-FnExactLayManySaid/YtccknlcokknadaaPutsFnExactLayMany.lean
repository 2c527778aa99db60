import Derived.Test.YtccknlcokknadaaRd
import Derived.Test.YtccknlcokknadaaPxlawsFnExactLayMany
namespace Go.Proofs.Ytccknlcokknadaa.P
open Go.RowKit
/-- THE ONE PURE STATEMENT of laws_FnExactLayMany. -/
def laws_FnExactLayMany.Pure : Prop := ∀ (x0 : S35), Ok35 x0 → ∃ k, laws_FnExactLayMany.f k x0.f0 x0.f1 = some true
end Go.Proofs.Ytccknlcokknadaa.P
