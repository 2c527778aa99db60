import Derived.Test.YtccknlcokknadaaRd
import Derived.Test.YtccknlcokknadaaPxlawsFnExactFunOk
namespace Go.Proofs.Ytccknlcokknadaa.P
open Go.RowKit
/-- THE ONE PURE STATEMENT of laws_FnExactFunOk. -/
def laws_FnExactFunOk.Pure : Prop := ∀ (x0 : S24), Ok24 x0 → ∃ k, laws_FnExactFunOk.f k x0.f0 x0.f1 x0.f2 = some true
end Go.Proofs.Ytccknlcokknadaa.P
