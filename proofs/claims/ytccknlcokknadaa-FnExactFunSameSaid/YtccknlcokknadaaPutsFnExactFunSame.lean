import Derived.Test.YtccknlcokknadaaRd
import Derived.Test.YtccknlcokknadaaPxlawsFnExactFunSame
namespace Go.Proofs.Ytccknlcokknadaa.P
open Go.RowKit
/-- THE ONE PURE STATEMENT of laws_FnExactFunSame. -/
def laws_FnExactFunSame.Pure : Prop := ∀ (x0 : S24) (x1 : S24), Ok24 x0 → Ok24 x1 → ∃ k, laws_FnExactFunSame.f k x0.f0 x0.f1 x0.f2 x1.f0 x1.f1 x1.f2 = some true
end Go.Proofs.Ytccknlcokknadaa.P
