import Derived.Test.YtccknlcokknadaaRd
import Derived.Test.YtccknlcokknadaaPxlawsFnExactUnitSame
namespace Go.Proofs.Ytccknlcokknadaa.P
open Go.RowKit
/-- THE ONE PURE STATEMENT of laws_FnExactUnitSame. -/
def laws_FnExactUnitSame.Pure : Prop := ∀ (x0 : List (S24)) (x1 : List (S24)), (x0.length * 48 ≤ 140737488351232 ∧ ∀ y1 ∈ x0, Ok24 y1) → (x1.length * 48 ≤ 140737488351232 ∧ ∀ y1 ∈ x1, Ok24 y1) → ∃ k, laws_FnExactUnitSame.f k x0 x1 = some true
end Go.Proofs.Ytccknlcokknadaa.P
