import Derived.Test.YtccknlcokknadaaRd
import Derived.Test.YtccknlcokknadaaPxlawsFnExactPickSame
namespace Go.Proofs.Ytccknlcokknadaa.P
open Go.RowKit
/-- THE ONE PURE STATEMENT of laws_FnExactPickSame. -/
def laws_FnExactPickSame.Pure : Prop := ∀ (x0 : List (List (S24))) (x1 : List (List (S24))), (x0.length * 24 ≤ 140737488351232 ∧ ∀ y1 ∈ x0, (y1.length * 48 ≤ 140737488351232 ∧ ∀ y2 ∈ y1, Ok24 y2)) → (x1.length * 24 ≤ 140737488351232 ∧ ∀ y1 ∈ x1, (y1.length * 48 ≤ 140737488351232 ∧ ∀ y2 ∈ y1, Ok24 y2)) → ∃ k, laws_FnExactPickSame.f k x0 x1 = some true
end Go.Proofs.Ytccknlcokknadaa.P
