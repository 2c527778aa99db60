import Derived.Test.YtccknlcokknadaaRd
import Derived.Test.YtccknlcokknadaaPxlawsFnExactUnitOk
namespace Go.Proofs.Ytccknlcokknadaa.P
open Go.RowKit
/-- THE ONE PURE STATEMENT of laws_FnExactUnitOk. -/
def laws_FnExactUnitOk.Pure : Prop := ∀ (x0 : List (S24)), (x0.length * 48 ≤ 140737488351232 ∧ ∀ y1 ∈ x0, Ok24 y1) → ∃ k, laws_FnExactUnitOk.f k x0 = some true
end Go.Proofs.Ytccknlcokknadaa.P
