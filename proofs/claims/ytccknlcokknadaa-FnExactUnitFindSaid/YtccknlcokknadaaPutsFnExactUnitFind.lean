import Derived.Test.YtccknlcokknadaaRd
import Derived.Test.YtccknlcokknadaaPxlawsFnExactUnitFind
namespace Go.Proofs.Ytccknlcokknadaa.P
open Go.RowKit
/-- THE ONE PURE STATEMENT of laws_FnExactUnitFind. -/
def laws_FnExactUnitFind.Pure : Prop := ∀ (x0 : List (S24)) (x1 : ByteArray), (x0.length * 48 ≤ 140737488351232 ∧ ∀ y1 ∈ x0, Ok24 y1) → x1.size ≤ 140737488351232 → ∃ k, laws_FnExactUnitFind.f k x0 x1 = some true
end Go.Proofs.Ytccknlcokknadaa.P
