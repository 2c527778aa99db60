/-
  DERIVED. GIVEN WITH THE SEED: THE CARDS: each row of YtajhjdhkeahlpaaDoorRows.lean that lists a variable, with what it lists TIED to the program's text (the seventh form; the later family's looks); each row that meets fmt, with fmt's text TOLD by the authors' own Lean function (tested against real Go, not proved from fmt's source: count such statements apart). THE CARD IS WHAT COUNTS. Prove the row's statement (the work); the ties are given (YtajhjdhkeahlpaaDoorTie.lean); close each card by the builder's one call (the guide's Derived/Test/ToyasCard.lean, 'card_holds'). Laid BY PROGRAM, IN A SANDBOX (cutbox-door.mjs). By AI agents, Wed Nov 11 2026. No macro, syntax, notation, axiom, sorry.
-/
import Derived.Test.YtajhjdhkeahlpaaDoorRows
import GoSem.ClaimSeven
namespace Go.Proofs.YtajhjdhkeahlpaaDoor
namespace Rows

/-- THE TIED CARD OF 'laws.FnExactInsText'. -/
def fnExactInsTextCard : Claim7 := { stood := { row := fnExactInsTextRow, standIns := [], harness := (true, "5aef73756e868ac28376e50c97f28b51c0188b769d0d171fcf03d3e0a0cabd65"), looks := true }, kinds := [], alts := [], laidByText := true, laidKinds := [.data, .data, .data], laidTests := true, laidLooks := .later }
def FnExactInsTextCardSaid : Prop := Claim7.holds Tryd.pinned (.plain (OpenSpec.ofChange fnExactInsTextSpec)) fnExactInsTextCard

/-- THE TIED CARD OF 'laws.FnInsBent'. -/
def fnInsBentCard : Claim7 := { stood := { row := fnInsBentRow, standIns := [], harness := (true, "5aef73756e868ac28376e50c97f28b51c0188b769d0d171fcf03d3e0a0cabd65"), looks := true }, kinds := [], alts := [], laidByText := true, laidKinds := [.data, .data, .data], laidTests := true, laidLooks := .later }
def FnInsBentCardSaid : Prop := Claim7.holds Tryd.pinned (.plain (OpenSpec.ofChange fnInsBentSpec)) fnInsBentCard

/-- THE TIED CARD OF 'laws.FnUnitBent'. -/
def fnUnitBentCard : Claim7 := { stood := { row := fnUnitBentRow, standIns := [], harness := (true, "5aef73756e868ac28376e50c97f28b51c0188b769d0d171fcf03d3e0a0cabd65"), looks := true }, kinds := [], alts := [], laidByText := true, laidKinds := [.data, .data, .data], laidTests := true, laidLooks := .later }
def FnUnitBentCardSaid : Prop := Claim7.holds Tryd.pinned (.plain (OpenSpec.ofChange fnUnitBentSpec)) fnUnitBentCard

/-- THE TIED CARD OF 'laws.FnExactUnitText'. -/
def fnExactUnitTextCard : Claim7 := { stood := { row := fnExactUnitTextRow, standIns := [], harness := (true, "5aef73756e868ac28376e50c97f28b51c0188b769d0d171fcf03d3e0a0cabd65"), looks := true }, kinds := [], alts := [], laidByText := true, laidKinds := [.data, .data, .data], laidTests := true, laidLooks := .later }
def FnExactUnitTextCardSaid : Prop := Claim7.holds Tryd.pinned (.plain (OpenSpec.ofChange fnExactUnitTextSpec)) fnExactUnitTextCard

/-- THE TIED CARD OF 'laws.FnExactInsRead'. -/
def fnExactInsReadCard : Claim7 := { stood := { row := fnExactInsReadRow, standIns := [], harness := (true, "5aef73756e868ac28376e50c97f28b51c0188b769d0d171fcf03d3e0a0cabd65"), looks := true }, kinds := [], alts := [], laidByText := true, laidKinds := [.data, .data, .data, .sentinel, .sentinel], laidTests := true, laidLooks := .later }
def FnExactInsReadCardSaid : Prop := Claim7.holds Tryd.pinned (.plain (OpenSpec.ofChange fnExactInsReadSpec)) fnExactInsReadCard

/-- THE TIED CARD OF 'laws.FnIns'. -/
def fnInsCard : Claim7 := { stood := { row := fnInsRow, standIns := [], harness := (true, "5aef73756e868ac28376e50c97f28b51c0188b769d0d171fcf03d3e0a0cabd65"), looks := true }, kinds := [], alts := [], laidByText := true, laidKinds := [.data, .data, .data, .sentinel, .sentinel], laidTests := true, laidLooks := .later }
def FnInsCardSaid : Prop := Claim7.holds Tryd.pinned (.plain (OpenSpec.ofChange fnInsSpec)) fnInsCard

/-- THE SECOND FORM's CARD OF 'laws.FnExactInsText'. -/
def fnExactInsTextUptoCard : Claim7 := { stood := { row := fnExactInsTextUptoRow, standIns := [], harness := (true, "5aef73756e868ac28376e50c97f28b51c0188b769d0d171fcf03d3e0a0cabd65"), looks := true }, kinds := [], alts := [], laidByText := true, laidKinds := [.data, .data, .data], laidTests := true, laidLooks := .later }
def FnExactInsTextUptoCardSaid : Prop := Claim7.holds Tryd.pinned (.plain (OpenSpec.upto fnExactInsTextSpec)) fnExactInsTextUptoCard

/-- THE SECOND FORM's CARD OF 'laws.FnInsBent'. -/
def fnInsBentUptoCard : Claim7 := { stood := { row := fnInsBentUptoRow, standIns := [], harness := (true, "5aef73756e868ac28376e50c97f28b51c0188b769d0d171fcf03d3e0a0cabd65"), looks := true }, kinds := [], alts := [], laidByText := true, laidKinds := [.data, .data, .data], laidTests := true, laidLooks := .later }
def FnInsBentUptoCardSaid : Prop := Claim7.holds Tryd.pinned (.plain (OpenSpec.upto fnInsBentSpec)) fnInsBentUptoCard

/-- THE SECOND FORM's CARD OF 'laws.FnUnitBent'. -/
def fnUnitBentUptoCard : Claim7 := { stood := { row := fnUnitBentUptoRow, standIns := [], harness := (true, "5aef73756e868ac28376e50c97f28b51c0188b769d0d171fcf03d3e0a0cabd65"), looks := true }, kinds := [], alts := [], laidByText := true, laidKinds := [.data, .data, .data], laidTests := true, laidLooks := .later }
def FnUnitBentUptoCardSaid : Prop := Claim7.holds Tryd.pinned (.plain (OpenSpec.upto fnUnitBentSpec)) fnUnitBentUptoCard

/-- THE SECOND FORM's CARD OF 'laws.FnExactUnitText'. -/
def fnExactUnitTextUptoCard : Claim7 := { stood := { row := fnExactUnitTextUptoRow, standIns := [], harness := (true, "5aef73756e868ac28376e50c97f28b51c0188b769d0d171fcf03d3e0a0cabd65"), looks := true }, kinds := [], alts := [], laidByText := true, laidKinds := [.data, .data, .data], laidTests := true, laidLooks := .later }
def FnExactUnitTextUptoCardSaid : Prop := Claim7.holds Tryd.pinned (.plain (OpenSpec.upto fnExactUnitTextSpec)) fnExactUnitTextUptoCard

/-- THE SECOND FORM's CARD OF 'laws.FnExactInsRead'. -/
def fnExactInsReadUptoCard : Claim7 := { stood := { row := fnExactInsReadUptoRow, standIns := [], harness := (true, "5aef73756e868ac28376e50c97f28b51c0188b769d0d171fcf03d3e0a0cabd65"), looks := true }, kinds := [], alts := [], laidByText := true, laidKinds := [.data, .data, .data, .sentinel, .sentinel], laidTests := true, laidLooks := .later }
def FnExactInsReadUptoCardSaid : Prop := Claim7.holds Tryd.pinned (.plain (OpenSpec.upto fnExactInsReadSpec)) fnExactInsReadUptoCard

/-- THE SECOND FORM's CARD OF 'laws.FnIns'. -/
def fnInsUptoCard : Claim7 := { stood := { row := fnInsUptoRow, standIns := [], harness := (true, "5aef73756e868ac28376e50c97f28b51c0188b769d0d171fcf03d3e0a0cabd65"), looks := true }, kinds := [], alts := [], laidByText := true, laidKinds := [.data, .data, .data, .sentinel, .sentinel], laidTests := true, laidLooks := .later }
def FnInsUptoCardSaid : Prop := Claim7.holds Tryd.pinned (.plain (OpenSpec.upto fnInsSpec)) fnInsUptoCard
end Rows
end Go.Proofs.YtajhjdhkeahlpaaDoor
