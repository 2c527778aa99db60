/-
  No cell of these rows narrows 'for every input' (looked for: loops, veiled, ifaces, maps, wideKeys, modest, calm, conditions, laid).
  DERIVED. THE GIVEN ROWS OF THIS SEAT. 12 by the template 'for every input the law returns true; each argument reads behind the call as it read before'; 0 by the template 'total and deterministic' (their statements: YtccknlcokknadaaTotals.lean).
  GIVEN WITH THE SEED: the statements are not yours to turn. If you find one false, say at which input.
  Laid BY PROGRAM, IN A SANDBOX (cutbox-rows.mjs): the forced cells as the released guide's own fill.sh prints them over the translation ae6d545fcbacafbe… (all of the seat's roots in one cut). By AI agents, Wed Nov 11 2026. No macro, syntax, notation, axiom, sorry.
-/
import Derived.Test.YtccknlcokknadaaChecked
import GoSem.Claim
import GoSem.ClaimJoined
import GoSem.ClaimMapViews
import Derived.JoinedTies
import Derived.KernelRfl
namespace Go.Proofs.Ytccknlcokknadaa
/- THE CELL 'sum', in the pinned program and in every row, IS THE sha256 OF THE DUMP (.gsa) THAT YtccknlcokknadaaProg.lean LOADS. Nothing in Lean hashes anything: it is a label: what it is worth is what the hold of that sum in a sandbox is worth. -/
noncomputable def Try.pinned : Pinned := { name := "ytccknlcokknadaa", sum := "ae6d545fcbacafbedfd4a578bfc85e4c28bd22e95155a3d35988e28b0a85259f", checked := Try.checked }
namespace Rows
def none {H : Type} : Left H := { results := [], args := [] }

/-- 'laws.FnExactFunSame': WHATEVER THE INPUT: true; the input reads as it did. -/
def fnExactFunSameSpec : ChangeSpec := { name := "fnExactFunSame", fn := fun _ => fun
  | [d1, d2] => { results := [.lit (.bool true)], args := [d1, d2] }
  | _ => none }
def fnExactFunSameRow : OpenClaim := { program := "ytccknlcokknadaa", sum := "ae6d545fcbacafbedfd4a578bfc85e4c28bd22e95155a3d35988e28b0a85259f", func := "loop.example/stepstone/laws.FnExactFunSame", spec := "fnExactFunSame", apart := false }
def FnExactFunSameSaid : Prop := fnExactFunSameRow.holds Try.pinned (OpenSpec.ofChange fnExactFunSameSpec)

/-- ITS FALSE NEIGHBOUR: 'it returns false'. Refute it at one input. -/
def fnExactFunSameWrong : ChangeSpec := { name := "fnExactFunSame", fn := fun _ => fun
  | [d1, d2] => { results := [.lit (.bool false)], args := [d1, d2] }
  | _ => none }
def FnExactFunSameWrongFalsely : Prop := fnExactFunSameRow.holds Try.pinned (OpenSpec.ofChange fnExactFunSameWrong)

/-- 'laws.FnExactLayMany': WHATEVER THE INPUT: true; the input reads as it did. -/
def fnExactLayManySpec : ChangeSpec := { name := "fnExactLayMany", fn := fun _ => fun
  | [d] => { results := [.lit (.bool true)], args := [d] }
  | _ => none }
def fnExactLayManyRow : OpenClaim := { program := "ytccknlcokknadaa", sum := "ae6d545fcbacafbedfd4a578bfc85e4c28bd22e95155a3d35988e28b0a85259f", func := "loop.example/stepstone/laws.FnExactLayMany", spec := "fnExactLayMany", apart := false }
def FnExactLayManySaid : Prop := fnExactLayManyRow.holds Try.pinned (OpenSpec.ofChange fnExactLayManySpec)

/-- ITS FALSE NEIGHBOUR: 'it returns false'. Refute it at one input. -/
def fnExactLayManyWrong : ChangeSpec := { name := "fnExactLayMany", fn := fun _ => fun
  | [d] => { results := [.lit (.bool false)], args := [d] }
  | _ => none }
def FnExactLayManyWrongFalsely : Prop := fnExactLayManyRow.holds Try.pinned (OpenSpec.ofChange fnExactLayManyWrong)

/-- 'laws.FnExactMachSame': WHATEVER THE INPUT: true; the input reads as it did. -/
def fnExactMachSameSpec : ChangeSpec := { name := "fnExactMachSame", fn := fun _ => fun
  | [d1, d2] => { results := [.lit (.bool true)], args := [d1, d2] }
  | _ => none }
def fnExactMachSameRow : OpenClaim := { program := "ytccknlcokknadaa", sum := "ae6d545fcbacafbedfd4a578bfc85e4c28bd22e95155a3d35988e28b0a85259f", func := "loop.example/stepstone/laws.FnExactMachSame", spec := "fnExactMachSame", apart := false }
def FnExactMachSameSaid : Prop := fnExactMachSameRow.holds Try.pinned (OpenSpec.ofChange fnExactMachSameSpec)

/-- ITS FALSE NEIGHBOUR: 'it returns false'. Refute it at one input. -/
def fnExactMachSameWrong : ChangeSpec := { name := "fnExactMachSame", fn := fun _ => fun
  | [d1, d2] => { results := [.lit (.bool false)], args := [d1, d2] }
  | _ => none }
def FnExactMachSameWrongFalsely : Prop := fnExactMachSameRow.holds Try.pinned (OpenSpec.ofChange fnExactMachSameWrong)

/-- 'laws.FnExactFunOk': WHATEVER THE INPUT: true; the input reads as it did. -/
def fnExactFunOkSpec : ChangeSpec := { name := "fnExactFunOk", fn := fun _ => fun
  | [d] => { results := [.lit (.bool true)], args := [d] }
  | _ => none }
def fnExactFunOkRow : OpenClaim := { program := "ytccknlcokknadaa", sum := "ae6d545fcbacafbedfd4a578bfc85e4c28bd22e95155a3d35988e28b0a85259f", func := "loop.example/stepstone/laws.FnExactFunOk", spec := "fnExactFunOk", unfollowed := true, recurses := true, apart := false }
def FnExactFunOkSaid : Prop := fnExactFunOkRow.holds Try.pinned (OpenSpec.ofChange fnExactFunOkSpec)

/-- ITS FALSE NEIGHBOUR: 'it returns false'. Refute it at one input. -/
def fnExactFunOkWrong : ChangeSpec := { name := "fnExactFunOk", fn := fun _ => fun
  | [d] => { results := [.lit (.bool false)], args := [d] }
  | _ => none }
def FnExactFunOkWrongFalsely : Prop := fnExactFunOkRow.holds Try.pinned (OpenSpec.ofChange fnExactFunOkWrong)

/-- 'laws.FnExactUnitSame': WHATEVER THE INPUT: true; the input reads as it did. -/
def fnExactUnitSameSpec : ChangeSpec := { name := "fnExactUnitSame", fn := fun _ => fun
  | [d1, d2] => { results := [.lit (.bool true)], args := [d1, d2] }
  | _ => none }
def fnExactUnitSameRow : OpenClaim := { program := "ytccknlcokknadaa", sum := "ae6d545fcbacafbedfd4a578bfc85e4c28bd22e95155a3d35988e28b0a85259f", func := "loop.example/stepstone/laws.FnExactUnitSame", spec := "fnExactUnitSame", unfollowed := true, recurses := true, apart := false }
def FnExactUnitSameSaid : Prop := fnExactUnitSameRow.holds Try.pinned (OpenSpec.ofChange fnExactUnitSameSpec)

/-- ITS FALSE NEIGHBOUR: 'it returns false'. Refute it at one input. -/
def fnExactUnitSameWrong : ChangeSpec := { name := "fnExactUnitSame", fn := fun _ => fun
  | [d1, d2] => { results := [.lit (.bool false)], args := [d1, d2] }
  | _ => none }
def FnExactUnitSameWrongFalsely : Prop := fnExactUnitSameRow.holds Try.pinned (OpenSpec.ofChange fnExactUnitSameWrong)

/-- 'laws.FnExactLaySame': WHATEVER THE INPUT: true; the input reads as it did. -/
def fnExactLaySameSpec : ChangeSpec := { name := "fnExactLaySame", fn := fun _ => fun
  | [d1, d2] => { results := [.lit (.bool true)], args := [d1, d2] }
  | _ => none }
def fnExactLaySameRow : OpenClaim := { program := "ytccknlcokknadaa", sum := "ae6d545fcbacafbedfd4a578bfc85e4c28bd22e95155a3d35988e28b0a85259f", func := "loop.example/stepstone/laws.FnExactLaySame", spec := "fnExactLaySame", unfollowed := true, recurses := true, apart := false }
def FnExactLaySameSaid : Prop := fnExactLaySameRow.holds Try.pinned (OpenSpec.ofChange fnExactLaySameSpec)

/-- ITS FALSE NEIGHBOUR: 'it returns false'. Refute it at one input. -/
def fnExactLaySameWrong : ChangeSpec := { name := "fnExactLaySame", fn := fun _ => fun
  | [d1, d2] => { results := [.lit (.bool false)], args := [d1, d2] }
  | _ => none }
def FnExactLaySameWrongFalsely : Prop := fnExactLaySameRow.holds Try.pinned (OpenSpec.ofChange fnExactLaySameWrong)

/-- 'laws.FnExactUnitOk': WHATEVER THE INPUT: true; the input reads as it did. -/
def fnExactUnitOkSpec : ChangeSpec := { name := "fnExactUnitOk", fn := fun _ => fun
  | [d] => { results := [.lit (.bool true)], args := [d] }
  | _ => none }
def fnExactUnitOkRow : OpenClaim := { program := "ytccknlcokknadaa", sum := "ae6d545fcbacafbedfd4a578bfc85e4c28bd22e95155a3d35988e28b0a85259f", func := "loop.example/stepstone/laws.FnExactUnitOk", spec := "fnExactUnitOk", unfollowed := true, recurses := true, apart := false }
def FnExactUnitOkSaid : Prop := fnExactUnitOkRow.holds Try.pinned (OpenSpec.ofChange fnExactUnitOkSpec)

/-- ITS FALSE NEIGHBOUR: 'it returns false'. Refute it at one input. -/
def fnExactUnitOkWrong : ChangeSpec := { name := "fnExactUnitOk", fn := fun _ => fun
  | [d] => { results := [.lit (.bool false)], args := [d] }
  | _ => none }
def FnExactUnitOkWrongFalsely : Prop := fnExactUnitOkRow.holds Try.pinned (OpenSpec.ofChange fnExactUnitOkWrong)

/-- 'laws.FnUnitFind': WHATEVER THE INPUT: true; the input reads as it did. -/
def fnUnitFindSpec : ChangeSpec := { name := "fnUnitFind", fn := fun _ => fun
  | [d] => { results := [.lit (.bool true)], args := [d] }
  | _ => none }
def fnUnitFindRow : OpenClaim := { program := "ytccknlcokknadaa", sum := "ae6d545fcbacafbedfd4a578bfc85e4c28bd22e95155a3d35988e28b0a85259f", func := "loop.example/stepstone/laws.FnUnitFind", spec := "fnUnitFind", unfollowed := true, recurses := true, apart := false }
def FnUnitFindSaid : Prop := fnUnitFindRow.holds Try.pinned (OpenSpec.ofChange fnUnitFindSpec)

/-- ITS FALSE NEIGHBOUR: 'it returns false'. Refute it at one input. -/
def fnUnitFindWrong : ChangeSpec := { name := "fnUnitFind", fn := fun _ => fun
  | [d] => { results := [.lit (.bool false)], args := [d] }
  | _ => none }
def FnUnitFindWrongFalsely : Prop := fnUnitFindRow.holds Try.pinned (OpenSpec.ofChange fnUnitFindWrong)

/-- 'laws.FnExactPickSame': WHATEVER THE INPUT: true; the input reads as it did. -/
def fnExactPickSameSpec : ChangeSpec := { name := "fnExactPickSame", fn := fun _ => fun
  | [d1, d2] => { results := [.lit (.bool true)], args := [d1, d2] }
  | _ => none }
def fnExactPickSameRow : OpenClaim := { program := "ytccknlcokknadaa", sum := "ae6d545fcbacafbedfd4a578bfc85e4c28bd22e95155a3d35988e28b0a85259f", func := "loop.example/stepstone/laws.FnExactPickSame", spec := "fnExactPickSame", unfollowed := true, recurses := true, apart := false }
def FnExactPickSameSaid : Prop := fnExactPickSameRow.holds Try.pinned (OpenSpec.ofChange fnExactPickSameSpec)

/-- ITS FALSE NEIGHBOUR: 'it returns false'. Refute it at one input. -/
def fnExactPickSameWrong : ChangeSpec := { name := "fnExactPickSame", fn := fun _ => fun
  | [d1, d2] => { results := [.lit (.bool false)], args := [d1, d2] }
  | _ => none }
def FnExactPickSameWrongFalsely : Prop := fnExactPickSameRow.holds Try.pinned (OpenSpec.ofChange fnExactPickSameWrong)

/-- 'laws.FnExactUnitFind': WHATEVER THE INPUT: true; the input reads as it did. -/
def fnExactUnitFindSpec : ChangeSpec := { name := "fnExactUnitFind", fn := fun _ => fun
  | [d1, d2] => { results := [.lit (.bool true)], args := [d1, d2] }
  | _ => none }
def fnExactUnitFindRow : OpenClaim := { program := "ytccknlcokknadaa", sum := "ae6d545fcbacafbedfd4a578bfc85e4c28bd22e95155a3d35988e28b0a85259f", func := "loop.example/stepstone/laws.FnExactUnitFind", spec := "fnExactUnitFind", unfollowed := true, recurses := true, apart := false }
def FnExactUnitFindSaid : Prop := fnExactUnitFindRow.holds Try.pinned (OpenSpec.ofChange fnExactUnitFindSpec)

/-- ITS FALSE NEIGHBOUR: 'it returns false'. Refute it at one input. -/
def fnExactUnitFindWrong : ChangeSpec := { name := "fnExactUnitFind", fn := fun _ => fun
  | [d1, d2] => { results := [.lit (.bool false)], args := [d1, d2] }
  | _ => none }
def FnExactUnitFindWrongFalsely : Prop := fnExactUnitFindRow.holds Try.pinned (OpenSpec.ofChange fnExactUnitFindWrong)

/-- 'laws.FnMachSame': WHATEVER THE INPUT: true; the input reads as it did. -/
def fnMachSameSpec : ChangeSpec := { name := "fnMachSame", fn := fun _ => fun
  | [d] => { results := [.lit (.bool true)], args := [d] }
  | _ => none }
def fnMachSameRow : OpenClaim := { program := "ytccknlcokknadaa", sum := "ae6d545fcbacafbedfd4a578bfc85e4c28bd22e95155a3d35988e28b0a85259f", func := "loop.example/stepstone/laws.FnMachSame", spec := "fnMachSame", apart := false }
def FnMachSameSaid : Prop := fnMachSameRow.holds Try.pinned (OpenSpec.ofChange fnMachSameSpec)

/-- ITS FALSE NEIGHBOUR: 'it returns false'. Refute it at one input. -/
def fnMachSameWrong : ChangeSpec := { name := "fnMachSame", fn := fun _ => fun
  | [d] => { results := [.lit (.bool false)], args := [d] }
  | _ => none }
def FnMachSameWrongFalsely : Prop := fnMachSameRow.holds Try.pinned (OpenSpec.ofChange fnMachSameWrong)

/-- 'laws.FnLaySame': WHATEVER THE INPUT: true; the input reads as it did. -/
def fnLaySameSpec : ChangeSpec := { name := "fnLaySame", fn := fun _ => fun
  | [d] => { results := [.lit (.bool true)], args := [d] }
  | _ => none }
def fnLaySameRow : OpenClaim := { program := "ytccknlcokknadaa", sum := "ae6d545fcbacafbedfd4a578bfc85e4c28bd22e95155a3d35988e28b0a85259f", func := "loop.example/stepstone/laws.FnLaySame", spec := "fnLaySame", unfollowed := true, recurses := true, apart := false }
def FnLaySameSaid : Prop := fnLaySameRow.holds Try.pinned (OpenSpec.ofChange fnLaySameSpec)

/-- ITS FALSE NEIGHBOUR: 'it returns false'. Refute it at one input. -/
def fnLaySameWrong : ChangeSpec := { name := "fnLaySame", fn := fun _ => fun
  | [d] => { results := [.lit (.bool false)], args := [d] }
  | _ => none }
def FnLaySameWrongFalsely : Prop := fnLaySameRow.holds Try.pinned (OpenSpec.ofChange fnLaySameWrong)

/- THE SECOND FORM. 'bulk': how many values and letters a reading holds, each counted each time it is reached (what is shared counts as often as it is met; a slice's spare places count too). A statement '..UptoSaid' is the law's where the arguments, and the package variables that the reading takes, are together of bulk at most 1048576: NARROWER than '..Said'. Prove '..Said' where nothing that the law and all that it calls make is longer than what came in: it says more and counts as full. Else prove '..UptoSaid'. A law counts once. -/
mutual
def uptoBulk {H : Type} : DataW H → Nat
  | .lit (.string bytes) => bytes.length + 1
  | .lit _ => 1
  | .nil => 1
  | .ptr d => uptoBulk d + 1
  | .slice elems spare => uptoBulkAll elems + uptoBulkAll spare + 1
  | .agg parts => uptoBulkAll parts + 1
  | .iface _ d => uptoBulk d + 1
  | .map entries => uptoBulkEntries entries + 1
  | .held _ => 1
def uptoBulkAll {H : Type} : List (DataW H) → Nat
  | [] => 0
  | d :: r => uptoBulk d + uptoBulkAll r
def uptoBulkEntries {H : Type} : List (Lit × DataW H) → Nat
  | [] => 0
  | x :: r => uptoBulkEntry x + uptoBulkEntries r
def uptoBulkEntry {H : Type} : Lit × DataW H → Nat
  | (.string bytes, d) => bytes.length + uptoBulk d + 1
  | (_, d) => uptoBulk d + 1
 end
def uptoSmall : (H : Type) → List (DataW H) → Bool := fun _ ds => decide (uptoBulkAll ds ≤ 1048576)
def OpenSpec.upto (s : _root_.Go.ChangeSpec) : _root_.Go.OpenSpec := { _root_.Go.OpenSpec.ofChange s with cond := some uptoSmall }

/-- 'laws.FnExactFunSame', WHERE WHAT IT READS IS OF BULK AT MOST 1048576: true; the input reads as it did. -/
def fnExactFunSameUptoRow : OpenClaim := { program := "ytccknlcokknadaa", sum := "ae6d545fcbacafbedfd4a578bfc85e4c28bd22e95155a3d35988e28b0a85259f", func := "loop.example/stepstone/laws.FnExactFunSame", spec := "fnExactFunSame", apart := false, narrowed := true }
def FnExactFunSameUptoSaid : Prop := fnExactFunSameUptoRow.holds Try.pinned (OpenSpec.upto fnExactFunSameSpec)

/-- 'laws.FnExactLayMany', WHERE WHAT IT READS IS OF BULK AT MOST 1048576: true; the input reads as it did. -/
def fnExactLayManyUptoRow : OpenClaim := { program := "ytccknlcokknadaa", sum := "ae6d545fcbacafbedfd4a578bfc85e4c28bd22e95155a3d35988e28b0a85259f", func := "loop.example/stepstone/laws.FnExactLayMany", spec := "fnExactLayMany", apart := false, narrowed := true }
def FnExactLayManyUptoSaid : Prop := fnExactLayManyUptoRow.holds Try.pinned (OpenSpec.upto fnExactLayManySpec)

/-- 'laws.FnExactMachSame', WHERE WHAT IT READS IS OF BULK AT MOST 1048576: true; the input reads as it did. -/
def fnExactMachSameUptoRow : OpenClaim := { program := "ytccknlcokknadaa", sum := "ae6d545fcbacafbedfd4a578bfc85e4c28bd22e95155a3d35988e28b0a85259f", func := "loop.example/stepstone/laws.FnExactMachSame", spec := "fnExactMachSame", apart := false, narrowed := true }
def FnExactMachSameUptoSaid : Prop := fnExactMachSameUptoRow.holds Try.pinned (OpenSpec.upto fnExactMachSameSpec)

/-- 'laws.FnExactFunOk', WHERE WHAT IT READS IS OF BULK AT MOST 1048576: true; the input reads as it did. -/
def fnExactFunOkUptoRow : OpenClaim := { program := "ytccknlcokknadaa", sum := "ae6d545fcbacafbedfd4a578bfc85e4c28bd22e95155a3d35988e28b0a85259f", func := "loop.example/stepstone/laws.FnExactFunOk", spec := "fnExactFunOk", unfollowed := true, recurses := true, apart := false, narrowed := true }
def FnExactFunOkUptoSaid : Prop := fnExactFunOkUptoRow.holds Try.pinned (OpenSpec.upto fnExactFunOkSpec)

/-- 'laws.FnExactUnitSame', WHERE WHAT IT READS IS OF BULK AT MOST 1048576: true; the input reads as it did. -/
def fnExactUnitSameUptoRow : OpenClaim := { program := "ytccknlcokknadaa", sum := "ae6d545fcbacafbedfd4a578bfc85e4c28bd22e95155a3d35988e28b0a85259f", func := "loop.example/stepstone/laws.FnExactUnitSame", spec := "fnExactUnitSame", unfollowed := true, recurses := true, apart := false, narrowed := true }
def FnExactUnitSameUptoSaid : Prop := fnExactUnitSameUptoRow.holds Try.pinned (OpenSpec.upto fnExactUnitSameSpec)

/-- 'laws.FnExactLaySame', WHERE WHAT IT READS IS OF BULK AT MOST 1048576: true; the input reads as it did. -/
def fnExactLaySameUptoRow : OpenClaim := { program := "ytccknlcokknadaa", sum := "ae6d545fcbacafbedfd4a578bfc85e4c28bd22e95155a3d35988e28b0a85259f", func := "loop.example/stepstone/laws.FnExactLaySame", spec := "fnExactLaySame", unfollowed := true, recurses := true, apart := false, narrowed := true }
def FnExactLaySameUptoSaid : Prop := fnExactLaySameUptoRow.holds Try.pinned (OpenSpec.upto fnExactLaySameSpec)

/-- 'laws.FnExactUnitOk', WHERE WHAT IT READS IS OF BULK AT MOST 1048576: true; the input reads as it did. -/
def fnExactUnitOkUptoRow : OpenClaim := { program := "ytccknlcokknadaa", sum := "ae6d545fcbacafbedfd4a578bfc85e4c28bd22e95155a3d35988e28b0a85259f", func := "loop.example/stepstone/laws.FnExactUnitOk", spec := "fnExactUnitOk", unfollowed := true, recurses := true, apart := false, narrowed := true }
def FnExactUnitOkUptoSaid : Prop := fnExactUnitOkUptoRow.holds Try.pinned (OpenSpec.upto fnExactUnitOkSpec)

/-- 'laws.FnUnitFind', WHERE WHAT IT READS IS OF BULK AT MOST 1048576: true; the input reads as it did. -/
def fnUnitFindUptoRow : OpenClaim := { program := "ytccknlcokknadaa", sum := "ae6d545fcbacafbedfd4a578bfc85e4c28bd22e95155a3d35988e28b0a85259f", func := "loop.example/stepstone/laws.FnUnitFind", spec := "fnUnitFind", unfollowed := true, recurses := true, apart := false, narrowed := true }
def FnUnitFindUptoSaid : Prop := fnUnitFindUptoRow.holds Try.pinned (OpenSpec.upto fnUnitFindSpec)

/-- 'laws.FnExactPickSame', WHERE WHAT IT READS IS OF BULK AT MOST 1048576: true; the input reads as it did. -/
def fnExactPickSameUptoRow : OpenClaim := { program := "ytccknlcokknadaa", sum := "ae6d545fcbacafbedfd4a578bfc85e4c28bd22e95155a3d35988e28b0a85259f", func := "loop.example/stepstone/laws.FnExactPickSame", spec := "fnExactPickSame", unfollowed := true, recurses := true, apart := false, narrowed := true }
def FnExactPickSameUptoSaid : Prop := fnExactPickSameUptoRow.holds Try.pinned (OpenSpec.upto fnExactPickSameSpec)

/-- 'laws.FnExactUnitFind', WHERE WHAT IT READS IS OF BULK AT MOST 1048576: true; the input reads as it did. -/
def fnExactUnitFindUptoRow : OpenClaim := { program := "ytccknlcokknadaa", sum := "ae6d545fcbacafbedfd4a578bfc85e4c28bd22e95155a3d35988e28b0a85259f", func := "loop.example/stepstone/laws.FnExactUnitFind", spec := "fnExactUnitFind", unfollowed := true, recurses := true, apart := false, narrowed := true }
def FnExactUnitFindUptoSaid : Prop := fnExactUnitFindUptoRow.holds Try.pinned (OpenSpec.upto fnExactUnitFindSpec)

/-- 'laws.FnMachSame', WHERE WHAT IT READS IS OF BULK AT MOST 1048576: true; the input reads as it did. -/
def fnMachSameUptoRow : OpenClaim := { program := "ytccknlcokknadaa", sum := "ae6d545fcbacafbedfd4a578bfc85e4c28bd22e95155a3d35988e28b0a85259f", func := "loop.example/stepstone/laws.FnMachSame", spec := "fnMachSame", apart := false, narrowed := true }
def FnMachSameUptoSaid : Prop := fnMachSameUptoRow.holds Try.pinned (OpenSpec.upto fnMachSameSpec)

/-- 'laws.FnLaySame', WHERE WHAT IT READS IS OF BULK AT MOST 1048576: true; the input reads as it did. -/
def fnLaySameUptoRow : OpenClaim := { program := "ytccknlcokknadaa", sum := "ae6d545fcbacafbedfd4a578bfc85e4c28bd22e95155a3d35988e28b0a85259f", func := "loop.example/stepstone/laws.FnLaySame", spec := "fnLaySame", unfollowed := true, recurses := true, apart := false, narrowed := true }
def FnLaySameUptoSaid : Prop := fnLaySameUptoRow.holds Try.pinned (OpenSpec.upto fnLaySameSpec)

end Rows
end Go.Proofs.Ytccknlcokknadaa
