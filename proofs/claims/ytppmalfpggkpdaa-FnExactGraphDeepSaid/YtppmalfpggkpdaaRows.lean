/-
  No cell of these rows narrows 'for every input' (looked for: loops, veiled, ifaces, maps, wideKeys, modest, calm, conditions, laid).
  DERIVED. THE GIVEN ROWS OF THIS SEAT. 11 by the template 'for every input the law returns true; each argument reads behind the call as it read before'; 0 by the template 'total and deterministic' (their statements: YtppmalfpggkpdaaTotals.lean).
  GIVEN WITH THE SEED: the statements are not yours to turn. If you find one false, say at which input.
  Laid BY PROGRAM, IN A SANDBOX (cutbox-rows.mjs): the forced cells as the released guide's own fill.sh prints them over the translation 4866f6ef9349d155… (all of the seat's roots in one cut). By AI agents, Wed Nov 11 2026. No macro, syntax, notation, axiom, sorry.
-/
import Derived.Test.YtppmalfpggkpdaaChecked
import GoSem.Claim
import GoSem.ClaimJoined
import GoSem.ClaimMapViews
import Derived.JoinedTies
import Derived.KernelRfl
namespace Go.Proofs.Ytppmalfpggkpdaa
/- THE CELL 'sum', in the pinned program and in every row, IS THE sha256 OF THE DUMP (.gsa) THAT YtppmalfpggkpdaaProg.lean LOADS. Nothing in Lean hashes anything: it is a label: what it is worth is what the hold of that sum in a sandbox is worth. -/
noncomputable def Try.pinned : Pinned := { name := "ytppmalfpggkpdaa", sum := "4866f6ef9349d15560d693495d02beda93bac5f3340b3356e22ec5bd3df907f2", checked := Try.checked }
namespace Rows
def none {H : Type} : Left H := { results := [], args := [] }

/-- 'laws.FnExactPickWants': WHATEVER THE INPUT: true; the input reads as it did. -/
def fnExactPickWantsSpec : ChangeSpec := { name := "fnExactPickWants", fn := fun _ => fun
  | [d] => { results := [.lit (.bool true)], args := [d] }
  | _ => none }
def fnExactPickWantsRow : OpenClaim := { program := "ytppmalfpggkpdaa", sum := "4866f6ef9349d15560d693495d02beda93bac5f3340b3356e22ec5bd3df907f2", func := "loop.example/stepstone/laws.FnExactPickWants", spec := "fnExactPickWants", unfollowed := true, recurses := true, apart := false }
def FnExactPickWantsSaid : Prop := fnExactPickWantsRow.holds Try.pinned (OpenSpec.ofChange fnExactPickWantsSpec)

/-- ITS FALSE NEIGHBOUR: 'it returns false'. Refute it at one input. -/
def fnExactPickWantsWrong : ChangeSpec := { name := "fnExactPickWants", fn := fun _ => fun
  | [d] => { results := [.lit (.bool false)], args := [d] }
  | _ => none }
def FnExactPickWantsWrongFalsely : Prop := fnExactPickWantsRow.holds Try.pinned (OpenSpec.ofChange fnExactPickWantsWrong)

/-- 'laws.FnPickWants': WHATEVER THE INPUT: true; the input reads as it did. -/
def fnPickWantsSpec : ChangeSpec := { name := "fnPickWants", fn := fun _ => fun
  | [d] => { results := [.lit (.bool true)], args := [d] }
  | _ => none }
def fnPickWantsRow : OpenClaim := { program := "ytppmalfpggkpdaa", sum := "4866f6ef9349d15560d693495d02beda93bac5f3340b3356e22ec5bd3df907f2", func := "loop.example/stepstone/laws.FnPickWants", spec := "fnPickWants", unfollowed := true, recurses := true, apart := false }
def FnPickWantsSaid : Prop := fnPickWantsRow.holds Try.pinned (OpenSpec.ofChange fnPickWantsSpec)

/-- ITS FALSE NEIGHBOUR: 'it returns false'. Refute it at one input. -/
def fnPickWantsWrong : ChangeSpec := { name := "fnPickWants", fn := fun _ => fun
  | [d] => { results := [.lit (.bool false)], args := [d] }
  | _ => none }
def FnPickWantsWrongFalsely : Prop := fnPickWantsRow.holds Try.pinned (OpenSpec.ofChange fnPickWantsWrong)

/-- 'laws.FnExactKeepOk': WHATEVER THE INPUT: true; the input reads as it did. -/
def fnExactKeepOkSpec : ChangeSpec := { name := "fnExactKeepOk", fn := fun _ => fun
  | [d] => { results := [.lit (.bool true)], args := [d] }
  | _ => none }
def fnExactKeepOkRow : OpenClaim := { program := "ytppmalfpggkpdaa", sum := "4866f6ef9349d15560d693495d02beda93bac5f3340b3356e22ec5bd3df907f2", func := "loop.example/stepstone/laws.FnExactKeepOk", spec := "fnExactKeepOk", unfollowed := true, recurses := true, apart := false }
def FnExactKeepOkSaid : Prop := fnExactKeepOkRow.holds Try.pinned (OpenSpec.ofChange fnExactKeepOkSpec)

/-- ITS FALSE NEIGHBOUR: 'it returns false'. Refute it at one input. -/
def fnExactKeepOkWrong : ChangeSpec := { name := "fnExactKeepOk", fn := fun _ => fun
  | [d] => { results := [.lit (.bool false)], args := [d] }
  | _ => none }
def FnExactKeepOkWrongFalsely : Prop := fnExactKeepOkRow.holds Try.pinned (OpenSpec.ofChange fnExactKeepOkWrong)

/-- 'laws.FnUnitWants': WHATEVER THE INPUT: true; the input reads as it did. -/
def fnUnitWantsSpec : ChangeSpec := { name := "fnUnitWants", fn := fun _ => fun
  | [d] => { results := [.lit (.bool true)], args := [d] }
  | _ => none }
def fnUnitWantsRow : OpenClaim := { program := "ytppmalfpggkpdaa", sum := "4866f6ef9349d15560d693495d02beda93bac5f3340b3356e22ec5bd3df907f2", func := "loop.example/stepstone/laws.FnUnitWants", spec := "fnUnitWants", unfollowed := true, recurses := true, apart := false }
def FnUnitWantsSaid : Prop := fnUnitWantsRow.holds Try.pinned (OpenSpec.ofChange fnUnitWantsSpec)

/-- ITS FALSE NEIGHBOUR: 'it returns false'. Refute it at one input. -/
def fnUnitWantsWrong : ChangeSpec := { name := "fnUnitWants", fn := fun _ => fun
  | [d] => { results := [.lit (.bool false)], args := [d] }
  | _ => none }
def FnUnitWantsWrongFalsely : Prop := fnUnitWantsRow.holds Try.pinned (OpenSpec.ofChange fnUnitWantsWrong)

/-- 'laws.FnExactUnitWants': WHATEVER THE INPUT: true; the input reads as it did. -/
def fnExactUnitWantsSpec : ChangeSpec := { name := "fnExactUnitWants", fn := fun _ => fun
  | [d] => { results := [.lit (.bool true)], args := [d] }
  | _ => none }
def fnExactUnitWantsRow : OpenClaim := { program := "ytppmalfpggkpdaa", sum := "4866f6ef9349d15560d693495d02beda93bac5f3340b3356e22ec5bd3df907f2", func := "loop.example/stepstone/laws.FnExactUnitWants", spec := "fnExactUnitWants", unfollowed := true, recurses := true, apart := false }
def FnExactUnitWantsSaid : Prop := fnExactUnitWantsRow.holds Try.pinned (OpenSpec.ofChange fnExactUnitWantsSpec)

/-- ITS FALSE NEIGHBOUR: 'it returns false'. Refute it at one input. -/
def fnExactUnitWantsWrong : ChangeSpec := { name := "fnExactUnitWants", fn := fun _ => fun
  | [d] => { results := [.lit (.bool false)], args := [d] }
  | _ => none }
def FnExactUnitWantsWrongFalsely : Prop := fnExactUnitWantsRow.holds Try.pinned (OpenSpec.ofChange fnExactUnitWantsWrong)

/-- 'laws.FnExactGraphLeaf': WHATEVER THE INPUT: true; the input reads as it did. -/
def fnExactGraphLeafSpec : ChangeSpec := { name := "fnExactGraphLeaf", fn := fun _ => fun
  | [d] => { results := [.lit (.bool true)], args := [d] }
  | _ => none }
def fnExactGraphLeafRow : OpenClaim := { program := "ytppmalfpggkpdaa", sum := "4866f6ef9349d15560d693495d02beda93bac5f3340b3356e22ec5bd3df907f2", func := "loop.example/stepstone/laws.FnExactGraphLeaf", spec := "fnExactGraphLeaf", unfollowed := true, recurses := true, apart := false }
def FnExactGraphLeafSaid : Prop := fnExactGraphLeafRow.holds Try.pinned (OpenSpec.ofChange fnExactGraphLeafSpec)

/-- ITS FALSE NEIGHBOUR: 'it returns false'. Refute it at one input. -/
def fnExactGraphLeafWrong : ChangeSpec := { name := "fnExactGraphLeaf", fn := fun _ => fun
  | [d] => { results := [.lit (.bool false)], args := [d] }
  | _ => none }
def FnExactGraphLeafWrongFalsely : Prop := fnExactGraphLeafRow.holds Try.pinned (OpenSpec.ofChange fnExactGraphLeafWrong)

/-- 'laws.FnExactGraphBy': WHATEVER THE INPUT: true; the input reads as it did. -/
def fnExactGraphBySpec : ChangeSpec := { name := "fnExactGraphBy", fn := fun _ => fun
  | [d1, d2] => { results := [.lit (.bool true)], args := [d1, d2] }
  | _ => none }
def fnExactGraphByRow : OpenClaim := { program := "ytppmalfpggkpdaa", sum := "4866f6ef9349d15560d693495d02beda93bac5f3340b3356e22ec5bd3df907f2", func := "loop.example/stepstone/laws.FnExactGraphBy", spec := "fnExactGraphBy", unfollowed := true, recurses := true, apart := false }
def FnExactGraphBySaid : Prop := fnExactGraphByRow.holds Try.pinned (OpenSpec.ofChange fnExactGraphBySpec)

/-- ITS FALSE NEIGHBOUR: 'it returns false'. Refute it at one input. -/
def fnExactGraphByWrong : ChangeSpec := { name := "fnExactGraphBy", fn := fun _ => fun
  | [d1, d2] => { results := [.lit (.bool false)], args := [d1, d2] }
  | _ => none }
def FnExactGraphByWrongFalsely : Prop := fnExactGraphByRow.holds Try.pinned (OpenSpec.ofChange fnExactGraphByWrong)

/-- 'laws.FnExactGraphDeep': WHATEVER THE INPUT: true; the input reads as it did. -/
def fnExactGraphDeepSpec : ChangeSpec := { name := "fnExactGraphDeep", fn := fun _ => fun
  | [d] => { results := [.lit (.bool true)], args := [d] }
  | _ => none }
def fnExactGraphDeepRow : OpenClaim := { program := "ytppmalfpggkpdaa", sum := "4866f6ef9349d15560d693495d02beda93bac5f3340b3356e22ec5bd3df907f2", func := "loop.example/stepstone/laws.FnExactGraphDeep", spec := "fnExactGraphDeep", unfollowed := true, recurses := true, apart := false }
def FnExactGraphDeepSaid : Prop := fnExactGraphDeepRow.holds Try.pinned (OpenSpec.ofChange fnExactGraphDeepSpec)

/-- ITS FALSE NEIGHBOUR: 'it returns false'. Refute it at one input. -/
def fnExactGraphDeepWrong : ChangeSpec := { name := "fnExactGraphDeep", fn := fun _ => fun
  | [d] => { results := [.lit (.bool false)], args := [d] }
  | _ => none }
def FnExactGraphDeepWrongFalsely : Prop := fnExactGraphDeepRow.holds Try.pinned (OpenSpec.ofChange fnExactGraphDeepWrong)

/-- 'laws.FnGraphBy': WHATEVER THE INPUT: true; the input reads as it did. -/
def fnGraphBySpec : ChangeSpec := { name := "fnGraphBy", fn := fun _ => fun
  | [d] => { results := [.lit (.bool true)], args := [d] }
  | _ => none }
def fnGraphByRow : OpenClaim := { program := "ytppmalfpggkpdaa", sum := "4866f6ef9349d15560d693495d02beda93bac5f3340b3356e22ec5bd3df907f2", func := "loop.example/stepstone/laws.FnGraphBy", spec := "fnGraphBy", unfollowed := true, recurses := true, apart := false }
def FnGraphBySaid : Prop := fnGraphByRow.holds Try.pinned (OpenSpec.ofChange fnGraphBySpec)

/-- ITS FALSE NEIGHBOUR: 'it returns false'. Refute it at one input. -/
def fnGraphByWrong : ChangeSpec := { name := "fnGraphBy", fn := fun _ => fun
  | [d] => { results := [.lit (.bool false)], args := [d] }
  | _ => none }
def FnGraphByWrongFalsely : Prop := fnGraphByRow.holds Try.pinned (OpenSpec.ofChange fnGraphByWrong)

/-- 'laws.FnExactMachOk': WHATEVER THE INPUT: true; the input reads as it did. -/
def fnExactMachOkSpec : ChangeSpec := { name := "fnExactMachOk", fn := fun _ => fun
  | [d1, d2] => { results := [.lit (.bool true)], args := [d1, d2] }
  | _ => none }
def fnExactMachOkRow : OpenClaim := { program := "ytppmalfpggkpdaa", sum := "4866f6ef9349d15560d693495d02beda93bac5f3340b3356e22ec5bd3df907f2", func := "loop.example/stepstone/laws.FnExactMachOk", spec := "fnExactMachOk", unfollowed := true, recurses := true, apart := false }
def FnExactMachOkSaid : Prop := fnExactMachOkRow.holds Try.pinned (OpenSpec.ofChange fnExactMachOkSpec)

/-- ITS FALSE NEIGHBOUR: 'it returns false'. Refute it at one input. -/
def fnExactMachOkWrong : ChangeSpec := { name := "fnExactMachOk", fn := fun _ => fun
  | [d1, d2] => { results := [.lit (.bool false)], args := [d1, d2] }
  | _ => none }
def FnExactMachOkWrongFalsely : Prop := fnExactMachOkRow.holds Try.pinned (OpenSpec.ofChange fnExactMachOkWrong)

/-- 'laws.FnExactLayStone': WHATEVER THE INPUT: true; the input reads as it did. -/
def fnExactLayStoneSpec : ChangeSpec := { name := "fnExactLayStone", fn := fun _ => fun
  | [d1, d2, d3, d4] => { results := [.lit (.bool true)], args := [d1, d2, d3, d4] }
  | _ => none }
def fnExactLayStoneRow : OpenClaim := { program := "ytppmalfpggkpdaa", sum := "4866f6ef9349d15560d693495d02beda93bac5f3340b3356e22ec5bd3df907f2", func := "loop.example/stepstone/laws.FnExactLayStone", spec := "fnExactLayStone", unfollowed := true, recurses := true, apart := false }
def FnExactLayStoneSaid : Prop := fnExactLayStoneRow.holds Try.pinned (OpenSpec.ofChange fnExactLayStoneSpec)

/-- ITS FALSE NEIGHBOUR: 'it returns false'. Refute it at one input. -/
def fnExactLayStoneWrong : ChangeSpec := { name := "fnExactLayStone", fn := fun _ => fun
  | [d1, d2, d3, d4] => { results := [.lit (.bool false)], args := [d1, d2, d3, d4] }
  | _ => none }
def FnExactLayStoneWrongFalsely : Prop := fnExactLayStoneRow.holds Try.pinned (OpenSpec.ofChange fnExactLayStoneWrong)

/- THE SECOND FORM. 'bulk': how many values and letters a reading holds, each counted each time it is reached (what is shared counts as often as it is met; a slice's spare places count too). A statement '..UptoSaid' is the law's where the arguments, and the package variables that the reading takes, are together of bulk at most 1048576: NARROWER than '..Said'. Prove '..Said' where nothing that the law and all that it calls make is longer than what came in: it says more and counts as full. Else prove '..UptoSaid'. A law counts once. -/
mutual
def uptoBulk {H : Type} : DataW H → Nat
  | .lit (.string bytes) => bytes.length + 1
  | .lit _ => 1
  | .nil => 1
  | .ptr d => uptoBulk d + 1
  | .slice elems spare => uptoBulkAll elems + uptoBulkAll spare + 1
  | .agg parts => uptoBulkAll parts + 1
  | .iface _ d => uptoBulk d + 1
  | .map entries => uptoBulkEntries entries + 1
  | .held _ => 1
def uptoBulkAll {H : Type} : List (DataW H) → Nat
  | [] => 0
  | d :: r => uptoBulk d + uptoBulkAll r
def uptoBulkEntries {H : Type} : List (Lit × DataW H) → Nat
  | [] => 0
  | x :: r => uptoBulkEntry x + uptoBulkEntries r
def uptoBulkEntry {H : Type} : Lit × DataW H → Nat
  | (.string bytes, d) => bytes.length + uptoBulk d + 1
  | (_, d) => uptoBulk d + 1
 end
def uptoSmall : (H : Type) → List (DataW H) → Bool := fun _ ds => decide (uptoBulkAll ds ≤ 1048576)
def OpenSpec.upto (s : _root_.Go.ChangeSpec) : _root_.Go.OpenSpec := { _root_.Go.OpenSpec.ofChange s with cond := some uptoSmall }

/-- 'laws.FnExactPickWants', WHERE WHAT IT READS IS OF BULK AT MOST 1048576: true; the input reads as it did. -/
def fnExactPickWantsUptoRow : OpenClaim := { program := "ytppmalfpggkpdaa", sum := "4866f6ef9349d15560d693495d02beda93bac5f3340b3356e22ec5bd3df907f2", func := "loop.example/stepstone/laws.FnExactPickWants", spec := "fnExactPickWants", unfollowed := true, recurses := true, apart := false, narrowed := true }
def FnExactPickWantsUptoSaid : Prop := fnExactPickWantsUptoRow.holds Try.pinned (OpenSpec.upto fnExactPickWantsSpec)

/-- 'laws.FnPickWants', WHERE WHAT IT READS IS OF BULK AT MOST 1048576: true; the input reads as it did. -/
def fnPickWantsUptoRow : OpenClaim := { program := "ytppmalfpggkpdaa", sum := "4866f6ef9349d15560d693495d02beda93bac5f3340b3356e22ec5bd3df907f2", func := "loop.example/stepstone/laws.FnPickWants", spec := "fnPickWants", unfollowed := true, recurses := true, apart := false, narrowed := true }
def FnPickWantsUptoSaid : Prop := fnPickWantsUptoRow.holds Try.pinned (OpenSpec.upto fnPickWantsSpec)

/-- 'laws.FnExactKeepOk', WHERE WHAT IT READS IS OF BULK AT MOST 1048576: true; the input reads as it did. -/
def fnExactKeepOkUptoRow : OpenClaim := { program := "ytppmalfpggkpdaa", sum := "4866f6ef9349d15560d693495d02beda93bac5f3340b3356e22ec5bd3df907f2", func := "loop.example/stepstone/laws.FnExactKeepOk", spec := "fnExactKeepOk", unfollowed := true, recurses := true, apart := false, narrowed := true }
def FnExactKeepOkUptoSaid : Prop := fnExactKeepOkUptoRow.holds Try.pinned (OpenSpec.upto fnExactKeepOkSpec)

/-- 'laws.FnUnitWants', WHERE WHAT IT READS IS OF BULK AT MOST 1048576: true; the input reads as it did. -/
def fnUnitWantsUptoRow : OpenClaim := { program := "ytppmalfpggkpdaa", sum := "4866f6ef9349d15560d693495d02beda93bac5f3340b3356e22ec5bd3df907f2", func := "loop.example/stepstone/laws.FnUnitWants", spec := "fnUnitWants", unfollowed := true, recurses := true, apart := false, narrowed := true }
def FnUnitWantsUptoSaid : Prop := fnUnitWantsUptoRow.holds Try.pinned (OpenSpec.upto fnUnitWantsSpec)

/-- 'laws.FnExactUnitWants', WHERE WHAT IT READS IS OF BULK AT MOST 1048576: true; the input reads as it did. -/
def fnExactUnitWantsUptoRow : OpenClaim := { program := "ytppmalfpggkpdaa", sum := "4866f6ef9349d15560d693495d02beda93bac5f3340b3356e22ec5bd3df907f2", func := "loop.example/stepstone/laws.FnExactUnitWants", spec := "fnExactUnitWants", unfollowed := true, recurses := true, apart := false, narrowed := true }
def FnExactUnitWantsUptoSaid : Prop := fnExactUnitWantsUptoRow.holds Try.pinned (OpenSpec.upto fnExactUnitWantsSpec)

/-- 'laws.FnExactGraphLeaf', WHERE WHAT IT READS IS OF BULK AT MOST 1048576: true; the input reads as it did. -/
def fnExactGraphLeafUptoRow : OpenClaim := { program := "ytppmalfpggkpdaa", sum := "4866f6ef9349d15560d693495d02beda93bac5f3340b3356e22ec5bd3df907f2", func := "loop.example/stepstone/laws.FnExactGraphLeaf", spec := "fnExactGraphLeaf", unfollowed := true, recurses := true, apart := false, narrowed := true }
def FnExactGraphLeafUptoSaid : Prop := fnExactGraphLeafUptoRow.holds Try.pinned (OpenSpec.upto fnExactGraphLeafSpec)

/-- 'laws.FnExactGraphBy', WHERE WHAT IT READS IS OF BULK AT MOST 1048576: true; the input reads as it did. -/
def fnExactGraphByUptoRow : OpenClaim := { program := "ytppmalfpggkpdaa", sum := "4866f6ef9349d15560d693495d02beda93bac5f3340b3356e22ec5bd3df907f2", func := "loop.example/stepstone/laws.FnExactGraphBy", spec := "fnExactGraphBy", unfollowed := true, recurses := true, apart := false, narrowed := true }
def FnExactGraphByUptoSaid : Prop := fnExactGraphByUptoRow.holds Try.pinned (OpenSpec.upto fnExactGraphBySpec)

/-- 'laws.FnExactGraphDeep', WHERE WHAT IT READS IS OF BULK AT MOST 1048576: true; the input reads as it did. -/
def fnExactGraphDeepUptoRow : OpenClaim := { program := "ytppmalfpggkpdaa", sum := "4866f6ef9349d15560d693495d02beda93bac5f3340b3356e22ec5bd3df907f2", func := "loop.example/stepstone/laws.FnExactGraphDeep", spec := "fnExactGraphDeep", unfollowed := true, recurses := true, apart := false, narrowed := true }
def FnExactGraphDeepUptoSaid : Prop := fnExactGraphDeepUptoRow.holds Try.pinned (OpenSpec.upto fnExactGraphDeepSpec)

/-- 'laws.FnGraphBy', WHERE WHAT IT READS IS OF BULK AT MOST 1048576: true; the input reads as it did. -/
def fnGraphByUptoRow : OpenClaim := { program := "ytppmalfpggkpdaa", sum := "4866f6ef9349d15560d693495d02beda93bac5f3340b3356e22ec5bd3df907f2", func := "loop.example/stepstone/laws.FnGraphBy", spec := "fnGraphBy", unfollowed := true, recurses := true, apart := false, narrowed := true }
def FnGraphByUptoSaid : Prop := fnGraphByUptoRow.holds Try.pinned (OpenSpec.upto fnGraphBySpec)

/-- 'laws.FnExactMachOk', WHERE WHAT IT READS IS OF BULK AT MOST 1048576: true; the input reads as it did. -/
def fnExactMachOkUptoRow : OpenClaim := { program := "ytppmalfpggkpdaa", sum := "4866f6ef9349d15560d693495d02beda93bac5f3340b3356e22ec5bd3df907f2", func := "loop.example/stepstone/laws.FnExactMachOk", spec := "fnExactMachOk", unfollowed := true, recurses := true, apart := false, narrowed := true }
def FnExactMachOkUptoSaid : Prop := fnExactMachOkUptoRow.holds Try.pinned (OpenSpec.upto fnExactMachOkSpec)

/-- 'laws.FnExactLayStone', WHERE WHAT IT READS IS OF BULK AT MOST 1048576: true; the input reads as it did. -/
def fnExactLayStoneUptoRow : OpenClaim := { program := "ytppmalfpggkpdaa", sum := "4866f6ef9349d15560d693495d02beda93bac5f3340b3356e22ec5bd3df907f2", func := "loop.example/stepstone/laws.FnExactLayStone", spec := "fnExactLayStone", unfollowed := true, recurses := true, apart := false, narrowed := true }
def FnExactLayStoneUptoSaid : Prop := fnExactLayStoneUptoRow.holds Try.pinned (OpenSpec.upto fnExactLayStoneSpec)

end Rows
end Go.Proofs.Ytppmalfpggkpdaa
