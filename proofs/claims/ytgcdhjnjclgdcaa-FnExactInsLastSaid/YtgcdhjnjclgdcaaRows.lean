/-
  No cell of these rows narrows 'for every input' (looked for: loops, veiled, ifaces, maps, wideKeys, modest, calm, conditions, laid).
  DERIVED. THE GIVEN ROWS OF THIS SEAT. 8 by the template 'for every input the law returns true; each argument reads behind the call as it read before'; 0 by the template 'total and deterministic' (their statements: YtgcdhjnjclgdcaaTotals.lean).
  GIVEN WITH THE SEED: the statements are not yours to turn. If you find one false, say at which input.
  Laid BY PROGRAM, IN A SANDBOX (cutbox-rows.mjs): the forced cells as the released guide's own fill.sh prints them over the translation cdfc391d846c8131… (all of the seat's roots in one cut). By AI agents, Wed Nov 11 2026. No macro, syntax, notation, axiom, sorry.
-/
import Derived.Test.YtgcdhjnjclgdcaaChecked
import GoSem.Claim
import GoSem.ClaimJoined
import GoSem.ClaimMapViews
import Derived.JoinedTies
import Derived.KernelRfl
namespace Go.Proofs.Ytgcdhjnjclgdcaa
/- THE CELL 'sum', in the pinned program and in every row, IS THE sha256 OF THE DUMP (.gsa) THAT YtgcdhjnjclgdcaaProg.lean LOADS. Nothing in Lean hashes anything: it is a label: what it is worth is what the hold of that sum in a sandbox is worth. -/
noncomputable def Try.pinned : Pinned := { name := "ytgcdhjnjclgdcaa", sum := "cdfc391d846c8131e79a48cf981c02830cd9cefe82598d458a44080ff965393f", checked := Try.checked }
namespace Rows
def none {H : Type} : Left H := { results := [], args := [] }

/-- 'laws.FnExactConstants': WHATEVER THE INPUT: true; the input reads as it did. -/
def fnExactConstantsSpec : ChangeSpec := { name := "fnExactConstants", fn := fun _ => fun
  | [] => { results := [.lit (.bool true)], args := [] }
  | _ => none }
def fnExactConstantsRow : OpenClaim := { program := "ytgcdhjnjclgdcaa", sum := "cdfc391d846c8131e79a48cf981c02830cd9cefe82598d458a44080ff965393f", func := "loop.example/stepstone/laws.FnExactConstants", spec := "fnExactConstants", apart := false }
def FnExactConstantsSaid : Prop := fnExactConstantsRow.holds Try.pinned (OpenSpec.ofChange fnExactConstantsSpec)

/-- ITS FALSE NEIGHBOUR: 'it returns false'. Refute it at one input. -/
def fnExactConstantsWrong : ChangeSpec := { name := "fnExactConstants", fn := fun _ => fun
  | [] => { results := [.lit (.bool false)], args := [] }
  | _ => none }
def FnExactConstantsWrongFalsely : Prop := fnExactConstantsRow.holds Try.pinned (OpenSpec.ofChange fnExactConstantsWrong)

/-- 'laws.FnExactInsSum': WHATEVER THE INPUT: true; the input reads as it did. -/
def fnExactInsSumSpec : ChangeSpec := { name := "fnExactInsSum", fn := fun _ => fun
  | [d1, d2] => { results := [.lit (.bool true)], args := [d1, d2] }
  | _ => none }
def fnExactInsSumRow : OpenClaim := { program := "ytgcdhjnjclgdcaa", sum := "cdfc391d846c8131e79a48cf981c02830cd9cefe82598d458a44080ff965393f", func := "loop.example/stepstone/laws.FnExactInsSum", spec := "fnExactInsSum", apart := false }
def FnExactInsSumSaid : Prop := fnExactInsSumRow.holds Try.pinned (OpenSpec.ofChange fnExactInsSumSpec)

/-- ITS FALSE NEIGHBOUR: 'it returns false'. Refute it at one input. -/
def fnExactInsSumWrong : ChangeSpec := { name := "fnExactInsSum", fn := fun _ => fun
  | [d1, d2] => { results := [.lit (.bool false)], args := [d1, d2] }
  | _ => none }
def FnExactInsSumWrongFalsely : Prop := fnExactInsSumRow.holds Try.pinned (OpenSpec.ofChange fnExactInsSumWrong)

/-- 'laws.FnExactNameOk': WHATEVER THE INPUT: true; the input reads as it did. -/
def fnExactNameOkSpec : ChangeSpec := { name := "fnExactNameOk", fn := fun _ => fun
  | [d] => { results := [.lit (.bool true)], args := [d] }
  | _ => none }
def fnExactNameOkRow : OpenClaim := { program := "ytgcdhjnjclgdcaa", sum := "cdfc391d846c8131e79a48cf981c02830cd9cefe82598d458a44080ff965393f", func := "loop.example/stepstone/laws.FnExactNameOk", spec := "fnExactNameOk", apart := false }
def FnExactNameOkSaid : Prop := fnExactNameOkRow.holds Try.pinned (OpenSpec.ofChange fnExactNameOkSpec)

/-- ITS FALSE NEIGHBOUR: 'it returns false'. Refute it at one input. -/
def fnExactNameOkWrong : ChangeSpec := { name := "fnExactNameOk", fn := fun _ => fun
  | [d] => { results := [.lit (.bool false)], args := [d] }
  | _ => none }
def FnExactNameOkWrongFalsely : Prop := fnExactNameOkRow.holds Try.pinned (OpenSpec.ofChange fnExactNameOkWrong)

/-- 'laws.FnExactInsLast': WHATEVER THE INPUT: true; the input reads as it did. -/
def fnExactInsLastSpec : ChangeSpec := { name := "fnExactInsLast", fn := fun _ => fun
  | [d] => { results := [.lit (.bool true)], args := [d] }
  | _ => none }
def fnExactInsLastRow : OpenClaim := { program := "ytgcdhjnjclgdcaa", sum := "cdfc391d846c8131e79a48cf981c02830cd9cefe82598d458a44080ff965393f", func := "loop.example/stepstone/laws.FnExactInsLast", spec := "fnExactInsLast", apart := false }
def FnExactInsLastSaid : Prop := fnExactInsLastRow.holds Try.pinned (OpenSpec.ofChange fnExactInsLastSpec)

/-- ITS FALSE NEIGHBOUR: 'it returns false'. Refute it at one input. -/
def fnExactInsLastWrong : ChangeSpec := { name := "fnExactInsLast", fn := fun _ => fun
  | [d] => { results := [.lit (.bool false)], args := [d] }
  | _ => none }
def FnExactInsLastWrongFalsely : Prop := fnExactInsLastRow.holds Try.pinned (OpenSpec.ofChange fnExactInsLastWrong)

/-- 'laws.FnExactInsRefs': WHATEVER THE INPUT: true; the input reads as it did. -/
def fnExactInsRefsSpec : ChangeSpec := { name := "fnExactInsRefs", fn := fun _ => fun
  | [d] => { results := [.lit (.bool true)], args := [d] }
  | _ => none }
def fnExactInsRefsRow : OpenClaim := { program := "ytgcdhjnjclgdcaa", sum := "cdfc391d846c8131e79a48cf981c02830cd9cefe82598d458a44080ff965393f", func := "loop.example/stepstone/laws.FnExactInsRefs", spec := "fnExactInsRefs", apart := false }
def FnExactInsRefsSaid : Prop := fnExactInsRefsRow.holds Try.pinned (OpenSpec.ofChange fnExactInsRefsSpec)

/-- ITS FALSE NEIGHBOUR: 'it returns false'. Refute it at one input. -/
def fnExactInsRefsWrong : ChangeSpec := { name := "fnExactInsRefs", fn := fun _ => fun
  | [d] => { results := [.lit (.bool false)], args := [d] }
  | _ => none }
def FnExactInsRefsWrongFalsely : Prop := fnExactInsRefsRow.holds Try.pinned (OpenSpec.ofChange fnExactInsRefsWrong)

/-- 'laws.FnInsSum': WHATEVER THE INPUT: true; the input reads as it did. -/
def fnInsSumSpec : ChangeSpec := { name := "fnInsSum", fn := fun _ => fun
  | [d] => { results := [.lit (.bool true)], args := [d] }
  | _ => none }
def fnInsSumRow : OpenClaim := { program := "ytgcdhjnjclgdcaa", sum := "cdfc391d846c8131e79a48cf981c02830cd9cefe82598d458a44080ff965393f", func := "loop.example/stepstone/laws.FnInsSum", spec := "fnInsSum", apart := false }
def FnInsSumSaid : Prop := fnInsSumRow.holds Try.pinned (OpenSpec.ofChange fnInsSumSpec)

/-- ITS FALSE NEIGHBOUR: 'it returns false'. Refute it at one input. -/
def fnInsSumWrong : ChangeSpec := { name := "fnInsSum", fn := fun _ => fun
  | [d] => { results := [.lit (.bool false)], args := [d] }
  | _ => none }
def FnInsSumWrongFalsely : Prop := fnInsSumRow.holds Try.pinned (OpenSpec.ofChange fnInsSumWrong)

/-- 'laws.FnExactInsOk': WHATEVER THE INPUT: true; the input reads as it did. -/
def fnExactInsOkSpec : ChangeSpec := { name := "fnExactInsOk", fn := fun _ => fun
  | [d] => { results := [.lit (.bool true)], args := [d] }
  | _ => none }
def fnExactInsOkRow : OpenClaim := { program := "ytgcdhjnjclgdcaa", sum := "cdfc391d846c8131e79a48cf981c02830cd9cefe82598d458a44080ff965393f", func := "loop.example/stepstone/laws.FnExactInsOk", spec := "fnExactInsOk", apart := false }
def FnExactInsOkSaid : Prop := fnExactInsOkRow.holds Try.pinned (OpenSpec.ofChange fnExactInsOkSpec)

/-- ITS FALSE NEIGHBOUR: 'it returns false'. Refute it at one input. -/
def fnExactInsOkWrong : ChangeSpec := { name := "fnExactInsOk", fn := fun _ => fun
  | [d] => { results := [.lit (.bool false)], args := [d] }
  | _ => none }
def FnExactInsOkWrongFalsely : Prop := fnExactInsOkRow.holds Try.pinned (OpenSpec.ofChange fnExactInsOkWrong)

/-- 'laws.FnInsAll': WHATEVER THE INPUT: true; the input reads as it did. -/
def fnInsAllSpec : ChangeSpec := { name := "fnInsAll", fn := fun _ => fun
  | [d] => { results := [.lit (.bool true)], args := [d] }
  | _ => none }
def fnInsAllRow : OpenClaim := { program := "ytgcdhjnjclgdcaa", sum := "cdfc391d846c8131e79a48cf981c02830cd9cefe82598d458a44080ff965393f", func := "loop.example/stepstone/laws.FnInsAll", spec := "fnInsAll", apart := false }
def FnInsAllSaid : Prop := fnInsAllRow.holds Try.pinned (OpenSpec.ofChange fnInsAllSpec)

/-- ITS FALSE NEIGHBOUR: 'it returns false'. Refute it at one input. -/
def fnInsAllWrong : ChangeSpec := { name := "fnInsAll", fn := fun _ => fun
  | [d] => { results := [.lit (.bool false)], args := [d] }
  | _ => none }
def FnInsAllWrongFalsely : Prop := fnInsAllRow.holds Try.pinned (OpenSpec.ofChange fnInsAllWrong)

/- THE SECOND FORM. 'bulk': how many values and letters a reading holds, each counted each time it is reached (what is shared counts as often as it is met; a slice's spare places count too). A statement '..UptoSaid' is the law's where the arguments, and the package variables that the reading takes, are together of bulk at most 1048576: NARROWER than '..Said'. Prove '..Said' where nothing that the law and all that it calls make is longer than what came in: it says more and counts as full. Else prove '..UptoSaid'. A law counts once. -/
mutual
def uptoBulk {H : Type} : DataW H → Nat
  | .lit (.string bytes) => bytes.length + 1
  | .lit _ => 1
  | .nil => 1
  | .ptr d => uptoBulk d + 1
  | .slice elems spare => uptoBulkAll elems + uptoBulkAll spare + 1
  | .agg parts => uptoBulkAll parts + 1
  | .iface _ d => uptoBulk d + 1
  | .map entries => uptoBulkEntries entries + 1
  | .held _ => 1
def uptoBulkAll {H : Type} : List (DataW H) → Nat
  | [] => 0
  | d :: r => uptoBulk d + uptoBulkAll r
def uptoBulkEntries {H : Type} : List (Lit × DataW H) → Nat
  | [] => 0
  | x :: r => uptoBulkEntry x + uptoBulkEntries r
def uptoBulkEntry {H : Type} : Lit × DataW H → Nat
  | (.string bytes, d) => bytes.length + uptoBulk d + 1
  | (_, d) => uptoBulk d + 1
 end
def uptoSmall : (H : Type) → List (DataW H) → Bool := fun _ ds => decide (uptoBulkAll ds ≤ 1048576)
def OpenSpec.upto (s : _root_.Go.ChangeSpec) : _root_.Go.OpenSpec := { _root_.Go.OpenSpec.ofChange s with cond := some uptoSmall }

/-- 'laws.FnExactConstants', WHERE WHAT IT READS IS OF BULK AT MOST 1048576: true; the input reads as it did. -/
def fnExactConstantsUptoRow : OpenClaim := { program := "ytgcdhjnjclgdcaa", sum := "cdfc391d846c8131e79a48cf981c02830cd9cefe82598d458a44080ff965393f", func := "loop.example/stepstone/laws.FnExactConstants", spec := "fnExactConstants", apart := false, narrowed := true }
def FnExactConstantsUptoSaid : Prop := fnExactConstantsUptoRow.holds Try.pinned (OpenSpec.upto fnExactConstantsSpec)

/-- 'laws.FnExactInsSum', WHERE WHAT IT READS IS OF BULK AT MOST 1048576: true; the input reads as it did. -/
def fnExactInsSumUptoRow : OpenClaim := { program := "ytgcdhjnjclgdcaa", sum := "cdfc391d846c8131e79a48cf981c02830cd9cefe82598d458a44080ff965393f", func := "loop.example/stepstone/laws.FnExactInsSum", spec := "fnExactInsSum", apart := false, narrowed := true }
def FnExactInsSumUptoSaid : Prop := fnExactInsSumUptoRow.holds Try.pinned (OpenSpec.upto fnExactInsSumSpec)

/-- 'laws.FnExactNameOk', WHERE WHAT IT READS IS OF BULK AT MOST 1048576: true; the input reads as it did. -/
def fnExactNameOkUptoRow : OpenClaim := { program := "ytgcdhjnjclgdcaa", sum := "cdfc391d846c8131e79a48cf981c02830cd9cefe82598d458a44080ff965393f", func := "loop.example/stepstone/laws.FnExactNameOk", spec := "fnExactNameOk", apart := false, narrowed := true }
def FnExactNameOkUptoSaid : Prop := fnExactNameOkUptoRow.holds Try.pinned (OpenSpec.upto fnExactNameOkSpec)

/-- 'laws.FnExactInsLast', WHERE WHAT IT READS IS OF BULK AT MOST 1048576: true; the input reads as it did. -/
def fnExactInsLastUptoRow : OpenClaim := { program := "ytgcdhjnjclgdcaa", sum := "cdfc391d846c8131e79a48cf981c02830cd9cefe82598d458a44080ff965393f", func := "loop.example/stepstone/laws.FnExactInsLast", spec := "fnExactInsLast", apart := false, narrowed := true }
def FnExactInsLastUptoSaid : Prop := fnExactInsLastUptoRow.holds Try.pinned (OpenSpec.upto fnExactInsLastSpec)

/-- 'laws.FnExactInsRefs', WHERE WHAT IT READS IS OF BULK AT MOST 1048576: true; the input reads as it did. -/
def fnExactInsRefsUptoRow : OpenClaim := { program := "ytgcdhjnjclgdcaa", sum := "cdfc391d846c8131e79a48cf981c02830cd9cefe82598d458a44080ff965393f", func := "loop.example/stepstone/laws.FnExactInsRefs", spec := "fnExactInsRefs", apart := false, narrowed := true }
def FnExactInsRefsUptoSaid : Prop := fnExactInsRefsUptoRow.holds Try.pinned (OpenSpec.upto fnExactInsRefsSpec)

/-- 'laws.FnInsSum', WHERE WHAT IT READS IS OF BULK AT MOST 1048576: true; the input reads as it did. -/
def fnInsSumUptoRow : OpenClaim := { program := "ytgcdhjnjclgdcaa", sum := "cdfc391d846c8131e79a48cf981c02830cd9cefe82598d458a44080ff965393f", func := "loop.example/stepstone/laws.FnInsSum", spec := "fnInsSum", apart := false, narrowed := true }
def FnInsSumUptoSaid : Prop := fnInsSumUptoRow.holds Try.pinned (OpenSpec.upto fnInsSumSpec)

/-- 'laws.FnExactInsOk', WHERE WHAT IT READS IS OF BULK AT MOST 1048576: true; the input reads as it did. -/
def fnExactInsOkUptoRow : OpenClaim := { program := "ytgcdhjnjclgdcaa", sum := "cdfc391d846c8131e79a48cf981c02830cd9cefe82598d458a44080ff965393f", func := "loop.example/stepstone/laws.FnExactInsOk", spec := "fnExactInsOk", apart := false, narrowed := true }
def FnExactInsOkUptoSaid : Prop := fnExactInsOkUptoRow.holds Try.pinned (OpenSpec.upto fnExactInsOkSpec)

/-- 'laws.FnInsAll', WHERE WHAT IT READS IS OF BULK AT MOST 1048576: true; the input reads as it did. -/
def fnInsAllUptoRow : OpenClaim := { program := "ytgcdhjnjclgdcaa", sum := "cdfc391d846c8131e79a48cf981c02830cd9cefe82598d458a44080ff965393f", func := "loop.example/stepstone/laws.FnInsAll", spec := "fnInsAll", apart := false, narrowed := true }
def FnInsAllUptoSaid : Prop := fnInsAllUptoRow.holds Try.pinned (OpenSpec.upto fnInsAllSpec)

end Rows
end Go.Proofs.Ytgcdhjnjclgdcaa
