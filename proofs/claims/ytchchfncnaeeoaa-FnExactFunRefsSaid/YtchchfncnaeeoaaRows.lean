/-
  No cell of these rows narrows 'for every input' (looked for: loops, veiled, ifaces, maps, wideKeys, modest, calm, conditions, laid).
  DERIVED. THE GIVEN ROWS OF THIS SEAT. 8 by the template 'for every input the law returns true; each argument reads behind the call as it read before'; 0 by the template 'total and deterministic' (their statements: YtchchfncnaeeoaaTotals.lean).
  GIVEN WITH THE SEED: the statements are not yours to turn. If you find one false, say at which input.
  Laid BY PROGRAM, IN A SANDBOX (cutbox-rows.mjs): the forced cells as the released guide's own fill.sh prints them over the translation 9ecbdba7142f9d1e… (all of the seat's roots in one cut). By AI agents, Wed Nov 11 2026. No macro, syntax, notation, axiom, sorry.
-/
import Derived.Test.YtchchfncnaeeoaaChecked
import GoSem.Claim
import GoSem.ClaimJoined
import GoSem.ClaimMapViews
import Derived.JoinedTies
import Derived.KernelRfl
namespace Go.Proofs.Ytchchfncnaeeoaa
/- THE CELL 'sum', in the pinned program and in every row, IS THE sha256 OF THE DUMP (.gsa) THAT YtchchfncnaeeoaaProg.lean LOADS. Nothing in Lean hashes anything: it is a label: what it is worth is what the hold of that sum in a sandbox is worth. -/
noncomputable def Try.pinned : Pinned := { name := "ytchchfncnaeeoaa", sum := "9ecbdba7142f9d1e5b49d665ad83b7ab29217dea8db981d1425554091265b0ee", checked := Try.checked }
namespace Rows
def none {H : Type} : Left H := { results := [], args := [] }

/-- 'laws.FnFunRefs': WHATEVER THE INPUT: true; the input reads as it did. -/
def fnFunRefsSpec : ChangeSpec := { name := "fnFunRefs", fn := fun _ => fun
  | [d] => { results := [.lit (.bool true)], args := [d] }
  | _ => none }
def fnFunRefsRow : OpenClaim := { program := "ytchchfncnaeeoaa", sum := "9ecbdba7142f9d1e5b49d665ad83b7ab29217dea8db981d1425554091265b0ee", func := "loop.example/stepstone/laws.FnFunRefs", spec := "fnFunRefs", unfollowed := true, recurses := true, apart := false }
def FnFunRefsSaid : Prop := fnFunRefsRow.holds Try.pinned (OpenSpec.ofChange fnFunRefsSpec)

/-- ITS FALSE NEIGHBOUR: 'it returns false'. Refute it at one input. -/
def fnFunRefsWrong : ChangeSpec := { name := "fnFunRefs", fn := fun _ => fun
  | [d] => { results := [.lit (.bool false)], args := [d] }
  | _ => none }
def FnFunRefsWrongFalsely : Prop := fnFunRefsRow.holds Try.pinned (OpenSpec.ofChange fnFunRefsWrong)

/-- 'laws.FnExactFunRefs': WHATEVER THE INPUT: true; the input reads as it did. -/
def fnExactFunRefsSpec : ChangeSpec := { name := "fnExactFunRefs", fn := fun _ => fun
  | [d] => { results := [.lit (.bool true)], args := [d] }
  | _ => none }
def fnExactFunRefsRow : OpenClaim := { program := "ytchchfncnaeeoaa", sum := "9ecbdba7142f9d1e5b49d665ad83b7ab29217dea8db981d1425554091265b0ee", func := "loop.example/stepstone/laws.FnExactFunRefs", spec := "fnExactFunRefs", unfollowed := true, recurses := true, apart := false }
def FnExactFunRefsSaid : Prop := fnExactFunRefsRow.holds Try.pinned (OpenSpec.ofChange fnExactFunRefsSpec)

/-- ITS FALSE NEIGHBOUR: 'it returns false'. Refute it at one input. -/
def fnExactFunRefsWrong : ChangeSpec := { name := "fnExactFunRefs", fn := fun _ => fun
  | [d] => { results := [.lit (.bool false)], args := [d] }
  | _ => none }
def FnExactFunRefsWrongFalsely : Prop := fnExactFunRefsRow.holds Try.pinned (OpenSpec.ofChange fnExactFunRefsWrong)

/-- 'laws.FnFun': WHATEVER THE INPUT: true; the input reads as it did. -/
def fnFunSpec : ChangeSpec := { name := "fnFun", fn := fun _ => fun
  | [d] => { results := [.lit (.bool true)], args := [d] }
  | _ => none }
def fnFunRow : OpenClaim := { program := "ytchchfncnaeeoaa", sum := "9ecbdba7142f9d1e5b49d665ad83b7ab29217dea8db981d1425554091265b0ee", func := "loop.example/stepstone/laws.FnFun", spec := "fnFun", unfollowed := true, recurses := true, apart := false }
def FnFunSaid : Prop := fnFunRow.holds Try.pinned (OpenSpec.ofChange fnFunSpec)

/-- ITS FALSE NEIGHBOUR: 'it returns false'. Refute it at one input. -/
def fnFunWrong : ChangeSpec := { name := "fnFun", fn := fun _ => fun
  | [d] => { results := [.lit (.bool false)], args := [d] }
  | _ => none }
def FnFunWrongFalsely : Prop := fnFunRow.holds Try.pinned (OpenSpec.ofChange fnFunWrong)

/-- 'laws.FnExactPickAt': WHATEVER THE INPUT: true; the input reads as it did. -/
def fnExactPickAtSpec : ChangeSpec := { name := "fnExactPickAt", fn := fun _ => fun
  | [d1, d2] => { results := [.lit (.bool true)], args := [d1, d2] }
  | _ => none }
def fnExactPickAtRow : OpenClaim := { program := "ytchchfncnaeeoaa", sum := "9ecbdba7142f9d1e5b49d665ad83b7ab29217dea8db981d1425554091265b0ee", func := "loop.example/stepstone/laws.FnExactPickAt", spec := "fnExactPickAt", unfollowed := true, recurses := true, apart := false }
def FnExactPickAtSaid : Prop := fnExactPickAtRow.holds Try.pinned (OpenSpec.ofChange fnExactPickAtSpec)

/-- ITS FALSE NEIGHBOUR: 'it returns false'. Refute it at one input. -/
def fnExactPickAtWrong : ChangeSpec := { name := "fnExactPickAt", fn := fun _ => fun
  | [d1, d2] => { results := [.lit (.bool false)], args := [d1, d2] }
  | _ => none }
def FnExactPickAtWrongFalsely : Prop := fnExactPickAtRow.holds Try.pinned (OpenSpec.ofChange fnExactPickAtWrong)

/-- 'laws.FnPickAt': WHATEVER THE INPUT: true; the input reads as it did. -/
def fnPickAtSpec : ChangeSpec := { name := "fnPickAt", fn := fun _ => fun
  | [d] => { results := [.lit (.bool true)], args := [d] }
  | _ => none }
def fnPickAtRow : OpenClaim := { program := "ytchchfncnaeeoaa", sum := "9ecbdba7142f9d1e5b49d665ad83b7ab29217dea8db981d1425554091265b0ee", func := "loop.example/stepstone/laws.FnPickAt", spec := "fnPickAt", unfollowed := true, recurses := true, apart := false }
def FnPickAtSaid : Prop := fnPickAtRow.holds Try.pinned (OpenSpec.ofChange fnPickAtSpec)

/-- ITS FALSE NEIGHBOUR: 'it returns false'. Refute it at one input. -/
def fnPickAtWrong : ChangeSpec := { name := "fnPickAt", fn := fun _ => fun
  | [d] => { results := [.lit (.bool false)], args := [d] }
  | _ => none }
def FnPickAtWrongFalsely : Prop := fnPickAtRow.holds Try.pinned (OpenSpec.ofChange fnPickAtWrong)

/-- 'laws.FnPickStrong': WHATEVER THE INPUT: true; the input reads as it did. -/
def fnPickStrongSpec : ChangeSpec := { name := "fnPickStrong", fn := fun _ => fun
  | [d] => { results := [.lit (.bool true)], args := [d] }
  | _ => none }
def fnPickStrongRow : OpenClaim := { program := "ytchchfncnaeeoaa", sum := "9ecbdba7142f9d1e5b49d665ad83b7ab29217dea8db981d1425554091265b0ee", func := "loop.example/stepstone/laws.FnPickStrong", spec := "fnPickStrong", unfollowed := true, recurses := true, apart := false }
def FnPickStrongSaid : Prop := fnPickStrongRow.holds Try.pinned (OpenSpec.ofChange fnPickStrongSpec)

/-- ITS FALSE NEIGHBOUR: 'it returns false'. Refute it at one input. -/
def fnPickStrongWrong : ChangeSpec := { name := "fnPickStrong", fn := fun _ => fun
  | [d] => { results := [.lit (.bool false)], args := [d] }
  | _ => none }
def FnPickStrongWrongFalsely : Prop := fnPickStrongRow.holds Try.pinned (OpenSpec.ofChange fnPickStrongWrong)

/-- 'laws.FnPickTwo': WHATEVER THE INPUT: true; the input reads as it did. -/
def fnPickTwoSpec : ChangeSpec := { name := "fnPickTwo", fn := fun _ => fun
  | [d] => { results := [.lit (.bool true)], args := [d] }
  | _ => none }
def fnPickTwoRow : OpenClaim := { program := "ytchchfncnaeeoaa", sum := "9ecbdba7142f9d1e5b49d665ad83b7ab29217dea8db981d1425554091265b0ee", func := "loop.example/stepstone/laws.FnPickTwo", spec := "fnPickTwo", unfollowed := true, recurses := true, apart := false }
def FnPickTwoSaid : Prop := fnPickTwoRow.holds Try.pinned (OpenSpec.ofChange fnPickTwoSpec)

/-- ITS FALSE NEIGHBOUR: 'it returns false'. Refute it at one input. -/
def fnPickTwoWrong : ChangeSpec := { name := "fnPickTwo", fn := fun _ => fun
  | [d] => { results := [.lit (.bool false)], args := [d] }
  | _ => none }
def FnPickTwoWrongFalsely : Prop := fnPickTwoRow.holds Try.pinned (OpenSpec.ofChange fnPickTwoWrong)

/-- 'laws.FnExactPickTwo': WHATEVER THE INPUT: true; the input reads as it did. -/
def fnExactPickTwoSpec : ChangeSpec := { name := "fnExactPickTwo", fn := fun _ => fun
  | [d] => { results := [.lit (.bool true)], args := [d] }
  | _ => none }
def fnExactPickTwoRow : OpenClaim := { program := "ytchchfncnaeeoaa", sum := "9ecbdba7142f9d1e5b49d665ad83b7ab29217dea8db981d1425554091265b0ee", func := "loop.example/stepstone/laws.FnExactPickTwo", spec := "fnExactPickTwo", unfollowed := true, recurses := true, apart := false }
def FnExactPickTwoSaid : Prop := fnExactPickTwoRow.holds Try.pinned (OpenSpec.ofChange fnExactPickTwoSpec)

/-- ITS FALSE NEIGHBOUR: 'it returns false'. Refute it at one input. -/
def fnExactPickTwoWrong : ChangeSpec := { name := "fnExactPickTwo", fn := fun _ => fun
  | [d] => { results := [.lit (.bool false)], args := [d] }
  | _ => none }
def FnExactPickTwoWrongFalsely : Prop := fnExactPickTwoRow.holds Try.pinned (OpenSpec.ofChange fnExactPickTwoWrong)

/- THE SECOND FORM. 'bulk': how many values and letters a reading holds, each counted each time it is reached (what is shared counts as often as it is met; a slice's spare places count too). A statement '..UptoSaid' is the law's where the arguments, and the package variables that the reading takes, are together of bulk at most 1048576: NARROWER than '..Said'. Prove '..Said' where nothing that the law and all that it calls make is longer than what came in: it says more and counts as full. Else prove '..UptoSaid'. A law counts once. -/
mutual
def uptoBulk {H : Type} : DataW H → Nat
  | .lit (.string bytes) => bytes.length + 1
  | .lit _ => 1
  | .nil => 1
  | .ptr d => uptoBulk d + 1
  | .slice elems spare => uptoBulkAll elems + uptoBulkAll spare + 1
  | .agg parts => uptoBulkAll parts + 1
  | .iface _ d => uptoBulk d + 1
  | .map entries => uptoBulkEntries entries + 1
  | .held _ => 1
def uptoBulkAll {H : Type} : List (DataW H) → Nat
  | [] => 0
  | d :: r => uptoBulk d + uptoBulkAll r
def uptoBulkEntries {H : Type} : List (Lit × DataW H) → Nat
  | [] => 0
  | x :: r => uptoBulkEntry x + uptoBulkEntries r
def uptoBulkEntry {H : Type} : Lit × DataW H → Nat
  | (.string bytes, d) => bytes.length + uptoBulk d + 1
  | (_, d) => uptoBulk d + 1
 end
def uptoSmall : (H : Type) → List (DataW H) → Bool := fun _ ds => decide (uptoBulkAll ds ≤ 1048576)
def OpenSpec.upto (s : _root_.Go.ChangeSpec) : _root_.Go.OpenSpec := { _root_.Go.OpenSpec.ofChange s with cond := some uptoSmall }

/-- 'laws.FnFunRefs', WHERE WHAT IT READS IS OF BULK AT MOST 1048576: true; the input reads as it did. -/
def fnFunRefsUptoRow : OpenClaim := { program := "ytchchfncnaeeoaa", sum := "9ecbdba7142f9d1e5b49d665ad83b7ab29217dea8db981d1425554091265b0ee", func := "loop.example/stepstone/laws.FnFunRefs", spec := "fnFunRefs", unfollowed := true, recurses := true, apart := false, narrowed := true }
def FnFunRefsUptoSaid : Prop := fnFunRefsUptoRow.holds Try.pinned (OpenSpec.upto fnFunRefsSpec)

/-- 'laws.FnExactFunRefs', WHERE WHAT IT READS IS OF BULK AT MOST 1048576: true; the input reads as it did. -/
def fnExactFunRefsUptoRow : OpenClaim := { program := "ytchchfncnaeeoaa", sum := "9ecbdba7142f9d1e5b49d665ad83b7ab29217dea8db981d1425554091265b0ee", func := "loop.example/stepstone/laws.FnExactFunRefs", spec := "fnExactFunRefs", unfollowed := true, recurses := true, apart := false, narrowed := true }
def FnExactFunRefsUptoSaid : Prop := fnExactFunRefsUptoRow.holds Try.pinned (OpenSpec.upto fnExactFunRefsSpec)

/-- 'laws.FnFun', WHERE WHAT IT READS IS OF BULK AT MOST 1048576: true; the input reads as it did. -/
def fnFunUptoRow : OpenClaim := { program := "ytchchfncnaeeoaa", sum := "9ecbdba7142f9d1e5b49d665ad83b7ab29217dea8db981d1425554091265b0ee", func := "loop.example/stepstone/laws.FnFun", spec := "fnFun", unfollowed := true, recurses := true, apart := false, narrowed := true }
def FnFunUptoSaid : Prop := fnFunUptoRow.holds Try.pinned (OpenSpec.upto fnFunSpec)

/-- 'laws.FnExactPickAt', WHERE WHAT IT READS IS OF BULK AT MOST 1048576: true; the input reads as it did. -/
def fnExactPickAtUptoRow : OpenClaim := { program := "ytchchfncnaeeoaa", sum := "9ecbdba7142f9d1e5b49d665ad83b7ab29217dea8db981d1425554091265b0ee", func := "loop.example/stepstone/laws.FnExactPickAt", spec := "fnExactPickAt", unfollowed := true, recurses := true, apart := false, narrowed := true }
def FnExactPickAtUptoSaid : Prop := fnExactPickAtUptoRow.holds Try.pinned (OpenSpec.upto fnExactPickAtSpec)

/-- 'laws.FnPickAt', WHERE WHAT IT READS IS OF BULK AT MOST 1048576: true; the input reads as it did. -/
def fnPickAtUptoRow : OpenClaim := { program := "ytchchfncnaeeoaa", sum := "9ecbdba7142f9d1e5b49d665ad83b7ab29217dea8db981d1425554091265b0ee", func := "loop.example/stepstone/laws.FnPickAt", spec := "fnPickAt", unfollowed := true, recurses := true, apart := false, narrowed := true }
def FnPickAtUptoSaid : Prop := fnPickAtUptoRow.holds Try.pinned (OpenSpec.upto fnPickAtSpec)

/-- 'laws.FnPickStrong', WHERE WHAT IT READS IS OF BULK AT MOST 1048576: true; the input reads as it did. -/
def fnPickStrongUptoRow : OpenClaim := { program := "ytchchfncnaeeoaa", sum := "9ecbdba7142f9d1e5b49d665ad83b7ab29217dea8db981d1425554091265b0ee", func := "loop.example/stepstone/laws.FnPickStrong", spec := "fnPickStrong", unfollowed := true, recurses := true, apart := false, narrowed := true }
def FnPickStrongUptoSaid : Prop := fnPickStrongUptoRow.holds Try.pinned (OpenSpec.upto fnPickStrongSpec)

/-- 'laws.FnPickTwo', WHERE WHAT IT READS IS OF BULK AT MOST 1048576: true; the input reads as it did. -/
def fnPickTwoUptoRow : OpenClaim := { program := "ytchchfncnaeeoaa", sum := "9ecbdba7142f9d1e5b49d665ad83b7ab29217dea8db981d1425554091265b0ee", func := "loop.example/stepstone/laws.FnPickTwo", spec := "fnPickTwo", unfollowed := true, recurses := true, apart := false, narrowed := true }
def FnPickTwoUptoSaid : Prop := fnPickTwoUptoRow.holds Try.pinned (OpenSpec.upto fnPickTwoSpec)

/-- 'laws.FnExactPickTwo', WHERE WHAT IT READS IS OF BULK AT MOST 1048576: true; the input reads as it did. -/
def fnExactPickTwoUptoRow : OpenClaim := { program := "ytchchfncnaeeoaa", sum := "9ecbdba7142f9d1e5b49d665ad83b7ab29217dea8db981d1425554091265b0ee", func := "loop.example/stepstone/laws.FnExactPickTwo", spec := "fnExactPickTwo", unfollowed := true, recurses := true, apart := false, narrowed := true }
def FnExactPickTwoUptoSaid : Prop := fnExactPickTwoUptoRow.holds Try.pinned (OpenSpec.upto fnExactPickTwoSpec)

end Rows
end Go.Proofs.Ytchchfncnaeeoaa
