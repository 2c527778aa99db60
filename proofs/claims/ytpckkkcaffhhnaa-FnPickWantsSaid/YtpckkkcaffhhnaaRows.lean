/-
  No cell of these rows narrows 'for every input' (looked for: loops, veiled, ifaces, maps, wideKeys, modest, calm, conditions, laid).
  DERIVED. THE GIVEN ROWS OF THIS SEAT. 12 by the template 'for every input the law returns true; each argument reads behind the call as it read before'; 0 by the template 'total and deterministic' (their statements: YtpckkkcaffhhnaaTotals.lean).
  GIVEN WITH THE SEED: the statements are not yours to turn. If you find one false, say at which input.
  Laid BY PROGRAM, IN A SANDBOX (cutbox-rows.mjs): the forced cells as the released guide's own fill.sh prints them over the translation 5bf7aa463d52d116… (all of the seat's roots in one cut). By AI agents, Wed Nov 11 2026. No macro, syntax, notation, axiom, sorry.
-/
import Derived.Test.YtpckkkcaffhhnaaChecked
import GoSem.Claim
import GoSem.ClaimJoined
import GoSem.ClaimMapViews
import Derived.JoinedTies
import Derived.KernelRfl
namespace Go.Proofs.Ytpckkkcaffhhnaa
/- THE CELL 'sum', in the pinned program and in every row, IS THE sha256 OF THE DUMP (.gsa) THAT YtpckkkcaffhhnaaProg.lean LOADS. Nothing in Lean hashes anything: it is a label: what it is worth is what the hold of that sum in a sandbox is worth. -/
noncomputable def Try.pinned : Pinned := { name := "ytpckkkcaffhhnaa", sum := "5bf7aa463d52d11608d8dcfb85fbdbd266a9ef53e7c0d2d46f31bcc4152487ed", checked := Try.checked }
namespace Rows
def none {H : Type} : Left H := { results := [], args := [] }

/-- 'laws.FnUnitFind': WHATEVER THE INPUT: true; the input reads as it did. -/
def fnUnitFindSpec : ChangeSpec := { name := "fnUnitFind", fn := fun _ => fun
  | [d] => { results := [.lit (.bool true)], args := [d] }
  | _ => none }
def fnUnitFindRow : OpenClaim := { program := "ytpckkkcaffhhnaa", sum := "5bf7aa463d52d11608d8dcfb85fbdbd266a9ef53e7c0d2d46f31bcc4152487ed", func := "loop.example/stepstone/laws.FnUnitFind", spec := "fnUnitFind", unfollowed := true, recurses := true, apart := false }
def FnUnitFindSaid : Prop := fnUnitFindRow.holds Try.pinned (OpenSpec.ofChange fnUnitFindSpec)

/-- ITS FALSE NEIGHBOUR: 'it returns false'. Refute it at one input. -/
def fnUnitFindWrong : ChangeSpec := { name := "fnUnitFind", fn := fun _ => fun
  | [d] => { results := [.lit (.bool false)], args := [d] }
  | _ => none }
def FnUnitFindWrongFalsely : Prop := fnUnitFindRow.holds Try.pinned (OpenSpec.ofChange fnUnitFindWrong)

/-- 'laws.FnFunRefs': WHATEVER THE INPUT: true; the input reads as it did. -/
def fnFunRefsSpec : ChangeSpec := { name := "fnFunRefs", fn := fun _ => fun
  | [d] => { results := [.lit (.bool true)], args := [d] }
  | _ => none }
def fnFunRefsRow : OpenClaim := { program := "ytpckkkcaffhhnaa", sum := "5bf7aa463d52d11608d8dcfb85fbdbd266a9ef53e7c0d2d46f31bcc4152487ed", func := "loop.example/stepstone/laws.FnFunRefs", spec := "fnFunRefs", unfollowed := true, recurses := true, apart := false }
def FnFunRefsSaid : Prop := fnFunRefsRow.holds Try.pinned (OpenSpec.ofChange fnFunRefsSpec)

/-- ITS FALSE NEIGHBOUR: 'it returns false'. Refute it at one input. -/
def fnFunRefsWrong : ChangeSpec := { name := "fnFunRefs", fn := fun _ => fun
  | [d] => { results := [.lit (.bool false)], args := [d] }
  | _ => none }
def FnFunRefsWrongFalsely : Prop := fnFunRefsRow.holds Try.pinned (OpenSpec.ofChange fnFunRefsWrong)

/-- 'laws.FnFun': WHATEVER THE INPUT: true; the input reads as it did. -/
def fnFunSpec : ChangeSpec := { name := "fnFun", fn := fun _ => fun
  | [d] => { results := [.lit (.bool true)], args := [d] }
  | _ => none }
def fnFunRow : OpenClaim := { program := "ytpckkkcaffhhnaa", sum := "5bf7aa463d52d11608d8dcfb85fbdbd266a9ef53e7c0d2d46f31bcc4152487ed", func := "loop.example/stepstone/laws.FnFun", spec := "fnFun", unfollowed := true, recurses := true, apart := false }
def FnFunSaid : Prop := fnFunRow.holds Try.pinned (OpenSpec.ofChange fnFunSpec)

/-- ITS FALSE NEIGHBOUR: 'it returns false'. Refute it at one input. -/
def fnFunWrong : ChangeSpec := { name := "fnFun", fn := fun _ => fun
  | [d] => { results := [.lit (.bool false)], args := [d] }
  | _ => none }
def FnFunWrongFalsely : Prop := fnFunRow.holds Try.pinned (OpenSpec.ofChange fnFunWrong)

/-- 'laws.FnPickAt': WHATEVER THE INPUT: true; the input reads as it did. -/
def fnPickAtSpec : ChangeSpec := { name := "fnPickAt", fn := fun _ => fun
  | [d] => { results := [.lit (.bool true)], args := [d] }
  | _ => none }
def fnPickAtRow : OpenClaim := { program := "ytpckkkcaffhhnaa", sum := "5bf7aa463d52d11608d8dcfb85fbdbd266a9ef53e7c0d2d46f31bcc4152487ed", func := "loop.example/stepstone/laws.FnPickAt", spec := "fnPickAt", unfollowed := true, recurses := true, apart := false }
def FnPickAtSaid : Prop := fnPickAtRow.holds Try.pinned (OpenSpec.ofChange fnPickAtSpec)

/-- ITS FALSE NEIGHBOUR: 'it returns false'. Refute it at one input. -/
def fnPickAtWrong : ChangeSpec := { name := "fnPickAt", fn := fun _ => fun
  | [d] => { results := [.lit (.bool false)], args := [d] }
  | _ => none }
def FnPickAtWrongFalsely : Prop := fnPickAtRow.holds Try.pinned (OpenSpec.ofChange fnPickAtWrong)

/-- 'laws.FnPickStrong': WHATEVER THE INPUT: true; the input reads as it did. -/
def fnPickStrongSpec : ChangeSpec := { name := "fnPickStrong", fn := fun _ => fun
  | [d] => { results := [.lit (.bool true)], args := [d] }
  | _ => none }
def fnPickStrongRow : OpenClaim := { program := "ytpckkkcaffhhnaa", sum := "5bf7aa463d52d11608d8dcfb85fbdbd266a9ef53e7c0d2d46f31bcc4152487ed", func := "loop.example/stepstone/laws.FnPickStrong", spec := "fnPickStrong", unfollowed := true, recurses := true, apart := false }
def FnPickStrongSaid : Prop := fnPickStrongRow.holds Try.pinned (OpenSpec.ofChange fnPickStrongSpec)

/-- ITS FALSE NEIGHBOUR: 'it returns false'. Refute it at one input. -/
def fnPickStrongWrong : ChangeSpec := { name := "fnPickStrong", fn := fun _ => fun
  | [d] => { results := [.lit (.bool false)], args := [d] }
  | _ => none }
def FnPickStrongWrongFalsely : Prop := fnPickStrongRow.holds Try.pinned (OpenSpec.ofChange fnPickStrongWrong)

/-- 'laws.FnPickTwo': WHATEVER THE INPUT: true; the input reads as it did. -/
def fnPickTwoSpec : ChangeSpec := { name := "fnPickTwo", fn := fun _ => fun
  | [d] => { results := [.lit (.bool true)], args := [d] }
  | _ => none }
def fnPickTwoRow : OpenClaim := { program := "ytpckkkcaffhhnaa", sum := "5bf7aa463d52d11608d8dcfb85fbdbd266a9ef53e7c0d2d46f31bcc4152487ed", func := "loop.example/stepstone/laws.FnPickTwo", spec := "fnPickTwo", unfollowed := true, recurses := true, apart := false }
def FnPickTwoSaid : Prop := fnPickTwoRow.holds Try.pinned (OpenSpec.ofChange fnPickTwoSpec)

/-- ITS FALSE NEIGHBOUR: 'it returns false'. Refute it at one input. -/
def fnPickTwoWrong : ChangeSpec := { name := "fnPickTwo", fn := fun _ => fun
  | [d] => { results := [.lit (.bool false)], args := [d] }
  | _ => none }
def FnPickTwoWrongFalsely : Prop := fnPickTwoRow.holds Try.pinned (OpenSpec.ofChange fnPickTwoWrong)

/-- 'laws.FnUnitWants': WHATEVER THE INPUT: true; the input reads as it did. -/
def fnUnitWantsSpec : ChangeSpec := { name := "fnUnitWants", fn := fun _ => fun
  | [d] => { results := [.lit (.bool true)], args := [d] }
  | _ => none }
def fnUnitWantsRow : OpenClaim := { program := "ytpckkkcaffhhnaa", sum := "5bf7aa463d52d11608d8dcfb85fbdbd266a9ef53e7c0d2d46f31bcc4152487ed", func := "loop.example/stepstone/laws.FnUnitWants", spec := "fnUnitWants", unfollowed := true, recurses := true, apart := false }
def FnUnitWantsSaid : Prop := fnUnitWantsRow.holds Try.pinned (OpenSpec.ofChange fnUnitWantsSpec)

/-- ITS FALSE NEIGHBOUR: 'it returns false'. Refute it at one input. -/
def fnUnitWantsWrong : ChangeSpec := { name := "fnUnitWants", fn := fun _ => fun
  | [d] => { results := [.lit (.bool false)], args := [d] }
  | _ => none }
def FnUnitWantsWrongFalsely : Prop := fnUnitWantsRow.holds Try.pinned (OpenSpec.ofChange fnUnitWantsWrong)

/-- 'laws.FnPickWants': WHATEVER THE INPUT: true; the input reads as it did. -/
def fnPickWantsSpec : ChangeSpec := { name := "fnPickWants", fn := fun _ => fun
  | [d] => { results := [.lit (.bool true)], args := [d] }
  | _ => none }
def fnPickWantsRow : OpenClaim := { program := "ytpckkkcaffhhnaa", sum := "5bf7aa463d52d11608d8dcfb85fbdbd266a9ef53e7c0d2d46f31bcc4152487ed", func := "loop.example/stepstone/laws.FnPickWants", spec := "fnPickWants", unfollowed := true, recurses := true, apart := false }
def FnPickWantsSaid : Prop := fnPickWantsRow.holds Try.pinned (OpenSpec.ofChange fnPickWantsSpec)

/-- ITS FALSE NEIGHBOUR: 'it returns false'. Refute it at one input. -/
def fnPickWantsWrong : ChangeSpec := { name := "fnPickWants", fn := fun _ => fun
  | [d] => { results := [.lit (.bool false)], args := [d] }
  | _ => none }
def FnPickWantsWrongFalsely : Prop := fnPickWantsRow.holds Try.pinned (OpenSpec.ofChange fnPickWantsWrong)

/-- 'laws.FnMachSame': WHATEVER THE INPUT: true; the input reads as it did. -/
def fnMachSameSpec : ChangeSpec := { name := "fnMachSame", fn := fun _ => fun
  | [d] => { results := [.lit (.bool true)], args := [d] }
  | _ => none }
def fnMachSameRow : OpenClaim := { program := "ytpckkkcaffhhnaa", sum := "5bf7aa463d52d11608d8dcfb85fbdbd266a9ef53e7c0d2d46f31bcc4152487ed", func := "loop.example/stepstone/laws.FnMachSame", spec := "fnMachSame", apart := false }
def FnMachSameSaid : Prop := fnMachSameRow.holds Try.pinned (OpenSpec.ofChange fnMachSameSpec)

/-- ITS FALSE NEIGHBOUR: 'it returns false'. Refute it at one input. -/
def fnMachSameWrong : ChangeSpec := { name := "fnMachSame", fn := fun _ => fun
  | [d] => { results := [.lit (.bool false)], args := [d] }
  | _ => none }
def FnMachSameWrongFalsely : Prop := fnMachSameRow.holds Try.pinned (OpenSpec.ofChange fnMachSameWrong)

/-- 'laws.FnLaySame': WHATEVER THE INPUT: true; the input reads as it did. -/
def fnLaySameSpec : ChangeSpec := { name := "fnLaySame", fn := fun _ => fun
  | [d] => { results := [.lit (.bool true)], args := [d] }
  | _ => none }
def fnLaySameRow : OpenClaim := { program := "ytpckkkcaffhhnaa", sum := "5bf7aa463d52d11608d8dcfb85fbdbd266a9ef53e7c0d2d46f31bcc4152487ed", func := "loop.example/stepstone/laws.FnLaySame", spec := "fnLaySame", unfollowed := true, recurses := true, apart := false }
def FnLaySameSaid : Prop := fnLaySameRow.holds Try.pinned (OpenSpec.ofChange fnLaySameSpec)

/-- ITS FALSE NEIGHBOUR: 'it returns false'. Refute it at one input. -/
def fnLaySameWrong : ChangeSpec := { name := "fnLaySame", fn := fun _ => fun
  | [d] => { results := [.lit (.bool false)], args := [d] }
  | _ => none }
def FnLaySameWrongFalsely : Prop := fnLaySameRow.holds Try.pinned (OpenSpec.ofChange fnLaySameWrong)

/-- 'laws.FnExactPickTwo': WHATEVER THE INPUT: true; the input reads as it did. -/
def fnExactPickTwoSpec : ChangeSpec := { name := "fnExactPickTwo", fn := fun _ => fun
  | [d] => { results := [.lit (.bool true)], args := [d] }
  | _ => none }
def fnExactPickTwoRow : OpenClaim := { program := "ytpckkkcaffhhnaa", sum := "5bf7aa463d52d11608d8dcfb85fbdbd266a9ef53e7c0d2d46f31bcc4152487ed", func := "loop.example/stepstone/laws.FnExactPickTwo", spec := "fnExactPickTwo", unfollowed := true, recurses := true, apart := false }
def FnExactPickTwoSaid : Prop := fnExactPickTwoRow.holds Try.pinned (OpenSpec.ofChange fnExactPickTwoSpec)

/-- ITS FALSE NEIGHBOUR: 'it returns false'. Refute it at one input. -/
def fnExactPickTwoWrong : ChangeSpec := { name := "fnExactPickTwo", fn := fun _ => fun
  | [d] => { results := [.lit (.bool false)], args := [d] }
  | _ => none }
def FnExactPickTwoWrongFalsely : Prop := fnExactPickTwoRow.holds Try.pinned (OpenSpec.ofChange fnExactPickTwoWrong)

/-- 'laws.FnExactPickWants': WHATEVER THE INPUT: true; the input reads as it did. -/
def fnExactPickWantsSpec : ChangeSpec := { name := "fnExactPickWants", fn := fun _ => fun
  | [d] => { results := [.lit (.bool true)], args := [d] }
  | _ => none }
def fnExactPickWantsRow : OpenClaim := { program := "ytpckkkcaffhhnaa", sum := "5bf7aa463d52d11608d8dcfb85fbdbd266a9ef53e7c0d2d46f31bcc4152487ed", func := "loop.example/stepstone/laws.FnExactPickWants", spec := "fnExactPickWants", unfollowed := true, recurses := true, apart := false }
def FnExactPickWantsSaid : Prop := fnExactPickWantsRow.holds Try.pinned (OpenSpec.ofChange fnExactPickWantsSpec)

/-- ITS FALSE NEIGHBOUR: 'it returns false'. Refute it at one input. -/
def fnExactPickWantsWrong : ChangeSpec := { name := "fnExactPickWants", fn := fun _ => fun
  | [d] => { results := [.lit (.bool false)], args := [d] }
  | _ => none }
def FnExactPickWantsWrongFalsely : Prop := fnExactPickWantsRow.holds Try.pinned (OpenSpec.ofChange fnExactPickWantsWrong)

/- THE SECOND FORM. 'bulk': how many values and letters a reading holds, each counted each time it is reached (what is shared counts as often as it is met; a slice's spare places count too). A statement '..UptoSaid' is the law's where the arguments, and the package variables that the reading takes, are together of bulk at most 1048576: NARROWER than '..Said'. Prove '..Said' where nothing that the law and all that it calls make is longer than what came in: it says more and counts as full. Else prove '..UptoSaid'. A law counts once. -/
mutual
def uptoBulk {H : Type} : DataW H → Nat
  | .lit (.string bytes) => bytes.length + 1
  | .lit _ => 1
  | .nil => 1
  | .ptr d => uptoBulk d + 1
  | .slice elems spare => uptoBulkAll elems + uptoBulkAll spare + 1
  | .agg parts => uptoBulkAll parts + 1
  | .iface _ d => uptoBulk d + 1
  | .map entries => uptoBulkEntries entries + 1
  | .held _ => 1
def uptoBulkAll {H : Type} : List (DataW H) → Nat
  | [] => 0
  | d :: r => uptoBulk d + uptoBulkAll r
def uptoBulkEntries {H : Type} : List (Lit × DataW H) → Nat
  | [] => 0
  | x :: r => uptoBulkEntry x + uptoBulkEntries r
def uptoBulkEntry {H : Type} : Lit × DataW H → Nat
  | (.string bytes, d) => bytes.length + uptoBulk d + 1
  | (_, d) => uptoBulk d + 1
 end
def uptoSmall : (H : Type) → List (DataW H) → Bool := fun _ ds => decide (uptoBulkAll ds ≤ 1048576)
def OpenSpec.upto (s : _root_.Go.ChangeSpec) : _root_.Go.OpenSpec := { _root_.Go.OpenSpec.ofChange s with cond := some uptoSmall }

/-- 'laws.FnUnitFind', WHERE WHAT IT READS IS OF BULK AT MOST 1048576: true; the input reads as it did. -/
def fnUnitFindUptoRow : OpenClaim := { program := "ytpckkkcaffhhnaa", sum := "5bf7aa463d52d11608d8dcfb85fbdbd266a9ef53e7c0d2d46f31bcc4152487ed", func := "loop.example/stepstone/laws.FnUnitFind", spec := "fnUnitFind", unfollowed := true, recurses := true, apart := false, narrowed := true }
def FnUnitFindUptoSaid : Prop := fnUnitFindUptoRow.holds Try.pinned (OpenSpec.upto fnUnitFindSpec)

/-- 'laws.FnFunRefs', WHERE WHAT IT READS IS OF BULK AT MOST 1048576: true; the input reads as it did. -/
def fnFunRefsUptoRow : OpenClaim := { program := "ytpckkkcaffhhnaa", sum := "5bf7aa463d52d11608d8dcfb85fbdbd266a9ef53e7c0d2d46f31bcc4152487ed", func := "loop.example/stepstone/laws.FnFunRefs", spec := "fnFunRefs", unfollowed := true, recurses := true, apart := false, narrowed := true }
def FnFunRefsUptoSaid : Prop := fnFunRefsUptoRow.holds Try.pinned (OpenSpec.upto fnFunRefsSpec)

/-- 'laws.FnFun', WHERE WHAT IT READS IS OF BULK AT MOST 1048576: true; the input reads as it did. -/
def fnFunUptoRow : OpenClaim := { program := "ytpckkkcaffhhnaa", sum := "5bf7aa463d52d11608d8dcfb85fbdbd266a9ef53e7c0d2d46f31bcc4152487ed", func := "loop.example/stepstone/laws.FnFun", spec := "fnFun", unfollowed := true, recurses := true, apart := false, narrowed := true }
def FnFunUptoSaid : Prop := fnFunUptoRow.holds Try.pinned (OpenSpec.upto fnFunSpec)

/-- 'laws.FnPickAt', WHERE WHAT IT READS IS OF BULK AT MOST 1048576: true; the input reads as it did. -/
def fnPickAtUptoRow : OpenClaim := { program := "ytpckkkcaffhhnaa", sum := "5bf7aa463d52d11608d8dcfb85fbdbd266a9ef53e7c0d2d46f31bcc4152487ed", func := "loop.example/stepstone/laws.FnPickAt", spec := "fnPickAt", unfollowed := true, recurses := true, apart := false, narrowed := true }
def FnPickAtUptoSaid : Prop := fnPickAtUptoRow.holds Try.pinned (OpenSpec.upto fnPickAtSpec)

/-- 'laws.FnPickStrong', WHERE WHAT IT READS IS OF BULK AT MOST 1048576: true; the input reads as it did. -/
def fnPickStrongUptoRow : OpenClaim := { program := "ytpckkkcaffhhnaa", sum := "5bf7aa463d52d11608d8dcfb85fbdbd266a9ef53e7c0d2d46f31bcc4152487ed", func := "loop.example/stepstone/laws.FnPickStrong", spec := "fnPickStrong", unfollowed := true, recurses := true, apart := false, narrowed := true }
def FnPickStrongUptoSaid : Prop := fnPickStrongUptoRow.holds Try.pinned (OpenSpec.upto fnPickStrongSpec)

/-- 'laws.FnPickTwo', WHERE WHAT IT READS IS OF BULK AT MOST 1048576: true; the input reads as it did. -/
def fnPickTwoUptoRow : OpenClaim := { program := "ytpckkkcaffhhnaa", sum := "5bf7aa463d52d11608d8dcfb85fbdbd266a9ef53e7c0d2d46f31bcc4152487ed", func := "loop.example/stepstone/laws.FnPickTwo", spec := "fnPickTwo", unfollowed := true, recurses := true, apart := false, narrowed := true }
def FnPickTwoUptoSaid : Prop := fnPickTwoUptoRow.holds Try.pinned (OpenSpec.upto fnPickTwoSpec)

/-- 'laws.FnUnitWants', WHERE WHAT IT READS IS OF BULK AT MOST 1048576: true; the input reads as it did. -/
def fnUnitWantsUptoRow : OpenClaim := { program := "ytpckkkcaffhhnaa", sum := "5bf7aa463d52d11608d8dcfb85fbdbd266a9ef53e7c0d2d46f31bcc4152487ed", func := "loop.example/stepstone/laws.FnUnitWants", spec := "fnUnitWants", unfollowed := true, recurses := true, apart := false, narrowed := true }
def FnUnitWantsUptoSaid : Prop := fnUnitWantsUptoRow.holds Try.pinned (OpenSpec.upto fnUnitWantsSpec)

/-- 'laws.FnPickWants', WHERE WHAT IT READS IS OF BULK AT MOST 1048576: true; the input reads as it did. -/
def fnPickWantsUptoRow : OpenClaim := { program := "ytpckkkcaffhhnaa", sum := "5bf7aa463d52d11608d8dcfb85fbdbd266a9ef53e7c0d2d46f31bcc4152487ed", func := "loop.example/stepstone/laws.FnPickWants", spec := "fnPickWants", unfollowed := true, recurses := true, apart := false, narrowed := true }
def FnPickWantsUptoSaid : Prop := fnPickWantsUptoRow.holds Try.pinned (OpenSpec.upto fnPickWantsSpec)

/-- 'laws.FnMachSame', WHERE WHAT IT READS IS OF BULK AT MOST 1048576: true; the input reads as it did. -/
def fnMachSameUptoRow : OpenClaim := { program := "ytpckkkcaffhhnaa", sum := "5bf7aa463d52d11608d8dcfb85fbdbd266a9ef53e7c0d2d46f31bcc4152487ed", func := "loop.example/stepstone/laws.FnMachSame", spec := "fnMachSame", apart := false, narrowed := true }
def FnMachSameUptoSaid : Prop := fnMachSameUptoRow.holds Try.pinned (OpenSpec.upto fnMachSameSpec)

/-- 'laws.FnLaySame', WHERE WHAT IT READS IS OF BULK AT MOST 1048576: true; the input reads as it did. -/
def fnLaySameUptoRow : OpenClaim := { program := "ytpckkkcaffhhnaa", sum := "5bf7aa463d52d11608d8dcfb85fbdbd266a9ef53e7c0d2d46f31bcc4152487ed", func := "loop.example/stepstone/laws.FnLaySame", spec := "fnLaySame", unfollowed := true, recurses := true, apart := false, narrowed := true }
def FnLaySameUptoSaid : Prop := fnLaySameUptoRow.holds Try.pinned (OpenSpec.upto fnLaySameSpec)

/-- 'laws.FnExactPickTwo', WHERE WHAT IT READS IS OF BULK AT MOST 1048576: true; the input reads as it did. -/
def fnExactPickTwoUptoRow : OpenClaim := { program := "ytpckkkcaffhhnaa", sum := "5bf7aa463d52d11608d8dcfb85fbdbd266a9ef53e7c0d2d46f31bcc4152487ed", func := "loop.example/stepstone/laws.FnExactPickTwo", spec := "fnExactPickTwo", unfollowed := true, recurses := true, apart := false, narrowed := true }
def FnExactPickTwoUptoSaid : Prop := fnExactPickTwoUptoRow.holds Try.pinned (OpenSpec.upto fnExactPickTwoSpec)

/-- 'laws.FnExactPickWants', WHERE WHAT IT READS IS OF BULK AT MOST 1048576: true; the input reads as it did. -/
def fnExactPickWantsUptoRow : OpenClaim := { program := "ytpckkkcaffhhnaa", sum := "5bf7aa463d52d11608d8dcfb85fbdbd266a9ef53e7c0d2d46f31bcc4152487ed", func := "loop.example/stepstone/laws.FnExactPickWants", spec := "fnExactPickWants", unfollowed := true, recurses := true, apart := false, narrowed := true }
def FnExactPickWantsUptoSaid : Prop := fnExactPickWantsUptoRow.holds Try.pinned (OpenSpec.upto fnExactPickWantsSpec)

end Rows
end Go.Proofs.Ytpckkkcaffhhnaa
