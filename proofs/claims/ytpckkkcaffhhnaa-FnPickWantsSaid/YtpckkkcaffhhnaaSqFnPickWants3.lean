-- put together by squash.py
import Derived.Test.YtpckkkcaffhhnaaProg
import Derived.Below
import Derived.Deep.Draws
import Derived.Deep.AppendLies
import Derived.Maps.AppendAt
import Derived.OwnWalk
import Derived.Laws.BytesArg
import Derived.Laws.MakeOwn
import Derived.Laws.OwnMore
import Derived.Deep.OwnRows
import Derived.Tactics
import Derived.Lib.ConvBytes
import Derived.Laws.Slices
import Derived.WalkKit
import Derived.KernelRfl
import Derived.RowKit3
import Derived.Deep.LoopGhost
import Derived.Deep.QuietTactic
import Derived.BigQuiet
import Derived.WideLaws
import Derived.Deep.DeepCutAuto
import Derived.Deep.CutBlock
import Derived.Deep.RegionHeld3
import Derived.Laws.Rows
import Derived.Lib.AppendStr
import Derived.ArgAppend
import Derived.Laws.IdiomCopy
import Derived.OrdersHeld
import Derived.Laws.BitsLemmas
import Derived.RowKit
import Derived.Test.YtpckkkcaffhhnaaSqFnPickWants1
import Derived.Test.YtpckkkcaffhhnaaSqFnPickWants2
set_option linter.unusedVariables false
set_option linter.unusedSimpArgs false

namespace Go.Proofs.Ytpckkkcaffhhnaa.P
open Go.RowKit Go.Proofs.YtpckkkcaffhhnaaW.PrintWords Go.Proofs.YtpckkkcaffhhnaaW.PrintLast Go.Proofs.YtpckkkcaffhhnaaW.PrintMore
theorem aM {p : Prop} (h : p) : Aside0 p := Aside0.mk h
theorem oD {p : Prop} [Decidable p] (h : decide p = true) : p := of_decide_eq_true h
theorem bA {w W : World} (h : Below w.heap.size w W) (o : Obj) : Below w.heap.size w (W.alloc o) := below_alloc h o
theorem bN {B : Nat} {w W : World} (h : Below B w W) (n : Nat) : Below B w (W.drewN n) := pw_below_drewN h n
theorem bD {B : Nat} {w W : World} (h : Below B w W) : Below B w W.drew := below_drew1 h
theorem Ca {α : Type} {d : Kd α} {w : World} {xs : List α} {A : Option Addr} {n : Nat} (h : d.C w A n xs) (o : Obj) : d.C (w.alloc o) A n xs := Kd.C_alloc h o
theorem Cn {α : Type} {d : Kd α} {w : World} {xs : List α} {A : Option Addr} {n : Nat} (h : d.C w A n xs) (o : Nat) : d.C (w.drewN o) A n xs := Kd.C_drewN h o
theorem Cd {α : Type} {d : Kd α} {w : World} {xs : List α} {A : Option Addr} {n : Nat} (h : d.C w A n xs) : d.C w.drew A n xs := Kd.C_drew h
theorem kA {w W : World} {g : Nat} (h : KeepBut w W g none) (o : Obj) : KeepBut w (W.alloc o) g none := keep_alloc h o
theorem kN {w W : World} {g : Nat} {row : Option Nat} (h : KeepBut w W g row) (o : Nat) : KeepBut w (W.drewN o) g row := keep_drewN h o
theorem kD {w W : World} {g : Nat} {row : Option Nat} (h : KeepBut w W g row) : KeepBut w W.drew g row := keep_drew h
theorem Ra {α : Type} {d : Kd α} {e b : Nat} {w : World} {ok : Nat → Prop} {v : Value} {xs : List α} (h : d.R e w b ok v xs) (o : Obj) : d.R e (w.alloc o) b ok v xs := Kd.R_alloc h o
theorem Rn {α : Type} {d : Kd α} {e b : Nat} {w : World} {ok : Nat → Prop} {v : Value} {xs : List α} (h : d.R e w b ok v xs) (o : Nat) : d.R e (w.drewN o) b ok v xs := Kd.R_drewN h o
theorem Rd {α : Type} {d : Kd α} {e b : Nat} {w : World} {ok : Nat → Prop} {v : Value} {xs : List α} (h : d.R e w b ok v xs) : d.R e w.drew b ok v xs := Kd.R_drew h
theorem Na {α : Type} {d : Kd α} {e b : Nat} {w : World} {ok : Nat → Prop} {v : Value} {xs : List α} (h : d.N e w b ok v xs) (o : Obj) : d.N e (w.alloc o) b ok v xs := Kd.N_alloc h o
theorem Nn {α : Type} {d : Kd α} {e b : Nat} {w : World} {ok : Nat → Prop} {v : Value} {xs : List α} (h : d.N e w b ok v xs) (o : Nat) : d.N e (w.drewN o) b ok v xs := Kd.N_drewN h o
theorem Nd {α : Type} {d : Kd α} {e b : Nat} {w : World} {ok : Nat → Prop} {v : Value} {xs : List α} (h : d.N e w b ok v xs) : d.N e w.drew b ok v xs := Kd.N_drew h
theorem Va {α : Type} {d : Kd α} {e b : Nat} {w : World} {ok : Nat → Prop} {v : Value} {xs : List α} (h : d.V e w b ok v xs) (o : Obj) : d.V e (w.alloc o) b ok v xs := Kd.V_alloc h o
theorem Vn {α : Type} {d : Kd α} {e b : Nat} {w : World} {ok : Nat → Prop} {v : Value} {xs : List α} (h : d.V e w b ok v xs) (o : Nat) : d.V e (w.drewN o) b ok v xs := Kd.V_drewN h o
theorem Vd {α : Type} {d : Kd α} {e b : Nat} {w : World} {ok : Nat → Prop} {v : Value} {xs : List α} (h : d.V e w b ok v xs) : d.V e w.drew b ok v xs := Kd.V_drew h
attribute [local go_sem] max2_int min2_int max_two min_two max_three min_three max_four min_four
def errW : Option Int → Value
  | none => .nilIface
  | some c => .iface 0 (.int .i64 c)
theorem errW_none : errW none = .nilIface := rfl
theorem errW_some (c : Int) : errW (some c) = .iface 0 (.int .i64 c) := rfl
theorem info5 : (Try.prog.info? 5).map (fun i => (i.zero, i.size, i.bytes)) = some (some (.int .u8 0), 1, 1) := by kernel_rfl
theorem info9 : (Try.prog.info? 9).map (fun i => (i.zero, i.size, i.bytes)) = some (some (.string ⟨#[]⟩), 1, 16) := by kernel_rfl
theorem info23 : (Try.prog.info? 23).map (fun i => (i.zero, i.size, i.bytes)) = some (some (.slice none 0 0), 1, 24) := by kernel_rfl
theorem info30 : (Try.prog.info? 30).map (fun i => (i.zero, i.size, i.bytes)) = some (some (.agg #[(.string ⟨#[]⟩), (.bool false), (.slice none 0 0)]), 3, 48) := by kernel_rfl
theorem info38 : (Try.prog.info? 38).map (fun i => (i.zero, i.size, i.bytes)) = some (some (.agg #[(.int .i64 0), (.int .i64 0), (.string ⟨#[]⟩)]), 3, 32) := by kernel_rfl
structure S158 where
  f0 : Int
  f1 : Int
  f2 : ByteArray
def z158 : S158 := ⟨(0 : Int), (0 : Int), (⟨#[]⟩ : ByteArray)⟩
def rd_T158 (xs : List S158) (i : Int) : S158 := xs.getD i.toNat z158
structure S134 where
  f0 : ByteArray
  f1 : Bool
  f2 : (List S158)
def z134 : S134 := ⟨(⟨#[]⟩ : ByteArray), false, ([] : List S158)⟩
def rd_T134 (xs : List S134) (i : Int) : S134 := xs.getD i.toNat z134
def rd_L8 (xs : List (List S134)) (i : Int) : (List S134) := xs.getD i.toNat ([] : List S134)
structure S38 where
  f0 : Int
  f1 : Int
  f2 : ByteArray
def z38 : S38 := ⟨(0 : Int), (0 : Int), (⟨#[]⟩ : ByteArray)⟩
def k38 : Kd S38 := Kd.iso (Kd.pair (Kd.int .i64) (Kd.pair (Kd.int .i64) Kd.string)) (fun x : S38 => (x.f0, x.f1, x.f2))
theorem k38_open {w : World} {x : S38} {cs : List Value} (h : k38.K w x cs) : cs = [.int .i64 x.f0, .int .i64 x.f1, .string x.f2] := by
  obtain ⟨_, _, rfl, rfl, ⟨_, _, rfl, rfl, rfl⟩⟩ := h
  exact rfl
theorem k38_mkM (w : World) (base : Nat) (ok : Nat → Prop) (x : S38)  : k38.M w base ok x [.int .i64 x.f0, .int .i64 x.f1, .string x.f2] := ⟨[.int .i64 x.f0], [.int .i64 x.f1, .string x.f2], rfl, rfl, ⟨[.int .i64 x.f1], [.string x.f2], rfl, rfl, rfl⟩⟩
def rd_T38 (xs : List S38) (i : Int) : S38 := xs.getD i.toNat z38
theorem at_T38 {w : World} {A : Option Addr} {n : Nat} {xs : List S38} (h : Kd.C k38 w A n xs) (i : Int) (h0 : 0 ≤ i) (h1 : i < n) : ∃ ad , A = some ad ∧ w.cell? (ad.add (i.toNat * 3)) = some (.int .i64 (rd_T38 xs i).f0) ∧ w.cell? ⟨(ad.add (i.toNat * 3)).block, (ad.add (i.toNat * 3)).off + 1, none⟩ = some (.int .i64 (rd_T38 xs i).f1) ∧ w.cell? ⟨(ad.add (i.toNat * 3)).block, (ad.add (i.toNat * 3)).off + 2, none⟩ = some (.string (rd_T38 xs i).f2) := by
  obtain ⟨ad, c, e, _, hK, hc0⟩ := Kd.C_get h z38 i h0 h1
  have hc : ∀ j u, c[j]? = some u → w.cell? (ad.add (i.toNat * 3 + j)) = some u := hc0
  obtain rfl := k38_open hK
  exact ⟨ad, e, hc 0 _ rfl, by rw [← add_field _ _ 1 (by omega)]; exact hc 1 _ rfl, by rw [← add_field _ _ 2 (by omega)]; exact hc 2 _ rfl⟩
structure S30 where
  f0 : ByteArray
  f1 : Bool
  f2 : (List S38)
def z30 : S30 := ⟨(⟨#[]⟩ : ByteArray), false, ([] : List S38)⟩
def k30 : Kd S30 := Kd.iso (Kd.pair Kd.string (Kd.pair Kd.bool (Kd.slice 38 k38))) (fun x : S30 => (x.f0, x.f1, x.f2))
theorem k30_open {w : World} {x : S30} {cs : List Value} (h : k30.K w x cs) : ∃ A2 c2, cs = [.string x.f0, .bool x.f1, .slice A2 x.f2.length c2] ∧ x.f2.length ≤ c2 ∧ k38.C w A2 x.f2.length x.f2 := by
  obtain ⟨_, _, rfl, rfl, ⟨_, _, rfl, rfl, ⟨A2, c2, rfl, l2, g2⟩⟩⟩ := h
  exact ⟨A2, c2, rfl, l2, g2⟩
theorem k30_openM {w : World} {base : Nat} {ok : Nat → Prop} {x : S30} {cs : List Value} (h : k30.M w base ok x cs) : ∃ v2, cs = [.string x.f0, .bool x.f1, v2] ∧ k38.R 38 w base ok v2 x.f2 := by
  obtain ⟨_, _, rfl, rfl, ⟨_, _, rfl, rfl, ⟨v2, rfl, g2⟩⟩⟩ := h
  exact ⟨v2, rfl, g2⟩
theorem k30_mk (w : World) (x : S30) {A2 : Option Addr} {c2 : Nat} (l2 : x.f2.length ≤ c2) (g2 : k38.C w A2 x.f2.length x.f2) : k30.K w x [.string x.f0, .bool x.f1, .slice A2 x.f2.length c2] := ⟨[.string x.f0], [.bool x.f1, .slice A2 x.f2.length c2], rfl, rfl, ⟨[.bool x.f1], [.slice A2 x.f2.length c2], rfl, rfl, ⟨A2, c2, rfl, l2, g2⟩⟩⟩
theorem k30_mkM (w : World) (base : Nat) (ok : Nat → Prop) (x : S30) {v2 : Value} (g2 : k38.R 38 w base ok v2 x.f2) : k30.M w base ok x [.string x.f0, .bool x.f1, v2] := ⟨[.string x.f0], [.bool x.f1, v2], rfl, rfl, ⟨[.bool x.f1], [v2], rfl, rfl, ⟨v2, rfl, g2⟩⟩⟩
theorem k30_openF {W : World} {ok : Nat → Prop} {x : S30} {cs : List Value} (h : Kd.FK k30 W ok x cs) : ∃ A2 c2, cs = [.string x.f0, .bool x.f1, .slice A2 x.f2.length c2] ∧ x.f2.length ≤ c2 ∧ Kd.F k38 W ok A2 x.f2.length x.f2 := by
  obtain ⟨A2, c2, rfl, l2, _⟩ := k30_open (Kd.FK_now h)
  exact ⟨A2, c2, rfl, l2, (fun W' hW => by obtain ⟨A2_, c2_, he, l2_, g2_⟩ := k30_open (h W' hW); injection (Option.some.inj (show some (Value.slice A2 x.f2.length c2) = some (Value.slice A2_ x.f2.length c2_) from congrArg (fun l => l[2]?) he)) with ha_ _ _; rw [ha_]; exact g2_)⟩
theorem k30_mkF (W : World) (ok : Nat → Prop) (x : S30) {A2 : Option Addr} {c2 : Nat} (l2 : x.f2.length ≤ c2) (g2 : Kd.F k38 W ok A2 x.f2.length x.f2) : Kd.FK k30 W ok x [.string x.f0, .bool x.f1, .slice A2 x.f2.length c2] := fun W2 hW => k30_mk W2 x l2 (g2 W2 hW)
def rd_T30 (xs : List S30) (i : Int) : S30 := xs.getD i.toNat z30
theorem at_T30 {w : World} {A : Option Addr} {n : Nat} {xs : List S30} (h : Kd.C k30 w A n xs) (i : Int) (h0 : 0 ≤ i) (h1 : i < n) : ∃ ad A2 c2, A = some ad ∧ w.cell? (ad.add (i.toNat * 3)) = some (.string (rd_T30 xs i).f0) ∧ w.cell? ⟨(ad.add (i.toNat * 3)).block, (ad.add (i.toNat * 3)).off + 1, none⟩ = some (.bool (rd_T30 xs i).f1) ∧ w.cell? ⟨(ad.add (i.toNat * 3)).block, (ad.add (i.toNat * 3)).off + 2, none⟩ = some (.slice A2 (rd_T30 xs i).f2.length c2) ∧ (rd_T30 xs i).f2.length ≤ c2 ∧ k38.C w A2 (rd_T30 xs i).f2.length (rd_T30 xs i).f2 := by
  obtain ⟨ad, c, e, _, hK, hc0⟩ := Kd.C_get h z30 i h0 h1
  have hc : ∀ j u, c[j]? = some u → w.cell? (ad.add (i.toNat * 3 + j)) = some u := hc0
  obtain ⟨A2, c2, rfl, l2, g2⟩ := k30_open hK
  exact ⟨ad, A2, c2, e, hc 0 _ rfl, by rw [← add_field _ _ 1 (by omega)]; exact hc 1 _ rfl, by rw [← add_field _ _ 2 (by omega)]; exact hc 2 _ rfl, l2, g2⟩
def rd_L13 (xs : List (List S30)) (i : Int) : (List S30) := xs.getD i.toNat ([] : List S30)
theorem at_L13 {w : World} {A : Option Addr} {n : Nat} {xs : List (List S30)} (h : Kd.C (Kd.slice 30 k30) w A n xs) (i : Int) (h0 : 0 ≤ i) (h1 : i < n) : ∃ ad A0 c0, A = some ad ∧ w.cell? (ad.add i.toNat) = some (.slice A0 (rd_L13 xs i).length c0) ∧ (rd_L13 xs i).length ≤ c0 ∧ k30.C w A0 (rd_L13 xs i).length (rd_L13 xs i) := by
  obtain ⟨ad, c, e, _, hK, hc0⟩ := Kd.C_get h ([] : List S30) i h0 h1
  have hc : ∀ j u, c[j]? = some u → w.cell? (ad.add (i.toNat * 1 + j)) = some u := hc0
  obtain ⟨A0, c0, rfl, l0, g0⟩ := hK
  exact ⟨ad, A0, c0, e, by have hq := hc 0 _ rfl; rwa [Nat.mul_one, Nat.add_zero] at hq, l0, g0⟩
structure S57 where
  f0 : Int
  f1 : Int
structure S67 where
  f0 : (List Int)
  f1 : (List (List ByteArray))
end Go.Proofs.Ytpckkkcaffhhnaa.P
namespace Go.Proofs.Ytpckkkcaffhhnaa.P
open Go.RowKit Go.Proofs.YtpckkkcaffhhnaaW.PrintWords Go.Proofs.YtpckkkcaffhhnaaW.PrintLast Go.Proofs.YtpckkkcaffhhnaaW.PrintMore
attribute [local go_sem] max2_int min2_int max_two min_two max_three min_three max_four min_four
def impl_InsLast.f (a0_0 : Int) (a0_1 : Int) (a0_2 : ByteArray) : Option (Bool) := if a0_0 = 4 then (some true) else (if a0_0 = 6 then (some true) else (some (a0_0 == 7)))
set_option maxHeartbeats 8000000 in
set_option maxRecDepth 100000 in
theorem impl_InsLast.calls (a0_0 : Int) (a0_1 : Int) (a0_2 : ByteArray) (r : Bool) (w : World) (h : impl_InsLast.f a0_0 a0_1 a0_2 = some r) :
    Calls Try.prog 29 #[.agg #[.int .i64 a0_0, .int .i64 a0_1, .string a0_2]] w fun e w' => e = .returned (.bool r) ∧ Below w.heap.size w w' := by
 have hu38 := Try.underlying38
 have HB := aM (Below.refl w.heap.size w)
 have H : (if a0_0 = 4 then (some true) else (if a0_0 = 6 then (some true) else (some (a0_0 == 7)))) = some r := h
 clear h
 by_cases c2 : a0_0 = 4
 · rw [if_pos c2] at H
   have c2b0 : (a0_0 == 4) = true := beq_iff_eq.mpr c2
   have c2b1 : (a0_0 != 4) = false := bne_eq_false_iff_eq.mpr c2
   clear c2
   obtain rfl := Option.some.inj H
   go_enter Try.func29, Try.ntmps29
   go_wp2_with (first | ((with_reducible refine gate_dst (N := 1) rfl ?_); refine box_event ?hg (N := 1) ?hd (cs := #[.int .i64 a0_0, .int .i64 a0_1, .string a0_2]) (t := 38) ?hr ?_; (case hd => rfl); (case hg => rfl); (case hr => first | (go_simp; done) | (go_simp; rfl)); intro gb223 hg w3 hbox hb; have n0_ := aM (below_step (by repeat (with_reducible first | exact HB.out | apply bA | apply bN | apply bD)) hb); have n1_ := aM (hbox); have n2_ := aM ((by rw [hg]; exact (below_size (by repeat (with_reducible first | exact HB.out | apply bA | apply bN | apply bD))) : w.heap.size ≤ gb223)); have n3_ := aM ((by rw [hg]; exact (below_size (by repeat (with_reducible first | exact HB.out | apply bA | apply bN | apply bD))) : w.heap.size ≤ gb223)); clear HB; have HB := n0_; have BK223 := n1_; have GW223 := n2_; have GE223 := n3_; clear n0_ n1_ n2_ n3_ hb hbox hg; have hcz4_0 : w3.cell? ⟨gb223, 0, none⟩ = some (.int .i64 a0_0) := (blk_cell BK223.out 0).trans rfl; have hcz4_1 : w3.cell? ⟨gb223, 1, none⟩ = some (.int .i64 a0_1) := (blk_cell BK223.out 1).trans rfl; have hcz4_2 : w3.cell? ⟨gb223, 2, none⟩ = some (.string a0_2) := (blk_cell BK223.out 2).trans rfl; have hfz4_0 := blk_frozen BK223.out 0; have hfz4_1 := blk_frozen BK223.out 1; have hfz4_2 := blk_frozen BK223.out 2))
   go_ret
   exact ⟨by first | rfl | (simp [*, errW_none, errW_some] <;> rfl), by repeat (with_reducible first | exact HB.out | apply bA | apply bN | apply bD | refine below_set ?_ GE223.out)⟩
 rw [if_neg c2] at H
 have c2b0 : (a0_0 == 4) = false := beq_eq_false_iff_ne.mpr c2
 have c2b1 : (a0_0 != 4) = true := bne_iff_ne.mpr c2
 by_cases c5 : a0_0 = 6
 · rw [if_pos c5] at H
   have c5b0 : (a0_0 == 6) = true := beq_iff_eq.mpr c5
   have c5b1 : (a0_0 != 6) = false := bne_eq_false_iff_eq.mpr c5
   clear c5
   obtain rfl := Option.some.inj H
   go_enter Try.func29, Try.ntmps29
   go_wp2_with (first | ((with_reducible refine gate_dst (N := 1) rfl ?_); refine box_event ?hg (N := 1) ?hd (cs := #[.int .i64 a0_0, .int .i64 a0_1, .string a0_2]) (t := 38) ?hr ?_; (case hd => rfl); (case hg => rfl); (case hr => first | (go_simp; done) | (go_simp; rfl)); intro gb223 hg w6 hbox hb; have n0_ := aM (below_step (by repeat (with_reducible first | exact HB.out | apply bA | apply bN | apply bD)) hb); have n1_ := aM (hbox); have n2_ := aM ((by rw [hg]; exact (below_size (by repeat (with_reducible first | exact HB.out | apply bA | apply bN | apply bD))) : w.heap.size ≤ gb223)); have n3_ := aM ((by rw [hg]; exact (below_size (by repeat (with_reducible first | exact HB.out | apply bA | apply bN | apply bD))) : w.heap.size ≤ gb223)); clear HB; have HB := n0_; have BK223 := n1_; have GW223 := n2_; have GE223 := n3_; clear n0_ n1_ n2_ n3_ hb hbox hg; have hcz7_0 : w6.cell? ⟨gb223, 0, none⟩ = some (.int .i64 a0_0) := (blk_cell BK223.out 0).trans rfl; have hcz7_1 : w6.cell? ⟨gb223, 1, none⟩ = some (.int .i64 a0_1) := (blk_cell BK223.out 1).trans rfl; have hcz7_2 : w6.cell? ⟨gb223, 2, none⟩ = some (.string a0_2) := (blk_cell BK223.out 2).trans rfl; have hfz7_0 := blk_frozen BK223.out 0; have hfz7_1 := blk_frozen BK223.out 1; have hfz7_2 := blk_frozen BK223.out 2))
   go_ret
   exact ⟨by first | rfl | (simp [*, errW_none, errW_some] <;> rfl), by repeat (with_reducible first | exact HB.out | apply bA | apply bN | apply bD | refine below_set ?_ GE223.out)⟩
 rw [if_neg c5] at H
 have c5b0 : (a0_0 == 6) = false := beq_eq_false_iff_ne.mpr c5
 have c5b1 : (a0_0 != 6) = true := bne_iff_ne.mpr c5
 obtain rfl := Option.some.inj H
 go_enter Try.func29, Try.ntmps29
 go_wp2_with (first | ((with_reducible refine gate_dst (N := 1) rfl ?_); refine box_event ?hg (N := 1) ?hd (cs := #[.int .i64 a0_0, .int .i64 a0_1, .string a0_2]) (t := 38) ?hr ?_; (case hd => rfl); (case hg => rfl); (case hr => first | (go_simp; done) | (go_simp; rfl)); intro gb223 hg w8 hbox hb; have n0_ := aM (below_step (by repeat (with_reducible first | exact HB.out | apply bA | apply bN | apply bD)) hb); have n1_ := aM (hbox); have n2_ := aM ((by rw [hg]; exact (below_size (by repeat (with_reducible first | exact HB.out | apply bA | apply bN | apply bD))) : w.heap.size ≤ gb223)); have n3_ := aM ((by rw [hg]; exact (below_size (by repeat (with_reducible first | exact HB.out | apply bA | apply bN | apply bD))) : w.heap.size ≤ gb223)); clear HB; have HB := n0_; have BK223 := n1_; have GW223 := n2_; have GE223 := n3_; clear n0_ n1_ n2_ n3_ hb hbox hg; have hcz9_0 : w8.cell? ⟨gb223, 0, none⟩ = some (.int .i64 a0_0) := (blk_cell BK223.out 0).trans rfl; have hcz9_1 : w8.cell? ⟨gb223, 1, none⟩ = some (.int .i64 a0_1) := (blk_cell BK223.out 1).trans rfl; have hcz9_2 : w8.cell? ⟨gb223, 2, none⟩ = some (.string a0_2) := (blk_cell BK223.out 2).trans rfl; have hfz9_0 := blk_frozen BK223.out 0; have hfz9_1 := blk_frozen BK223.out 1; have hfz9_2 := blk_frozen BK223.out 2))
 go_ret
 exact ⟨by first | rfl | (simp [*, errW_none, errW_some] <;> rfl), by repeat (with_reducible first | exact HB.out | apply bA | apply bN | apply bD | refine below_set ?_ GE223.out)⟩
def impl_in.f (a0 : Int) (a1 : Int) (a2 : Int) : Option (Bool) := if a1 ≤ a0 then (some (decide (a0 ≤ a2))) else (some false)
set_option maxHeartbeats 8000000 in
set_option maxRecDepth 100000 in
theorem impl_in.calls (a0 : Int) (a1 : Int) (a2 : Int) (r : Bool) (w : World) (h : impl_in.f a0 a1 a2 = some r) :
    Calls Try.prog 77 #[.int .i64 a0, .int .i64 a1, .int .i64 a2] w fun e w' => e = .returned (.bool r) ∧ Drawn0 w w' := by
 have H : (if a1 ≤ a0 then (some (decide (a0 ≤ a2))) else (some false)) = some r := h
 clear h
 by_cases c4 : a1 ≤ a0
 · rw [if_pos c4] at H
   have c4b0 : decide (a1 ≤ a0) = true := decide_eq_true c4
   clear c4
   obtain rfl := Option.some.inj H
   go_enter Try.func77, Try.ntmps77
   go_wp2
   go_ret
   exact ⟨by first | rfl | (simp; done) | (simp [*]; done), by repeat (first | exact Drawn0.refl _ | apply Drawn0.step)⟩
 rw [if_neg c4] at H
 have c4b0 : decide (a1 ≤ a0) = false := decide_eq_false c4
 clear c4
 obtain rfl := Option.some.inj H
 go_enter Try.func77, Try.ntmps77
 go_wp2
 go_ret
 exact ⟨by first | rfl | (simp; done) | (simp [*]; done), by repeat (first | exact Drawn0.refl _ | apply Drawn0.step)⟩
def impl_NameOk.l0 : Nat → ByteArray → Int → Int → Option (Bool)
  | 0, _, _, _ => none
  | k + 1, x0, x5, x6 => if x6 < x5 then (if 0 ≤ x6 then (if x6 < (x0.size : Int) then (if (bt x0 x6) < 97 then (some false) else (if (bt x0 x6) > 122 then (some false) else (impl_NameOk.l0 k x0 x5 (wrap64 (x6 + 1))))) else (none)) else (none)) else ((impl_in.f (x0.size : Int) 1 6).bind fun t224 => (some t224))
def impl_NameOk.f (k : Nat) (a0 : ByteArray) : Option (Bool) := impl_NameOk.l0 k a0 (a0.size : Int) 0
set_option maxHeartbeats 8000000 in
set_option maxRecDepth 100000 in
theorem impl_NameOk.calls (k : Nat) (a0 : ByteArray) (r : Bool) (w : World) (h : impl_NameOk.f k a0 = some r) :
    Calls Try.prog 76 #[.string a0] w fun e w' => e = .returned (.bool r) ∧ Drawn0 w w' := by
 have H : (impl_NameOk.l0 k a0 (a0.size : Int) 0) = some r := h
 clear h
 have H' := aM H
 clear H
 go_enter Try.func76, Try.ntmps76
 go_wp2
 go_loopg [6] k (fun kq v6 w' => ∃ (x6_1 : Int), v6 = .int .i64 x6_1 ∧ Aside0 (impl_NameOk.l0 kq a0 (a0.size : Int) x6_1 = some r) ∧ Aside0 (kq ≤ k) ∧ Drawn0 w w')
 case atStart => exact ⟨(0), (by first | rfl | (simp; done) | (simp [*]; done)), H', ⟨Nat.le_refl _⟩, by repeat (first | exact Drawn0.refl _ | apply Drawn0.step)⟩
 clear H'
 obtain ⟨x6_1, rfl, HA, HK1, ⟨m1, rfl⟩⟩ := hrel
 obtain _ | k1 := gk
 · exact absurd HA.out (by simp [impl_NameOk.l0])
 have H := HA.out
 clear HA
 simp only [impl_NameOk.l0] at H
 by_cases c2 : x6_1 < (a0.size : Int)
 · rw [if_pos c2] at H
   have c2b0 : decide (x6_1 < (a0.size : Int)) = true := decide_eq_true c2
   clear c2
   by_cases c3 : 0 ≤ x6_1
   · rw [if_pos c3] at H
     have c3b0 : decide (0 ≤ x6_1) = true := decide_eq_true c3
     clear c3
     by_cases c4 : x6_1 < (a0.size : Int)
     · rw [if_pos c4] at H
       have c4b0 : decide (x6_1 < (a0.size : Int)) = true := decide_eq_true c4
       clear c4
       by_cases c6 : (bt a0 x6_1) < 97
       · rw [if_pos c6] at H
         have c6b0 : decide ((bt a0 x6_1) < 97) = true := decide_eq_true c6
         clear c6
         obtain rfl := Option.some.inj H
         have p5 : 0 ≤ (x6_1 : Int) := oD (by first | with_reducible assumption | assumption)
         have q5 : x6_1 < (a0.size : Int) := oD (by first | with_reducible assumption | assumption)
         have hx5 := bt_at a0 x6_1
         replace p5 := eq_true p5; replace q5 := eq_true q5
         go_wp2
         go_ret
         exact ⟨by first | rfl | (simp; done) | (simp [*]; done), by repeat (first | exact Drawn0.refl _ | apply Drawn0.step)⟩
       rw [if_neg c6] at H
       have c6b0 : decide ((bt a0 x6_1) < 97) = false := decide_eq_false c6
       clear c6
       by_cases c8 : (bt a0 x6_1) > 122
       · rw [if_pos c8] at H
         have c8b0 : decide (122 < (bt a0 x6_1)) = true := decide_eq_true c8
         clear c8
         obtain rfl := Option.some.inj H
         have p5 : 0 ≤ (x6_1 : Int) := oD (by first | with_reducible assumption | assumption)
         have q5 : x6_1 < (a0.size : Int) := oD (by first | with_reducible assumption | assumption)
         have hx5 := bt_at a0 x6_1
         replace p5 := eq_true p5; replace q5 := eq_true q5
         have p7 : 0 ≤ (x6_1 : Int) := oD (by first | with_reducible assumption | assumption)
         have q7 : x6_1 < (a0.size : Int) := oD (by first | with_reducible assumption | assumption)
         have hx7 := bt_at a0 x6_1
         replace p7 := eq_true p7; replace q7 := eq_true q7
         go_wp2
         go_ret
         exact ⟨by first | rfl | (simp; done) | (simp [*]; done), by repeat (first | exact Drawn0.refl _ | apply Drawn0.step)⟩
       rw [if_neg c8] at H
       have c8b0 : decide (122 < (bt a0 x6_1)) = false := decide_eq_false c8
       clear c8
       have H' := aM H
       clear H
       have p5 : 0 ≤ (x6_1 : Int) := oD (by first | with_reducible assumption | assumption)
       have q5 : x6_1 < (a0.size : Int) := oD (by first | with_reducible assumption | assumption)
       have hx5 := bt_at a0 x6_1
       replace p5 := eq_true p5; replace q5 := eq_true q5
       have p7 : 0 ≤ (x6_1 : Int) := oD (by first | with_reducible assumption | assumption)
       have q7 : x6_1 < (a0.size : Int) := oD (by first | with_reducible assumption | assumption)
       have hx7 := bt_at a0 x6_1
       replace p7 := eq_true p7; replace q7 := eq_true q7
       go_wp2
       go_roundg k1
       case measure => have := HK1.out; omega
       case rel => exact ⟨(wrap64 (x6_1 + 1)), (by first | rfl | (simp; done) | (simp [*]; done)), H', ⟨by have := HK1.out; omega⟩, by repeat (first | exact Drawn0.refl _ | apply Drawn0.step)⟩
     rw [if_neg c4] at H
     exact absurd H (by simp)
   rw [if_neg c3] at H
   exact absurd H (by simp)
 rw [if_neg c2] at H
 have c2b0 : decide (x6_1 < (a0.size : Int)) = false := decide_eq_false c2
 clear c2
 replace H := Option.bind_eq_some_iff.mp H
 obtain ⟨t224, A90, H⟩ := H
 replace H : (some t224) = some r := H
 have A9 := aM A90; clear A90
 obtain rfl := Option.some.inj H
 go_wp2_with (first | ((with_reducible refine gate_callee (f := 77) rfl ?_); refine goesL_ (some 22) rfl rfl Try.func77 (by kernel_rfl) rfl #[.int .i64 (a0.size : Int), .int .i64 1, .int .i64 6] rfl (by (try simp only [List.map_toArray, List.map_cons, List.map_nil]); first | done | rfl) ?_; (with_reducible refine (impl_in.calls (a0.size : Int) 1 6 t224 _ A9.out).mono ?_); rintro e w' ⟨rfl, ⟨nd, rfl⟩⟩; refine ⟨_, rfl, ?_⟩))
 go_ret
 exact ⟨by first | rfl | (simp; done) | (simp [*]; done), by repeat (first | exact Drawn0.refl _ | apply Drawn0.step)⟩
def impl_refers.f (a0 : Int) : Option (Bool) := (impl_in.f a0 3 5).bind fun t225 => (some t225)
set_option maxHeartbeats 8000000 in
set_option maxRecDepth 100000 in
theorem impl_refers.calls (a0 : Int) (r : Bool) (w : World) (h : impl_refers.f a0 = some r) :
    Calls Try.prog 73 #[.int .i64 a0] w fun e w' => e = .returned (.bool r) ∧ Drawn0 w w' := by
 have H : ((impl_in.f a0 3 5).bind fun t225 => (some t225)) = some r := h
 clear h
 replace H := Option.bind_eq_some_iff.mp H
 obtain ⟨t225, A20, H⟩ := H
 replace H : (some t225) = some r := H
 have A2 := aM A20; clear A20
 obtain rfl := Option.some.inj H
 go_enter Try.func73, Try.ntmps73
 go_wp2_with (first | ((with_reducible refine gate_callee (f := 77) rfl ?_); refine goesL_ (some 4) rfl rfl Try.func77 (by kernel_rfl) rfl #[.int .i64 a0, .int .i64 3, .int .i64 5] rfl (by (try simp only [List.map_toArray, List.map_cons, List.map_nil]); first | done | rfl) ?_; (with_reducible refine (impl_in.calls a0 3 5 t225 _ A2.out).mono ?_); rintro e w' ⟨rfl, ⟨nd, rfl⟩⟩; refine ⟨_, rfl, ?_⟩))
 go_ret
 exact ⟨by first | rfl | (simp; done) | (simp [*]; done), by repeat (first | exact Drawn0.refl _ | apply Drawn0.step)⟩
def impl_isNumber.f (a0 : Int) : Option (Bool) := (impl_in.f a0 (-1000) 1000).bind fun t226 => (some t226)
set_option maxHeartbeats 8000000 in
set_option maxRecDepth 100000 in
theorem impl_isNumber.calls (a0 : Int) (r : Bool) (w : World) (h : impl_isNumber.f a0 = some r) :
    Calls Try.prog 119 #[.int .i64 a0] w fun e w' => e = .returned (.bool r) ∧ Drawn0 w w' := by
 have H : ((impl_in.f a0 (-1000) 1000).bind fun t226 => (some t226)) = some r := h
 clear h
 replace H := Option.bind_eq_some_iff.mp H
 obtain ⟨t226, A20, H⟩ := H
 replace H : (some t226) = some r := H
 have A2 := aM A20; clear A20
 obtain rfl := Option.some.inj H
 go_enter Try.func119, Try.ntmps119
 go_wp2_with (first | ((with_reducible refine gate_callee (f := 77) rfl ?_); refine goesL_ (some 4) rfl rfl Try.func77 (by kernel_rfl) rfl #[.int .i64 a0, .int .i64 (-1000), .int .i64 1000] rfl (by (try simp only [List.map_toArray, List.map_cons, List.map_nil]); first | done | rfl) ?_; (with_reducible refine (impl_in.calls a0 (-1000) 1000 t226 _ A2.out).mono ?_); rintro e w' ⟨rfl, ⟨nd, rfl⟩⟩; refine ⟨_, rfl, ?_⟩))
 go_ret
 exact ⟨by first | rfl | (simp; done) | (simp [*]; done), by repeat (first | exact Drawn0.refl _ | apply Drawn0.step)⟩
def impl_InsOk.f (k : Nat) (a0_0 : Int) (a0_1 : Int) (a0_2 : ByteArray) : Option (Bool) := (impl_in.f a0_0 1 7).bind fun t228 => (if t228 = true then (if a0_1 = 0 then ((impl_NameOk.f k a0_2).bind fun t229 => (if t229 = true then ((impl_refers.f a0_0).bind fun t230 => (if t230 = true then (some true) else (if a0_2.toList = ([] : List UInt8) then (some (!t230)) else (some false)))) else (if a0_2.toList = ([] : List UInt8) then ((impl_refers.f a0_0).bind fun t231 => (some (!t231))) else (some false)))) else (if a0_0 = 2 then ((impl_isNumber.f a0_1).bind fun t232 => (if t232 = true then ((impl_NameOk.f k a0_2).bind fun t233 => (if t233 = true then ((impl_refers.f a0_0).bind fun t234 => (if t234 = true then (some true) else (if a0_2.toList = ([] : List UInt8) then (some (!t234)) else (some false)))) else (if a0_2.toList = ([] : List UInt8) then ((impl_refers.f a0_0).bind fun t235 => (some (!t235))) else (some false)))) else (some false))) else (some false))) else (some false))
set_option maxHeartbeats 8000000 in
set_option maxRecDepth 100000 in
theorem impl_InsOk.calls (k : Nat) (a0_0 : Int) (a0_1 : Int) (a0_2 : ByteArray) (r : Bool) (w : World) (h : impl_InsOk.f k a0_0 a0_1 a0_2 = some r) :
    Calls Try.prog 80 #[.agg #[.int .i64 a0_0, .int .i64 a0_1, .string a0_2]] w fun e w' => e = .returned (.bool r) ∧ Below w.heap.size w w' := by
 have hu38 := Try.underlying38
 have HB := aM (Below.refl w.heap.size w)
 have H : ((impl_in.f a0_0 1 7).bind fun t228 => (if t228 = true then (if a0_1 = 0 then ((impl_NameOk.f k a0_2).bind fun t229 => (if t229 = true then ((impl_refers.f a0_0).bind fun t230 => (if t230 = true then (some true) else (if a0_2.toList = ([] : List UInt8) then (some (!t230)) else (some false)))) else (if a0_2.toList = ([] : List UInt8) then ((impl_refers.f a0_0).bind fun t231 => (some (!t231))) else (some false)))) else (if a0_0 = 2 then ((impl_isNumber.f a0_1).bind fun t232 => (if t232 = true then ((impl_NameOk.f k a0_2).bind fun t233 => (if t233 = true then ((impl_refers.f a0_0).bind fun t234 => (if t234 = true then (some true) else (if a0_2.toList = ([] : List UInt8) then (some (!t234)) else (some false)))) else (if a0_2.toList = ([] : List UInt8) then ((impl_refers.f a0_0).bind fun t235 => (some (!t235))) else (some false)))) else (some false))) else (some false))) else (some false))) = some r := h
 clear h
 replace H := Option.bind_eq_some_iff.mp H
 obtain ⟨t228, A20, H⟩ := H
 replace H : (if t228 = true then (if a0_1 = 0 then ((impl_NameOk.f k a0_2).bind fun t229 => (if t229 = true then ((impl_refers.f a0_0).bind fun t230 => (if t230 = true then (some true) else (if a0_2.toList = ([] : List UInt8) then (some (!t230)) else (some false)))) else (if a0_2.toList = ([] : List UInt8) then ((impl_refers.f a0_0).bind fun t231 => (some (!t231))) else (some false)))) else (if a0_0 = 2 then ((impl_isNumber.f a0_1).bind fun t232 => (if t232 = true then ((impl_NameOk.f k a0_2).bind fun t233 => (if t233 = true then ((impl_refers.f a0_0).bind fun t234 => (if t234 = true then (some true) else (if a0_2.toList = ([] : List UInt8) then (some (!t234)) else (some false)))) else (if a0_2.toList = ([] : List UInt8) then ((impl_refers.f a0_0).bind fun t235 => (some (!t235))) else (some false)))) else (some false))) else (some false))) else (some false)) = some r := H
 have A2 := aM A20; clear A20
 by_cases c3 : t228 = true
 · subst c3
   have H1 : (if a0_1 = 0 then ((impl_NameOk.f k a0_2).bind fun t229 => (if t229 = true then ((impl_refers.f a0_0).bind fun t230 => (if t230 = true then (some true) else (if a0_2.toList = ([] : List UInt8) then (some (!t230)) else (some false)))) else (if a0_2.toList = ([] : List UInt8) then ((impl_refers.f a0_0).bind fun t231 => (some (!t231))) else (some false)))) else (if a0_0 = 2 then ((impl_isNumber.f a0_1).bind fun t232 => (if t232 = true then ((impl_NameOk.f k a0_2).bind fun t233 => (if t233 = true then ((impl_refers.f a0_0).bind fun t234 => (if t234 = true then (some true) else (if a0_2.toList = ([] : List UInt8) then (some (!t234)) else (some false)))) else (if a0_2.toList = ([] : List UInt8) then ((impl_refers.f a0_0).bind fun t235 => (some (!t235))) else (some false)))) else (some false))) else (some false))) = some r := by rw [if_pos rfl] at H; exact H
   clear H
   have H := H1
   clear H1
   by_cases c4 : a0_1 = 0
   · rw [if_pos c4] at H
     have c4b0 : (a0_1 == 0) = true := beq_iff_eq.mpr c4
     have c4b1 : (a0_1 != 0) = false := bne_eq_false_iff_eq.mpr c4
     clear c4
     replace H := Option.bind_eq_some_iff.mp H
     obtain ⟨t229, A50, H⟩ := H
     replace H : (if t229 = true then ((impl_refers.f a0_0).bind fun t230 => (if t230 = true then (some true) else (if a0_2.toList = ([] : List UInt8) then (some (!t230)) else (some false)))) else (if a0_2.toList = ([] : List UInt8) then ((impl_refers.f a0_0).bind fun t231 => (some (!t231))) else (some false))) = some r := H
     have A5 := aM A50; clear A50
     by_cases c6 : t229 = true
     · subst c6
       have H1 : ((impl_refers.f a0_0).bind fun t230 => (if t230 = true then (some true) else (if a0_2.toList = ([] : List UInt8) then (some (!t230)) else (some false)))) = some r := by rw [if_pos rfl] at H; exact H
       clear H
       have H := H1
       clear H1
       replace H := Option.bind_eq_some_iff.mp H
       obtain ⟨t230, A70, H⟩ := H
       replace H : (if t230 = true then (some true) else (if a0_2.toList = ([] : List UInt8) then (some (!t230)) else (some false))) = some r := H
       have A7 := aM A70; clear A70
       by_cases c8 : t230 = true
       · subst c8
         have H1 : (some true) = some r := by rw [if_pos rfl] at H; exact H
         clear H
         have H := H1
         clear H1
         obtain rfl := Option.some.inj H
         go_enter Try.func80, Try.ntmps80
         go_wp2_with (first | ((with_reducible refine gate_dst (N := 1) rfl ?_); refine box_event ?hg (N := 1) ?hd (cs := #[.int .i64 a0_0, .int .i64 a0_1, .string a0_2]) (t := 38) ?hr ?_; (case hd => rfl); (case hg => rfl); (case hr => first | (go_simp; done) | (go_simp; rfl)); intro gb227 hg w9 hbox hb; have n0_ := aM (below_step (by repeat (with_reducible first | exact HB.out | apply bA | apply bN | apply bD)) hb); have n1_ := aM (hbox); have n2_ := aM ((by rw [hg]; exact (below_size (by repeat (with_reducible first | exact HB.out | apply bA | apply bN | apply bD))) : w.heap.size ≤ gb227)); have n3_ := aM ((by rw [hg]; exact (below_size (by repeat (with_reducible first | exact HB.out | apply bA | apply bN | apply bD))) : w.heap.size ≤ gb227)); clear HB; have HB := n0_; have BK227 := n1_; have GW227 := n2_; have GE227 := n3_; clear n0_ n1_ n2_ n3_ hb hbox hg; have hcz10_0 : w9.cell? ⟨gb227, 0, none⟩ = some (.int .i64 a0_0) := (blk_cell BK227.out 0).trans rfl; have hcz10_1 : w9.cell? ⟨gb227, 1, none⟩ = some (.int .i64 a0_1) := (blk_cell BK227.out 1).trans rfl; have hcz10_2 : w9.cell? ⟨gb227, 2, none⟩ = some (.string a0_2) := (blk_cell BK227.out 2).trans rfl; have hfz10_0 := blk_frozen BK227.out 0; have hfz10_1 := blk_frozen BK227.out 1; have hfz10_2 := blk_frozen BK227.out 2) | ((with_reducible refine gate_callee (f := 77) rfl ?_); refine goesL_ (some 5) rfl rfl Try.func77 (by kernel_rfl) rfl #[.int .i64 a0_0, .int .i64 1, .int .i64 7] rfl (by (try simp only [List.map_toArray, List.map_cons, List.map_nil]); first | done | rfl) ?_; (with_reducible refine (impl_in.calls a0_0 1 7 true _ A2.out).mono ?_); rintro e w' ⟨rfl, ⟨nd, rfl⟩⟩; refine ⟨_, rfl, ?_⟩) | (go_at_call 76; (with_reducible refine (impl_NameOk.calls k a0_2 true _ A5.out).mono ?_); rintro e w' ⟨rfl, ⟨nd, rfl⟩⟩) | (go_at_call 73; (with_reducible refine (impl_refers.calls a0_0 true _ A7.out).mono ?_); rintro e w' ⟨rfl, ⟨nd, rfl⟩⟩))
         go_ret
         exact ⟨by first | rfl | (simp [*, errW_none, errW_some] <;> rfl), by repeat (with_reducible first | exact HB.out | apply bA | apply bN | apply bD | refine below_set ?_ GE227.out)⟩
       replace c8 := Bool.eq_false_iff.mpr c8
       subst c8
       have H1 : (if a0_2.toList = ([] : List UInt8) then (some (!false)) else (some false)) = some r := by rw [if_neg (show ¬ (false = true) by decide)] at H; exact H
       clear H
       have H := H1
       clear H1
       by_cases c11 : a0_2.toList = ([] : List UInt8)
       · rw [if_pos c11] at H
         have c11b0 : (a0_2.toList == ([] : List UInt8)) = true := beq_iff_eq.mpr c11
         have c11b1 : (a0_2.toList != ([] : List UInt8)) = false := bne_eq_false_iff_eq.mpr c11
         clear c11
         obtain rfl := Option.some.inj H
         go_enter Try.func80, Try.ntmps80
         go_wp2_with (first | ((with_reducible refine gate_dst (N := 1) rfl ?_); refine box_event ?hg (N := 1) ?hd (cs := #[.int .i64 a0_0, .int .i64 a0_1, .string a0_2]) (t := 38) ?hr ?_; (case hd => rfl); (case hg => rfl); (case hr => first | (go_simp; done) | (go_simp; rfl)); intro gb227 hg w12 hbox hb; have n0_ := aM (below_step (by repeat (with_reducible first | exact HB.out | apply bA | apply bN | apply bD)) hb); have n1_ := aM (hbox); have n2_ := aM ((by rw [hg]; exact (below_size (by repeat (with_reducible first | exact HB.out | apply bA | apply bN | apply bD))) : w.heap.size ≤ gb227)); have n3_ := aM ((by rw [hg]; exact (below_size (by repeat (with_reducible first | exact HB.out | apply bA | apply bN | apply bD))) : w.heap.size ≤ gb227)); clear HB; have HB := n0_; have BK227 := n1_; have GW227 := n2_; have GE227 := n3_; clear n0_ n1_ n2_ n3_ hb hbox hg; have hcz13_0 : w12.cell? ⟨gb227, 0, none⟩ = some (.int .i64 a0_0) := (blk_cell BK227.out 0).trans rfl; have hcz13_1 : w12.cell? ⟨gb227, 1, none⟩ = some (.int .i64 a0_1) := (blk_cell BK227.out 1).trans rfl; have hcz13_2 : w12.cell? ⟨gb227, 2, none⟩ = some (.string a0_2) := (blk_cell BK227.out 2).trans rfl; have hfz13_0 := blk_frozen BK227.out 0; have hfz13_1 := blk_frozen BK227.out 1; have hfz13_2 := blk_frozen BK227.out 2) | ((with_reducible refine gate_callee (f := 77) rfl ?_); refine goesL_ (some 5) rfl rfl Try.func77 (by kernel_rfl) rfl #[.int .i64 a0_0, .int .i64 1, .int .i64 7] rfl (by (try simp only [List.map_toArray, List.map_cons, List.map_nil]); first | done | rfl) ?_; (with_reducible refine (impl_in.calls a0_0 1 7 true _ A2.out).mono ?_); rintro e w' ⟨rfl, ⟨nd, rfl⟩⟩; refine ⟨_, rfl, ?_⟩) | (go_at_call 76; (with_reducible refine (impl_NameOk.calls k a0_2 true _ A5.out).mono ?_); rintro e w' ⟨rfl, ⟨nd, rfl⟩⟩) | (go_at_call 73; (with_reducible refine (impl_refers.calls a0_0 false _ A7.out).mono ?_); rintro e w' ⟨rfl, ⟨nd, rfl⟩⟩))
         go_ret
         exact ⟨by first | rfl | (simp [*, errW_none, errW_some] <;> rfl), by repeat (with_reducible first | exact HB.out | apply bA | apply bN | apply bD | refine below_set ?_ GE227.out)⟩
       rw [if_neg c11] at H
       have c11b0 : (a0_2.toList == ([] : List UInt8)) = false := beq_eq_false_iff_ne.mpr c11
       have c11b1 : (a0_2.toList != ([] : List UInt8)) = true := bne_iff_ne.mpr c11
       obtain rfl := Option.some.inj H
       go_enter Try.func80, Try.ntmps80
       go_wp2_with (first | ((with_reducible refine gate_dst (N := 1) rfl ?_); refine box_event ?hg (N := 1) ?hd (cs := #[.int .i64 a0_0, .int .i64 a0_1, .string a0_2]) (t := 38) ?hr ?_; (case hd => rfl); (case hg => rfl); (case hr => first | (go_simp; done) | (go_simp; rfl)); intro gb227 hg w14 hbox hb; have n0_ := aM (below_step (by repeat (with_reducible first | exact HB.out | apply bA | apply bN | apply bD)) hb); have n1_ := aM (hbox); have n2_ := aM ((by rw [hg]; exact (below_size (by repeat (with_reducible first | exact HB.out | apply bA | apply bN | apply bD))) : w.heap.size ≤ gb227)); have n3_ := aM ((by rw [hg]; exact (below_size (by repeat (with_reducible first | exact HB.out | apply bA | apply bN | apply bD))) : w.heap.size ≤ gb227)); clear HB; have HB := n0_; have BK227 := n1_; have GW227 := n2_; have GE227 := n3_; clear n0_ n1_ n2_ n3_ hb hbox hg; have hcz15_0 : w14.cell? ⟨gb227, 0, none⟩ = some (.int .i64 a0_0) := (blk_cell BK227.out 0).trans rfl; have hcz15_1 : w14.cell? ⟨gb227, 1, none⟩ = some (.int .i64 a0_1) := (blk_cell BK227.out 1).trans rfl; have hcz15_2 : w14.cell? ⟨gb227, 2, none⟩ = some (.string a0_2) := (blk_cell BK227.out 2).trans rfl; have hfz15_0 := blk_frozen BK227.out 0; have hfz15_1 := blk_frozen BK227.out 1; have hfz15_2 := blk_frozen BK227.out 2) | ((with_reducible refine gate_callee (f := 77) rfl ?_); refine goesL_ (some 5) rfl rfl Try.func77 (by kernel_rfl) rfl #[.int .i64 a0_0, .int .i64 1, .int .i64 7] rfl (by (try simp only [List.map_toArray, List.map_cons, List.map_nil]); first | done | rfl) ?_; (with_reducible refine (impl_in.calls a0_0 1 7 true _ A2.out).mono ?_); rintro e w' ⟨rfl, ⟨nd, rfl⟩⟩; refine ⟨_, rfl, ?_⟩) | (go_at_call 76; (with_reducible refine (impl_NameOk.calls k a0_2 true _ A5.out).mono ?_); rintro e w' ⟨rfl, ⟨nd, rfl⟩⟩) | (go_at_call 73; (with_reducible refine (impl_refers.calls a0_0 false _ A7.out).mono ?_); rintro e w' ⟨rfl, ⟨nd, rfl⟩⟩))
       go_ret
       exact ⟨by first | rfl | (simp [*, errW_none, errW_some] <;> rfl), by repeat (with_reducible first | exact HB.out | apply bA | apply bN | apply bD | refine below_set ?_ GE227.out)⟩
     replace c6 := Bool.eq_false_iff.mpr c6
     subst c6
     have H1 : (if a0_2.toList = ([] : List UInt8) then ((impl_refers.f a0_0).bind fun t231 => (some (!t231))) else (some false)) = some r := by rw [if_neg (show ¬ (false = true) by decide)] at H; exact H
     clear H
     have H := H1
     clear H1
     by_cases c16 : a0_2.toList = ([] : List UInt8)
     · rw [if_pos c16] at H
       have c16b0 : (a0_2.toList == ([] : List UInt8)) = true := beq_iff_eq.mpr c16
       have c16b1 : (a0_2.toList != ([] : List UInt8)) = false := bne_eq_false_iff_eq.mpr c16
       clear c16
       replace H := Option.bind_eq_some_iff.mp H
       obtain ⟨t231, A170, H⟩ := H
       replace H : (some (!t231)) = some r := H
       have A17 := aM A170; clear A170
       obtain rfl := Option.some.inj H
       go_enter Try.func80, Try.ntmps80
       go_wp2_with (first | ((with_reducible refine gate_dst (N := 1) rfl ?_); refine box_event ?hg (N := 1) ?hd (cs := #[.int .i64 a0_0, .int .i64 a0_1, .string a0_2]) (t := 38) ?hr ?_; (case hd => rfl); (case hg => rfl); (case hr => first | (go_simp; done) | (go_simp; rfl)); intro gb227 hg w18 hbox hb; have n0_ := aM (below_step (by repeat (with_reducible first | exact HB.out | apply bA | apply bN | apply bD)) hb); have n1_ := aM (hbox); have n2_ := aM ((by rw [hg]; exact (below_size (by repeat (with_reducible first | exact HB.out | apply bA | apply bN | apply bD))) : w.heap.size ≤ gb227)); have n3_ := aM ((by rw [hg]; exact (below_size (by repeat (with_reducible first | exact HB.out | apply bA | apply bN | apply bD))) : w.heap.size ≤ gb227)); clear HB; have HB := n0_; have BK227 := n1_; have GW227 := n2_; have GE227 := n3_; clear n0_ n1_ n2_ n3_ hb hbox hg; have hcz19_0 : w18.cell? ⟨gb227, 0, none⟩ = some (.int .i64 a0_0) := (blk_cell BK227.out 0).trans rfl; have hcz19_1 : w18.cell? ⟨gb227, 1, none⟩ = some (.int .i64 a0_1) := (blk_cell BK227.out 1).trans rfl; have hcz19_2 : w18.cell? ⟨gb227, 2, none⟩ = some (.string a0_2) := (blk_cell BK227.out 2).trans rfl; have hfz19_0 := blk_frozen BK227.out 0; have hfz19_1 := blk_frozen BK227.out 1; have hfz19_2 := blk_frozen BK227.out 2) | ((with_reducible refine gate_callee (f := 77) rfl ?_); refine goesL_ (some 5) rfl rfl Try.func77 (by kernel_rfl) rfl #[.int .i64 a0_0, .int .i64 1, .int .i64 7] rfl (by (try simp only [List.map_toArray, List.map_cons, List.map_nil]); first | done | rfl) ?_; (with_reducible refine (impl_in.calls a0_0 1 7 true _ A2.out).mono ?_); rintro e w' ⟨rfl, ⟨nd, rfl⟩⟩; refine ⟨_, rfl, ?_⟩) | (go_at_call 76; (with_reducible refine (impl_NameOk.calls k a0_2 false _ A5.out).mono ?_); rintro e w' ⟨rfl, ⟨nd, rfl⟩⟩) | (go_at_call 73; (with_reducible refine (impl_refers.calls a0_0 t231 _ A17.out).mono ?_); rintro e w' ⟨rfl, ⟨nd, rfl⟩⟩))
       go_ret
       exact ⟨by first | rfl | (simp [*, errW_none, errW_some] <;> rfl), by repeat (with_reducible first | exact HB.out | apply bA | apply bN | apply bD | refine below_set ?_ GE227.out)⟩
     rw [if_neg c16] at H
     have c16b0 : (a0_2.toList == ([] : List UInt8)) = false := beq_eq_false_iff_ne.mpr c16
     have c16b1 : (a0_2.toList != ([] : List UInt8)) = true := bne_iff_ne.mpr c16
     obtain rfl := Option.some.inj H
     go_enter Try.func80, Try.ntmps80
     go_wp2_with (first | ((with_reducible refine gate_dst (N := 1) rfl ?_); refine box_event ?hg (N := 1) ?hd (cs := #[.int .i64 a0_0, .int .i64 a0_1, .string a0_2]) (t := 38) ?hr ?_; (case hd => rfl); (case hg => rfl); (case hr => first | (go_simp; done) | (go_simp; rfl)); intro gb227 hg w20 hbox hb; have n0_ := aM (below_step (by repeat (with_reducible first | exact HB.out | apply bA | apply bN | apply bD)) hb); have n1_ := aM (hbox); have n2_ := aM ((by rw [hg]; exact (below_size (by repeat (with_reducible first | exact HB.out | apply bA | apply bN | apply bD))) : w.heap.size ≤ gb227)); have n3_ := aM ((by rw [hg]; exact (below_size (by repeat (with_reducible first | exact HB.out | apply bA | apply bN | apply bD))) : w.heap.size ≤ gb227)); clear HB; have HB := n0_; have BK227 := n1_; have GW227 := n2_; have GE227 := n3_; clear n0_ n1_ n2_ n3_ hb hbox hg; have hcz21_0 : w20.cell? ⟨gb227, 0, none⟩ = some (.int .i64 a0_0) := (blk_cell BK227.out 0).trans rfl; have hcz21_1 : w20.cell? ⟨gb227, 1, none⟩ = some (.int .i64 a0_1) := (blk_cell BK227.out 1).trans rfl; have hcz21_2 : w20.cell? ⟨gb227, 2, none⟩ = some (.string a0_2) := (blk_cell BK227.out 2).trans rfl; have hfz21_0 := blk_frozen BK227.out 0; have hfz21_1 := blk_frozen BK227.out 1; have hfz21_2 := blk_frozen BK227.out 2) | ((with_reducible refine gate_callee (f := 77) rfl ?_); refine goesL_ (some 5) rfl rfl Try.func77 (by kernel_rfl) rfl #[.int .i64 a0_0, .int .i64 1, .int .i64 7] rfl (by (try simp only [List.map_toArray, List.map_cons, List.map_nil]); first | done | rfl) ?_; (with_reducible refine (impl_in.calls a0_0 1 7 true _ A2.out).mono ?_); rintro e w' ⟨rfl, ⟨nd, rfl⟩⟩; refine ⟨_, rfl, ?_⟩) | (go_at_call 76; (with_reducible refine (impl_NameOk.calls k a0_2 false _ A5.out).mono ?_); rintro e w' ⟨rfl, ⟨nd, rfl⟩⟩))
     go_ret
     exact ⟨by first | rfl | (simp [*, errW_none, errW_some] <;> rfl), by repeat (with_reducible first | exact HB.out | apply bA | apply bN | apply bD | refine below_set ?_ GE227.out)⟩
   rw [if_neg c4] at H
   have c4b0 : (a0_1 == 0) = false := beq_eq_false_iff_ne.mpr c4
   have c4b1 : (a0_1 != 0) = true := bne_iff_ne.mpr c4
   by_cases c22 : a0_0 = 2
   · rw [if_pos c22] at H
     have c22b0 : (a0_0 == 2) = true := beq_iff_eq.mpr c22
     have c22b1 : (a0_0 != 2) = false := bne_eq_false_iff_eq.mpr c22
     clear c22
     replace H := Option.bind_eq_some_iff.mp H
     obtain ⟨t232, A230, H⟩ := H
     replace H : (if t232 = true then ((impl_NameOk.f k a0_2).bind fun t233 => (if t233 = true then ((impl_refers.f a0_0).bind fun t234 => (if t234 = true then (some true) else (if a0_2.toList = ([] : List UInt8) then (some (!t234)) else (some false)))) else (if a0_2.toList = ([] : List UInt8) then ((impl_refers.f a0_0).bind fun t235 => (some (!t235))) else (some false)))) else (some false)) = some r := H
     have A23 := aM A230; clear A230
     by_cases c24 : t232 = true
     · subst c24
       have H1 : ((impl_NameOk.f k a0_2).bind fun t233 => (if t233 = true then ((impl_refers.f a0_0).bind fun t234 => (if t234 = true then (some true) else (if a0_2.toList = ([] : List UInt8) then (some (!t234)) else (some false)))) else (if a0_2.toList = ([] : List UInt8) then ((impl_refers.f a0_0).bind fun t235 => (some (!t235))) else (some false)))) = some r := by rw [if_pos rfl] at H; exact H
       clear H
       have H := H1
       clear H1
       replace H := Option.bind_eq_some_iff.mp H
       obtain ⟨t233, A250, H⟩ := H
       replace H : (if t233 = true then ((impl_refers.f a0_0).bind fun t234 => (if t234 = true then (some true) else (if a0_2.toList = ([] : List UInt8) then (some (!t234)) else (some false)))) else (if a0_2.toList = ([] : List UInt8) then ((impl_refers.f a0_0).bind fun t235 => (some (!t235))) else (some false))) = some r := H
       have A25 := aM A250; clear A250
       by_cases c26 : t233 = true
       · subst c26
         have H1 : ((impl_refers.f a0_0).bind fun t234 => (if t234 = true then (some true) else (if a0_2.toList = ([] : List UInt8) then (some (!t234)) else (some false)))) = some r := by rw [if_pos rfl] at H; exact H
         clear H
         have H := H1
         clear H1
         replace H := Option.bind_eq_some_iff.mp H
         obtain ⟨t234, A270, H⟩ := H
         replace H : (if t234 = true then (some true) else (if a0_2.toList = ([] : List UInt8) then (some (!t234)) else (some false))) = some r := H
         have A27 := aM A270; clear A270
         by_cases c28 : t234 = true
         · subst c28
           have H1 : (some true) = some r := by rw [if_pos rfl] at H; exact H
           clear H
           have H := H1
           clear H1
           obtain rfl := Option.some.inj H
           go_enter Try.func80, Try.ntmps80
           go_wp2_with (first | ((with_reducible refine gate_dst (N := 1) rfl ?_); refine box_event ?hg (N := 1) ?hd (cs := #[.int .i64 a0_0, .int .i64 a0_1, .string a0_2]) (t := 38) ?hr ?_; (case hd => rfl); (case hg => rfl); (case hr => first | (go_simp; done) | (go_simp; rfl)); intro gb227 hg w29 hbox hb; have n0_ := aM (below_step (by repeat (with_reducible first | exact HB.out | apply bA | apply bN | apply bD)) hb); have n1_ := aM (hbox); have n2_ := aM ((by rw [hg]; exact (below_size (by repeat (with_reducible first | exact HB.out | apply bA | apply bN | apply bD))) : w.heap.size ≤ gb227)); have n3_ := aM ((by rw [hg]; exact (below_size (by repeat (with_reducible first | exact HB.out | apply bA | apply bN | apply bD))) : w.heap.size ≤ gb227)); clear HB; have HB := n0_; have BK227 := n1_; have GW227 := n2_; have GE227 := n3_; clear n0_ n1_ n2_ n3_ hb hbox hg; have hcz30_0 : w29.cell? ⟨gb227, 0, none⟩ = some (.int .i64 a0_0) := (blk_cell BK227.out 0).trans rfl; have hcz30_1 : w29.cell? ⟨gb227, 1, none⟩ = some (.int .i64 a0_1) := (blk_cell BK227.out 1).trans rfl; have hcz30_2 : w29.cell? ⟨gb227, 2, none⟩ = some (.string a0_2) := (blk_cell BK227.out 2).trans rfl; have hfz30_0 := blk_frozen BK227.out 0; have hfz30_1 := blk_frozen BK227.out 1; have hfz30_2 := blk_frozen BK227.out 2) | ((with_reducible refine gate_callee (f := 77) rfl ?_); refine goesL_ (some 5) rfl rfl Try.func77 (by kernel_rfl) rfl #[.int .i64 a0_0, .int .i64 1, .int .i64 7] rfl (by (try simp only [List.map_toArray, List.map_cons, List.map_nil]); first | done | rfl) ?_; (with_reducible refine (impl_in.calls a0_0 1 7 true _ A2.out).mono ?_); rintro e w' ⟨rfl, ⟨nd, rfl⟩⟩; refine ⟨_, rfl, ?_⟩) | (go_at_call 119; (with_reducible refine (impl_isNumber.calls a0_1 true _ A23.out).mono ?_); rintro e w' ⟨rfl, ⟨nd, rfl⟩⟩) | (go_at_call 76; (with_reducible refine (impl_NameOk.calls k a0_2 true _ A25.out).mono ?_); rintro e w' ⟨rfl, ⟨nd, rfl⟩⟩) | (go_at_call 73; (with_reducible refine (impl_refers.calls a0_0 true _ A27.out).mono ?_); rintro e w' ⟨rfl, ⟨nd, rfl⟩⟩))
           go_ret
           exact ⟨by first | rfl | (simp [*, errW_none, errW_some] <;> rfl), by repeat (with_reducible first | exact HB.out | apply bA | apply bN | apply bD | refine below_set ?_ GE227.out)⟩
         replace c28 := Bool.eq_false_iff.mpr c28
         subst c28
         have H1 : (if a0_2.toList = ([] : List UInt8) then (some (!false)) else (some false)) = some r := by rw [if_neg (show ¬ (false = true) by decide)] at H; exact H
         clear H
         have H := H1
         clear H1
         by_cases c31 : a0_2.toList = ([] : List UInt8)
         · rw [if_pos c31] at H
           have c31b0 : (a0_2.toList == ([] : List UInt8)) = true := beq_iff_eq.mpr c31
           have c31b1 : (a0_2.toList != ([] : List UInt8)) = false := bne_eq_false_iff_eq.mpr c31
           clear c31
           obtain rfl := Option.some.inj H
           go_enter Try.func80, Try.ntmps80
           go_wp2_with (first | ((with_reducible refine gate_dst (N := 1) rfl ?_); refine box_event ?hg (N := 1) ?hd (cs := #[.int .i64 a0_0, .int .i64 a0_1, .string a0_2]) (t := 38) ?hr ?_; (case hd => rfl); (case hg => rfl); (case hr => first | (go_simp; done) | (go_simp; rfl)); intro gb227 hg w32 hbox hb; have n0_ := aM (below_step (by repeat (with_reducible first | exact HB.out | apply bA | apply bN | apply bD)) hb); have n1_ := aM (hbox); have n2_ := aM ((by rw [hg]; exact (below_size (by repeat (with_reducible first | exact HB.out | apply bA | apply bN | apply bD))) : w.heap.size ≤ gb227)); have n3_ := aM ((by rw [hg]; exact (below_size (by repeat (with_reducible first | exact HB.out | apply bA | apply bN | apply bD))) : w.heap.size ≤ gb227)); clear HB; have HB := n0_; have BK227 := n1_; have GW227 := n2_; have GE227 := n3_; clear n0_ n1_ n2_ n3_ hb hbox hg; have hcz33_0 : w32.cell? ⟨gb227, 0, none⟩ = some (.int .i64 a0_0) := (blk_cell BK227.out 0).trans rfl; have hcz33_1 : w32.cell? ⟨gb227, 1, none⟩ = some (.int .i64 a0_1) := (blk_cell BK227.out 1).trans rfl; have hcz33_2 : w32.cell? ⟨gb227, 2, none⟩ = some (.string a0_2) := (blk_cell BK227.out 2).trans rfl; have hfz33_0 := blk_frozen BK227.out 0; have hfz33_1 := blk_frozen BK227.out 1; have hfz33_2 := blk_frozen BK227.out 2) | ((with_reducible refine gate_callee (f := 77) rfl ?_); refine goesL_ (some 5) rfl rfl Try.func77 (by kernel_rfl) rfl #[.int .i64 a0_0, .int .i64 1, .int .i64 7] rfl (by (try simp only [List.map_toArray, List.map_cons, List.map_nil]); first | done | rfl) ?_; (with_reducible refine (impl_in.calls a0_0 1 7 true _ A2.out).mono ?_); rintro e w' ⟨rfl, ⟨nd, rfl⟩⟩; refine ⟨_, rfl, ?_⟩) | (go_at_call 119; (with_reducible refine (impl_isNumber.calls a0_1 true _ A23.out).mono ?_); rintro e w' ⟨rfl, ⟨nd, rfl⟩⟩) | (go_at_call 76; (with_reducible refine (impl_NameOk.calls k a0_2 true _ A25.out).mono ?_); rintro e w' ⟨rfl, ⟨nd, rfl⟩⟩) | (go_at_call 73; (with_reducible refine (impl_refers.calls a0_0 false _ A27.out).mono ?_); rintro e w' ⟨rfl, ⟨nd, rfl⟩⟩))
           go_ret
           exact ⟨by first | rfl | (simp [*, errW_none, errW_some] <;> rfl), by repeat (with_reducible first | exact HB.out | apply bA | apply bN | apply bD | refine below_set ?_ GE227.out)⟩
         rw [if_neg c31] at H
         have c31b0 : (a0_2.toList == ([] : List UInt8)) = false := beq_eq_false_iff_ne.mpr c31
         have c31b1 : (a0_2.toList != ([] : List UInt8)) = true := bne_iff_ne.mpr c31
         obtain rfl := Option.some.inj H
         go_enter Try.func80, Try.ntmps80
         go_wp2_with (first | ((with_reducible refine gate_dst (N := 1) rfl ?_); refine box_event ?hg (N := 1) ?hd (cs := #[.int .i64 a0_0, .int .i64 a0_1, .string a0_2]) (t := 38) ?hr ?_; (case hd => rfl); (case hg => rfl); (case hr => first | (go_simp; done) | (go_simp; rfl)); intro gb227 hg w34 hbox hb; have n0_ := aM (below_step (by repeat (with_reducible first | exact HB.out | apply bA | apply bN | apply bD)) hb); have n1_ := aM (hbox); have n2_ := aM ((by rw [hg]; exact (below_size (by repeat (with_reducible first | exact HB.out | apply bA | apply bN | apply bD))) : w.heap.size ≤ gb227)); have n3_ := aM ((by rw [hg]; exact (below_size (by repeat (with_reducible first | exact HB.out | apply bA | apply bN | apply bD))) : w.heap.size ≤ gb227)); clear HB; have HB := n0_; have BK227 := n1_; have GW227 := n2_; have GE227 := n3_; clear n0_ n1_ n2_ n3_ hb hbox hg; have hcz35_0 : w34.cell? ⟨gb227, 0, none⟩ = some (.int .i64 a0_0) := (blk_cell BK227.out 0).trans rfl; have hcz35_1 : w34.cell? ⟨gb227, 1, none⟩ = some (.int .i64 a0_1) := (blk_cell BK227.out 1).trans rfl; have hcz35_2 : w34.cell? ⟨gb227, 2, none⟩ = some (.string a0_2) := (blk_cell BK227.out 2).trans rfl; have hfz35_0 := blk_frozen BK227.out 0; have hfz35_1 := blk_frozen BK227.out 1; have hfz35_2 := blk_frozen BK227.out 2) | ((with_reducible refine gate_callee (f := 77) rfl ?_); refine goesL_ (some 5) rfl rfl Try.func77 (by kernel_rfl) rfl #[.int .i64 a0_0, .int .i64 1, .int .i64 7] rfl (by (try simp only [List.map_toArray, List.map_cons, List.map_nil]); first | done | rfl) ?_; (with_reducible refine (impl_in.calls a0_0 1 7 true _ A2.out).mono ?_); rintro e w' ⟨rfl, ⟨nd, rfl⟩⟩; refine ⟨_, rfl, ?_⟩) | (go_at_call 119; (with_reducible refine (impl_isNumber.calls a0_1 true _ A23.out).mono ?_); rintro e w' ⟨rfl, ⟨nd, rfl⟩⟩) | (go_at_call 76; (with_reducible refine (impl_NameOk.calls k a0_2 true _ A25.out).mono ?_); rintro e w' ⟨rfl, ⟨nd, rfl⟩⟩) | (go_at_call 73; (with_reducible refine (impl_refers.calls a0_0 false _ A27.out).mono ?_); rintro e w' ⟨rfl, ⟨nd, rfl⟩⟩))
         go_ret
         exact ⟨by first | rfl | (simp [*, errW_none, errW_some] <;> rfl), by repeat (with_reducible first | exact HB.out | apply bA | apply bN | apply bD | refine below_set ?_ GE227.out)⟩
       replace c26 := Bool.eq_false_iff.mpr c26
       subst c26
       have H1 : (if a0_2.toList = ([] : List UInt8) then ((impl_refers.f a0_0).bind fun t235 => (some (!t235))) else (some false)) = some r := by rw [if_neg (show ¬ (false = true) by decide)] at H; exact H
       clear H
       have H := H1
       clear H1
       by_cases c36 : a0_2.toList = ([] : List UInt8)
       · rw [if_pos c36] at H
         have c36b0 : (a0_2.toList == ([] : List UInt8)) = true := beq_iff_eq.mpr c36
         have c36b1 : (a0_2.toList != ([] : List UInt8)) = false := bne_eq_false_iff_eq.mpr c36
         clear c36
         replace H := Option.bind_eq_some_iff.mp H
         obtain ⟨t235, A370, H⟩ := H
         replace H : (some (!t235)) = some r := H
         have A37 := aM A370; clear A370
         obtain rfl := Option.some.inj H
         go_enter Try.func80, Try.ntmps80
         go_wp2_with (first | ((with_reducible refine gate_dst (N := 1) rfl ?_); refine box_event ?hg (N := 1) ?hd (cs := #[.int .i64 a0_0, .int .i64 a0_1, .string a0_2]) (t := 38) ?hr ?_; (case hd => rfl); (case hg => rfl); (case hr => first | (go_simp; done) | (go_simp; rfl)); intro gb227 hg w38 hbox hb; have n0_ := aM (below_step (by repeat (with_reducible first | exact HB.out | apply bA | apply bN | apply bD)) hb); have n1_ := aM (hbox); have n2_ := aM ((by rw [hg]; exact (below_size (by repeat (with_reducible first | exact HB.out | apply bA | apply bN | apply bD))) : w.heap.size ≤ gb227)); have n3_ := aM ((by rw [hg]; exact (below_size (by repeat (with_reducible first | exact HB.out | apply bA | apply bN | apply bD))) : w.heap.size ≤ gb227)); clear HB; have HB := n0_; have BK227 := n1_; have GW227 := n2_; have GE227 := n3_; clear n0_ n1_ n2_ n3_ hb hbox hg; have hcz39_0 : w38.cell? ⟨gb227, 0, none⟩ = some (.int .i64 a0_0) := (blk_cell BK227.out 0).trans rfl; have hcz39_1 : w38.cell? ⟨gb227, 1, none⟩ = some (.int .i64 a0_1) := (blk_cell BK227.out 1).trans rfl; have hcz39_2 : w38.cell? ⟨gb227, 2, none⟩ = some (.string a0_2) := (blk_cell BK227.out 2).trans rfl; have hfz39_0 := blk_frozen BK227.out 0; have hfz39_1 := blk_frozen BK227.out 1; have hfz39_2 := blk_frozen BK227.out 2) | ((with_reducible refine gate_callee (f := 77) rfl ?_); refine goesL_ (some 5) rfl rfl Try.func77 (by kernel_rfl) rfl #[.int .i64 a0_0, .int .i64 1, .int .i64 7] rfl (by (try simp only [List.map_toArray, List.map_cons, List.map_nil]); first | done | rfl) ?_; (with_reducible refine (impl_in.calls a0_0 1 7 true _ A2.out).mono ?_); rintro e w' ⟨rfl, ⟨nd, rfl⟩⟩; refine ⟨_, rfl, ?_⟩) | (go_at_call 119; (with_reducible refine (impl_isNumber.calls a0_1 true _ A23.out).mono ?_); rintro e w' ⟨rfl, ⟨nd, rfl⟩⟩) | (go_at_call 76; (with_reducible refine (impl_NameOk.calls k a0_2 false _ A25.out).mono ?_); rintro e w' ⟨rfl, ⟨nd, rfl⟩⟩) | (go_at_call 73; (with_reducible refine (impl_refers.calls a0_0 t235 _ A37.out).mono ?_); rintro e w' ⟨rfl, ⟨nd, rfl⟩⟩))
         go_ret
         exact ⟨by first | rfl | (simp [*, errW_none, errW_some] <;> rfl), by repeat (with_reducible first | exact HB.out | apply bA | apply bN | apply bD | refine below_set ?_ GE227.out)⟩
       rw [if_neg c36] at H
       have c36b0 : (a0_2.toList == ([] : List UInt8)) = false := beq_eq_false_iff_ne.mpr c36
       have c36b1 : (a0_2.toList != ([] : List UInt8)) = true := bne_iff_ne.mpr c36
       obtain rfl := Option.some.inj H
       go_enter Try.func80, Try.ntmps80
       go_wp2_with (first | ((with_reducible refine gate_dst (N := 1) rfl ?_); refine box_event ?hg (N := 1) ?hd (cs := #[.int .i64 a0_0, .int .i64 a0_1, .string a0_2]) (t := 38) ?hr ?_; (case hd => rfl); (case hg => rfl); (case hr => first | (go_simp; done) | (go_simp; rfl)); intro gb227 hg w40 hbox hb; have n0_ := aM (below_step (by repeat (with_reducible first | exact HB.out | apply bA | apply bN | apply bD)) hb); have n1_ := aM (hbox); have n2_ := aM ((by rw [hg]; exact (below_size (by repeat (with_reducible first | exact HB.out | apply bA | apply bN | apply bD))) : w.heap.size ≤ gb227)); have n3_ := aM ((by rw [hg]; exact (below_size (by repeat (with_reducible first | exact HB.out | apply bA | apply bN | apply bD))) : w.heap.size ≤ gb227)); clear HB; have HB := n0_; have BK227 := n1_; have GW227 := n2_; have GE227 := n3_; clear n0_ n1_ n2_ n3_ hb hbox hg; have hcz41_0 : w40.cell? ⟨gb227, 0, none⟩ = some (.int .i64 a0_0) := (blk_cell BK227.out 0).trans rfl; have hcz41_1 : w40.cell? ⟨gb227, 1, none⟩ = some (.int .i64 a0_1) := (blk_cell BK227.out 1).trans rfl; have hcz41_2 : w40.cell? ⟨gb227, 2, none⟩ = some (.string a0_2) := (blk_cell BK227.out 2).trans rfl; have hfz41_0 := blk_frozen BK227.out 0; have hfz41_1 := blk_frozen BK227.out 1; have hfz41_2 := blk_frozen BK227.out 2) | ((with_reducible refine gate_callee (f := 77) rfl ?_); refine goesL_ (some 5) rfl rfl Try.func77 (by kernel_rfl) rfl #[.int .i64 a0_0, .int .i64 1, .int .i64 7] rfl (by (try simp only [List.map_toArray, List.map_cons, List.map_nil]); first | done | rfl) ?_; (with_reducible refine (impl_in.calls a0_0 1 7 true _ A2.out).mono ?_); rintro e w' ⟨rfl, ⟨nd, rfl⟩⟩; refine ⟨_, rfl, ?_⟩) | (go_at_call 119; (with_reducible refine (impl_isNumber.calls a0_1 true _ A23.out).mono ?_); rintro e w' ⟨rfl, ⟨nd, rfl⟩⟩) | (go_at_call 76; (with_reducible refine (impl_NameOk.calls k a0_2 false _ A25.out).mono ?_); rintro e w' ⟨rfl, ⟨nd, rfl⟩⟩))
       go_ret
       exact ⟨by first | rfl | (simp [*, errW_none, errW_some] <;> rfl), by repeat (with_reducible first | exact HB.out | apply bA | apply bN | apply bD | refine below_set ?_ GE227.out)⟩
     replace c24 := Bool.eq_false_iff.mpr c24
     subst c24
     have H1 : (some false) = some r := by rw [if_neg (show ¬ (false = true) by decide)] at H; exact H
     clear H
     have H := H1
     clear H1
     obtain rfl := Option.some.inj H
     go_enter Try.func80, Try.ntmps80
     go_wp2_with (first | ((with_reducible refine gate_dst (N := 1) rfl ?_); refine box_event ?hg (N := 1) ?hd (cs := #[.int .i64 a0_0, .int .i64 a0_1, .string a0_2]) (t := 38) ?hr ?_; (case hd => rfl); (case hg => rfl); (case hr => first | (go_simp; done) | (go_simp; rfl)); intro gb227 hg w42 hbox hb; have n0_ := aM (below_step (by repeat (with_reducible first | exact HB.out | apply bA | apply bN | apply bD)) hb); have n1_ := aM (hbox); have n2_ := aM ((by rw [hg]; exact (below_size (by repeat (with_reducible first | exact HB.out | apply bA | apply bN | apply bD))) : w.heap.size ≤ gb227)); have n3_ := aM ((by rw [hg]; exact (below_size (by repeat (with_reducible first | exact HB.out | apply bA | apply bN | apply bD))) : w.heap.size ≤ gb227)); clear HB; have HB := n0_; have BK227 := n1_; have GW227 := n2_; have GE227 := n3_; clear n0_ n1_ n2_ n3_ hb hbox hg; have hcz43_0 : w42.cell? ⟨gb227, 0, none⟩ = some (.int .i64 a0_0) := (blk_cell BK227.out 0).trans rfl; have hcz43_1 : w42.cell? ⟨gb227, 1, none⟩ = some (.int .i64 a0_1) := (blk_cell BK227.out 1).trans rfl; have hcz43_2 : w42.cell? ⟨gb227, 2, none⟩ = some (.string a0_2) := (blk_cell BK227.out 2).trans rfl; have hfz43_0 := blk_frozen BK227.out 0; have hfz43_1 := blk_frozen BK227.out 1; have hfz43_2 := blk_frozen BK227.out 2) | ((with_reducible refine gate_callee (f := 77) rfl ?_); refine goesL_ (some 5) rfl rfl Try.func77 (by kernel_rfl) rfl #[.int .i64 a0_0, .int .i64 1, .int .i64 7] rfl (by (try simp only [List.map_toArray, List.map_cons, List.map_nil]); first | done | rfl) ?_; (with_reducible refine (impl_in.calls a0_0 1 7 true _ A2.out).mono ?_); rintro e w' ⟨rfl, ⟨nd, rfl⟩⟩; refine ⟨_, rfl, ?_⟩) | (go_at_call 119; (with_reducible refine (impl_isNumber.calls a0_1 false _ A23.out).mono ?_); rintro e w' ⟨rfl, ⟨nd, rfl⟩⟩))
     go_ret
     exact ⟨by first | rfl | (simp [*, errW_none, errW_some] <;> rfl), by repeat (with_reducible first | exact HB.out | apply bA | apply bN | apply bD | refine below_set ?_ GE227.out)⟩
   rw [if_neg c22] at H
   have c22b0 : (a0_0 == 2) = false := beq_eq_false_iff_ne.mpr c22
   have c22b1 : (a0_0 != 2) = true := bne_iff_ne.mpr c22
   obtain rfl := Option.some.inj H
   go_enter Try.func80, Try.ntmps80
   go_wp2_with (first | ((with_reducible refine gate_dst (N := 1) rfl ?_); refine box_event ?hg (N := 1) ?hd (cs := #[.int .i64 a0_0, .int .i64 a0_1, .string a0_2]) (t := 38) ?hr ?_; (case hd => rfl); (case hg => rfl); (case hr => first | (go_simp; done) | (go_simp; rfl)); intro gb227 hg w44 hbox hb; have n0_ := aM (below_step (by repeat (with_reducible first | exact HB.out | apply bA | apply bN | apply bD)) hb); have n1_ := aM (hbox); have n2_ := aM ((by rw [hg]; exact (below_size (by repeat (with_reducible first | exact HB.out | apply bA | apply bN | apply bD))) : w.heap.size ≤ gb227)); have n3_ := aM ((by rw [hg]; exact (below_size (by repeat (with_reducible first | exact HB.out | apply bA | apply bN | apply bD))) : w.heap.size ≤ gb227)); clear HB; have HB := n0_; have BK227 := n1_; have GW227 := n2_; have GE227 := n3_; clear n0_ n1_ n2_ n3_ hb hbox hg; have hcz45_0 : w44.cell? ⟨gb227, 0, none⟩ = some (.int .i64 a0_0) := (blk_cell BK227.out 0).trans rfl; have hcz45_1 : w44.cell? ⟨gb227, 1, none⟩ = some (.int .i64 a0_1) := (blk_cell BK227.out 1).trans rfl; have hcz45_2 : w44.cell? ⟨gb227, 2, none⟩ = some (.string a0_2) := (blk_cell BK227.out 2).trans rfl; have hfz45_0 := blk_frozen BK227.out 0; have hfz45_1 := blk_frozen BK227.out 1; have hfz45_2 := blk_frozen BK227.out 2) | ((with_reducible refine gate_callee (f := 77) rfl ?_); refine goesL_ (some 5) rfl rfl Try.func77 (by kernel_rfl) rfl #[.int .i64 a0_0, .int .i64 1, .int .i64 7] rfl (by (try simp only [List.map_toArray, List.map_cons, List.map_nil]); first | done | rfl) ?_; (with_reducible refine (impl_in.calls a0_0 1 7 true _ A2.out).mono ?_); rintro e w' ⟨rfl, ⟨nd, rfl⟩⟩; refine ⟨_, rfl, ?_⟩))
   go_ret
   exact ⟨by first | rfl | (simp [*, errW_none, errW_some] <;> rfl), by repeat (with_reducible first | exact HB.out | apply bA | apply bN | apply bD | refine below_set ?_ GE227.out)⟩
 replace c3 := Bool.eq_false_iff.mpr c3
 subst c3
 have H1 : (some false) = some r := by rw [if_neg (show ¬ (false = true) by decide)] at H; exact H
 clear H
 have H := H1
 clear H1
 obtain rfl := Option.some.inj H
 go_enter Try.func80, Try.ntmps80
 go_wp2_with (first | ((with_reducible refine gate_dst (N := 1) rfl ?_); refine box_event ?hg (N := 1) ?hd (cs := #[.int .i64 a0_0, .int .i64 a0_1, .string a0_2]) (t := 38) ?hr ?_; (case hd => rfl); (case hg => rfl); (case hr => first | (go_simp; done) | (go_simp; rfl)); intro gb227 hg w46 hbox hb; have n0_ := aM (below_step (by repeat (with_reducible first | exact HB.out | apply bA | apply bN | apply bD)) hb); have n1_ := aM (hbox); have n2_ := aM ((by rw [hg]; exact (below_size (by repeat (with_reducible first | exact HB.out | apply bA | apply bN | apply bD))) : w.heap.size ≤ gb227)); have n3_ := aM ((by rw [hg]; exact (below_size (by repeat (with_reducible first | exact HB.out | apply bA | apply bN | apply bD))) : w.heap.size ≤ gb227)); clear HB; have HB := n0_; have BK227 := n1_; have GW227 := n2_; have GE227 := n3_; clear n0_ n1_ n2_ n3_ hb hbox hg; have hcz47_0 : w46.cell? ⟨gb227, 0, none⟩ = some (.int .i64 a0_0) := (blk_cell BK227.out 0).trans rfl; have hcz47_1 : w46.cell? ⟨gb227, 1, none⟩ = some (.int .i64 a0_1) := (blk_cell BK227.out 1).trans rfl; have hcz47_2 : w46.cell? ⟨gb227, 2, none⟩ = some (.string a0_2) := (blk_cell BK227.out 2).trans rfl; have hfz47_0 := blk_frozen BK227.out 0; have hfz47_1 := blk_frozen BK227.out 1; have hfz47_2 := blk_frozen BK227.out 2) | ((with_reducible refine gate_callee (f := 77) rfl ?_); refine goesL_ (some 5) rfl rfl Try.func77 (by kernel_rfl) rfl #[.int .i64 a0_0, .int .i64 1, .int .i64 7] rfl (by (try simp only [List.map_toArray, List.map_cons, List.map_nil]); first | done | rfl) ?_; (with_reducible refine (impl_in.calls a0_0 1 7 false _ A2.out).mono ?_); rintro e w' ⟨rfl, ⟨nd, rfl⟩⟩; refine ⟨_, rfl, ?_⟩))
 go_ret
 exact ⟨by first | rfl | (simp [*, errW_none, errW_some] <;> rfl), by repeat (with_reducible first | exact HB.out | apply bA | apply bN | apply bD | refine below_set ?_ GE227.out)⟩
end Go.Proofs.Ytpckkkcaffhhnaa.P
namespace Go.Proofs.Ytpckkkcaffhhnaa.L
open Go.RowKit Go.Proofs.YtpckkkcaffhhnaaW.PrintWords Go.Proofs.YtpckkkcaffhhnaaW.PrintLast Go.Proofs.YtpckkkcaffhhnaaW.PrintMore Go.Proofs.Ytpckkkcaffhhnaa.P
theorem wrap_id {n : Int} (h0 : -9223372036854775808 ≤ n) (h1 : n ≤ 9223372036854775807) : wrap64 n = n := by unfold wrap64; omega
theorem succ_of {k d : Nat} (h : d < k) : ∃ m, k = m + 1 ∧ d ≤ m := ⟨k - 1, by omega, by omega⟩
theorem xor_nonneg (a b : Int) (ha : 0 ≤ a) (ha' : a < 9223372036854775808) (hb : 0 ≤ b) (hb' : b < 9223372036854775808) :
    0 ≤ Go.bits .xor .i64 a b ∧ Go.bits .xor .i64 a b < 9223372036854775808 := by
  obtain ⟨x, rfl⟩ := Int.eq_ofNat_of_zero_le ha
  obtain ⟨y, rfl⟩ := Int.eq_ofNat_of_zero_le hb
  have hx : x < 2 ^ 63 := by have : (2 : Nat) ^ 63 = 9223372036854775808 := by decide
                             omega
  have hy : y < 2 ^ 63 := by have : (2 : Nat) ^ 63 = 9223372036854775808 := by decide
                             omega
  have hxy : x ^^^ y < 2 ^ 63 := Nat.xor_lt_two_pow hx hy
  have e1 : x % 2 ^ 64 = x := Nat.mod_eq_of_lt (by have : (2 : Nat) ^ 63 ≤ 2 ^ 64 := Nat.pow_le_pow_right (by decide) (by decide); omega)
  have e2 : y % 2 ^ 64 = y := Nat.mod_eq_of_lt (by have : (2 : Nat) ^ 63 ≤ 2 ^ 64 := Nat.pow_le_pow_right (by decide) (by decide); omega)
  have e : Go.bits .xor .i64 (x : Int) (y : Int) = ((x ^^^ y : Nat) : Int) := by
    have z : Go.bits .xor .i64 (x : Int) (y : Int) = IntKind.i64.wrap ((x ^^^ y : Nat) : Int) := by
      show IntKind.i64.wrap (((BitVec.ofInt 64 (x : Int) ^^^ BitVec.ofInt 64 (y : Int)).toNat : Nat) : Int) = _
      rw [BitVec.toNat_xor, BitVec.ofInt_natCast, BitVec.ofInt_natCast, BitVec.toNat_ofNat, BitVec.toNat_ofNat, e1, e2]
    rw [z, IntKind.wrap_i64]
    have : (2 : Nat) ^ 63 = 9223372036854775808 := by decide
    omega
  rw [e]
  have : (2 : Nat) ^ 63 = 9223372036854775808 := by decide
  omega
theorem tmod_small {a n : Int} (ha : 0 ≤ a) (hn : 1 ≤ n) : 0 ≤ Int.tmod a n ∧ Int.tmod a n < n :=
  ⟨Int.tmod_nonneg n ha, Int.tmod_lt_of_pos a (by omega)⟩
theorem tdiv_small {a n : Int} (ha : 0 ≤ a) (hn : 1 ≤ n) : 0 ≤ Int.tdiv a n ∧ Int.tdiv a n ≤ a := by
  rw [Int.tdiv_eq_ediv_of_nonneg ha]
  exact ⟨Int.ediv_nonneg ha (by omega), Int.ediv_le_self n ha⟩
theorem byte_lo {x : Int} (h : (Lit.int .u8 x).wf = true) : 0 ≤ x ∧ x ≤ 255 := by
  have h2 := h
  simp only [Lit.wf, IntKind.min, IntKind.max, IntKind.signed, IntKind.bits, Bool.and_eq_true, decide_eq_true_eq] at h2
  simp at h2
  omega
theorem rd_byte {l : List Int} (h : ∀ x ∈ l, (Lit.int .u8 x).wf = true) (i : Int) : 0 ≤ rd l i ∧ rd l i ≤ 255 := by
  unfold rd
  rw [List.getD_eq_getElem?_getD]
  by_cases hi : i.toNat < l.length
  · rw [List.getElem?_eq_getElem hi]
    exact byte_lo (h _ (List.getElem_mem hi))
  · rw [List.getElem?_eq_none (by omega)]
    decide
def idxFrom {α : Type} (p : α → Bool) : List α → Int → Int
  | [], _ => -1
  | x :: l, i => if p x = true then i else idxFrom p l (i + 1)
theorem idxFrom_hit {α : Type} (p : α → Bool) (d : α) : ∀ (l : List α) (j : Int) (n : Nat), n < l.length → (∀ i, i < n → p (l.getD i d) = false) → p (l.getD n d) = true → idxFrom p l j = j + n
  | [], _, n, h, _, _ => absurd h (by simp)
  | x :: l, j, 0, _, _, hp => by
    have : p x = true := hp
    simp [idxFrom, this]
  | x :: l, j, n + 1, h, ha, hp => by
    have h0 : p x = false := ha 0 (by omega)
    have ih := idxFrom_hit p d l (j + 1) n (by simpa using h) (fun i hi => ha (i + 1) (by omega)) hp
    simp only [idxFrom, h0, Bool.false_eq_true, if_false, ih]
    omega
theorem idxFrom_miss {α : Type} (p : α → Bool) (d : α) : ∀ (l : List α) (j : Int), (∀ i, i < l.length → p (l.getD i d) = false) → idxFrom p l j = -1
  | [], _, _ => rfl
  | x :: l, j, ha => by
    have h0 : p x = false := ha 0 (by simp)
    have ih := idxFrom_miss p d l (j + 1) (fun i hi => ha (i + 1) (by simpa using hi))
    simp only [idxFrom, h0, Bool.false_eq_true, if_false, ih]
theorem idxFrom_lo {α : Type} (p : α → Bool) : ∀ (l : List α) (j : Int), 0 ≤ j → -1 ≤ idxFrom p l j ∧ idxFrom p l j < j + l.length ∧ (0 ≤ idxFrom p l j → j ≤ idxFrom p l j)
  | [], j, h => ⟨by simp [idxFrom], by simp only [idxFrom, List.length_nil]; omega, fun h2 => by simp [idxFrom] at h2⟩
  | x :: l, j, h => by
    have ih := idxFrom_lo p l (j + 1) (by omega)
    simp only [idxFrom, List.length_cons]
    split
    · exact ⟨by omega, by omega, fun _ => Int.le_refl _⟩
    · exact ⟨ih.1, by omega, fun h2 => by have := ih.2.2 h2; omega⟩
theorem idxFrom_any {α : Type} (p : α → Bool) : ∀ (l : List α) (j : Int), 0 ≤ j → decide (0 ≤ idxFrom p l j) = l.any p
  | [], _, _ => by simp [idxFrom]
  | x :: l, j, h => by
    have ih := idxFrom_any p l (j + 1) (by omega)
    by_cases hx : p x = true
    · simp [idxFrom, hx, h]
    · simp only [idxFrom, List.any_cons, if_neg hx, Bool.eq_false_iff.mpr hx, Bool.false_or]
      exact ih
theorem getD_mem {α : Type} {l : List α} {d : α} {i : Nat} (h : i < l.length) : l.getD i d ∈ l := by
  rw [List.getD_eq_getElem?_getD, List.getElem?_eq_getElem h]
  exact List.getElem_mem _
def all2 {α β : Type} (q : α → β → Bool) : List α → List β → Bool
  | [], [] => true
  | x :: l, y :: m => q x y && all2 q l m
  | _, _ => false
theorem all2_len {α β : Type} (q : α → β → Bool) : ∀ (l : List α) (m : List β), l.length ≠ m.length → all2 q l m = false
  | [], [], h => absurd rfl h
  | [], _ :: _, _ => rfl
  | _ :: _, [], _ => rfl
  | x :: l, y :: m, h => by
    simp only [all2, all2_len q l m (fun e => h (by simp [e])), Bool.and_false]
theorem all2_true {α β : Type} (q : α → β → Bool) (d : α) (e : β) : ∀ (l : List α) (m : List β), l.length = m.length → (∀ i, i < l.length → q (l.getD i d) (m.getD i e) = true) → all2 q l m = true
  | [], [], _, _ => rfl
  | [], _ :: _, h, _ => absurd h (by simp)
  | _ :: _, [], h, _ => absurd h (by simp)
  | x :: l, y :: m, h, ha => by
    have h0 : q x y = true := ha 0 (by simp)
    have ih := all2_true q d e l m (by simpa using h) (fun i hi => ha (i + 1) (by simpa using hi))
    simp only [all2, h0, ih, Bool.and_self]
theorem all2_false {α β : Type} (q : α → β → Bool) (d : α) (e : β) : ∀ (l : List α) (m : List β) (n : Nat), n < l.length → n < m.length → q (l.getD n d) (m.getD n e) = false → all2 q l m = false
  | [], _, n, h, _, _ => absurd h (by simp)
  | _ :: _, [], n, _, h, _ => absurd h (by simp)
  | x :: l, y :: m, 0, _, _, hp => by
    have h0 : q x y = false := hp
    simp only [all2, h0, Bool.false_and]
  | x :: l, y :: m, n + 1, h, h2, hp => by
    have ih := all2_false q d e l m n (by simpa using h) (by simpa using h2) hp
    simp only [all2, ih, Bool.and_false]
theorem all2_refl {α : Type} (q : α → α → Bool) : ∀ (l : List α), (∀ x ∈ l, q x x = true) → all2 q l l = true
  | [], _ => rfl
  | x :: l, h => by simp only [all2, h x (by simp), all2_refl q l (fun y hy => h y (by simp [hy])), Bool.and_self]
theorem loop_all2 {α β : Type} (q : α → β → Bool) (d : α) (e : β) (l : List α) (m : List β) (hl : l.length = m.length) (hn : l.length ≤ 9223372036854775807) (L : Nat → Int → Option Bool) (K : Nat)
    (hT : ∀ (k i : Nat), K ≤ k → i < l.length → q (l.getD i d) (m.getD i e) = true → L (k + 1) (i : Int) = L k (wrap64 ((i : Int) + 1)))
    (hF : ∀ (k i : Nat), K ≤ k → i < l.length → q (l.getD i d) (m.getD i e) = false → L (k + 1) (i : Int) = some false)
    (hE : ∀ k, K ≤ k → L (k + 1) (l.length : Int) = some true) (k : Nat) (hk : K + l.length < k) : L k 0 = some (all2 q l m) := by
  have key : ∀ (n k i : Nat), i + n = l.length → K + n < k → (∀ j, j < i → q (l.getD j d) (m.getD j e) = true) → L k (i : Int) = some (all2 q l m) := by
    intro n
    induction n with
    | zero =>
      intro k i hi hk ha
      obtain ⟨k, rfl, _⟩ := succ_of hk
      have : i = l.length := by omega
      subst this
      rw [hE k (by omega), all2_true q d e l m hl ha]
    | succ n ih =>
      intro k i hi hk ha
      obtain ⟨k, rfl, _⟩ := succ_of hk
      cases hq : q (l.getD i d) (m.getD i e) with
      | false => rw [hF k i (by omega) (by omega) hq, all2_false q d e l m i (by omega) (by omega) hq]
      | true =>
        rw [hT k i (by omega) (by omega) hq, wrap_id (by omega) (by omega)]
        have h2 := ih k (i + 1) (by omega) (by omega) (fun j hj => by
          by_cases e : j = i
          · subst e; exact hq
          · exact ha j (by omega))
        rw [← h2]
        rfl
  exact key l.length k 0 (by omega) hk (fun j hj => absurd hj (by omega))
theorem take_succ_getD {α : Type} (l : List α) (d : α) (i : Nat) (h : i < l.length) : l.take (i + 1) = l.take i ++ [l.getD i d] := by
  rw [List.take_succ_eq_append_getElem h, List.getD_eq_getElem?_getD, List.getElem?_eq_getElem h]
  rfl
theorem drop_getD {α : Type} (l : List α) (d : α) (i : Nat) (h : i < l.length) : l.drop i = l.getD i d :: l.drop (i + 1) := by
  rw [List.drop_eq_getElem_cons h, List.getD_eq_getElem?_getD, List.getElem?_eq_getElem h]
  rfl
theorem loop_idx {α : Type} (p : α → Bool) (d : α) (l : List α) (hn : l.length ≤ 9223372036854775807) (L : Nat → Int → Option Int) (K : Nat)
    (hT : ∀ (k i : Nat), K ≤ k → i < l.length → p (l.getD i d) = true → L (k + 1) (i : Int) = some (i : Int))
    (hF : ∀ (k i : Nat), K ≤ k → i < l.length → p (l.getD i d) = false → L (k + 1) (i : Int) = L k (wrap64 ((i : Int) + 1)))
    (hE : ∀ k, K ≤ k → L (k + 1) (l.length : Int) = some (-1)) (k : Nat) (hk : K + l.length < k) : L k 0 = some (idxFrom p l 0) := by
  have key : ∀ (n k i : Nat), i + n = l.length → K + n < k → (∀ j, j < i → p (l.getD j d) = false) → L k (i : Int) = some (idxFrom p l 0) := by
    intro n
    induction n with
    | zero =>
      intro k i hi hk ha
      obtain ⟨k, rfl, _⟩ := succ_of hk
      have : i = l.length := by omega
      subst this
      rw [hE k (by omega), idxFrom_miss p d l 0 ha]
    | succ n ih =>
      intro k i hi hk ha
      obtain ⟨k, rfl, _⟩ := succ_of hk
      cases hq : p (l.getD i d) with
      | true =>
        rw [hT k i (by omega) (by omega) hq, idxFrom_hit p d l 0 i (by omega) ha hq]
        simp
      | false =>
        rw [hF k i (by omega) (by omega) hq, wrap_id (by omega) (by omega)]
        have h2 := ih k (i + 1) (by omega) (by omega) (fun j hj => by
          by_cases e : j = i
          · subst e; exact hq
          · exact ha j (by omega))
        rw [← h2]
        rfl
  exact key l.length k 0 (by omega) hk (fun j hj => absurd hj (by omega))
def allFrom {α : Type} (p : Nat → α → Bool) : List α → Nat → Bool
  | [], _ => true
  | x :: l, i => p i x && allFrom p l (i + 1)
theorem loop_all {α : Type} (p : Nat → α → Bool) (d : α) (l : List α) (e : Bool) (hn : l.length ≤ 9223372036854775807) (L : Nat → Int → Option Bool) (K : Nat)
    (hT : ∀ (k i : Nat), K ≤ k → i < l.length → p i (l.getD i d) = true → L (k + 1) (i : Int) = L k (wrap64 ((i : Int) + 1)))
    (hF : ∀ (k i : Nat), K ≤ k → i < l.length → p i (l.getD i d) = false → L (k + 1) (i : Int) = some false)
    (hE : ∀ k, K ≤ k → L (k + 1) (l.length : Int) = some e) (k : Nat) (hk : K + l.length < k) : L k 0 = some (allFrom p l 0 && e) := by
  have key : ∀ (n k i : Nat), i + n = l.length → K + n < k → L k (i : Int) = some (allFrom p (l.drop i) i && e) := by
    intro n
    induction n with
    | zero =>
      intro k i hi hk
      obtain ⟨k, rfl, _⟩ := succ_of hk
      have : i = l.length := by omega
      subst this
      rw [hE k (by omega), List.drop_length]
      rfl
    | succ n ih =>
      intro k i hi hk
      obtain ⟨k, rfl, _⟩ := succ_of hk
      rw [drop_getD l d i (by omega)]
      simp only [allFrom]
      cases hq : p i (l.getD i d) with
      | false => rw [hF k i (by omega) (by omega) hq]; rfl
      | true =>
        rw [hT k i (by omega) (by omega) hq, wrap_id (by omega) (by omega), Bool.true_and, ← ih k (i + 1) (by omega) (by omega)]
        rfl
  have h := key l.length k 0 (by omega) hk
  simpa using h
theorem allFrom_all {α : Type} (p : α → Bool) : ∀ (l : List α) (i : Nat), allFrom (fun _ x => p x) l i = l.all p
  | [], _ => rfl
  | x :: l, i => by simp only [allFrom, List.all_cons, allFrom_all p l (i + 1)]
theorem all_not_any {α : Type} (p : α → Bool) (l : List α) : (l.all p) = !(l.any fun x => !p x) := by
  induction l with
  | nil => rfl
  | cons x l ih => simp [ih, Bool.not_or]
end Go.Proofs.Ytpckkkcaffhhnaa.L
namespace Go.Proofs.Ytpckkkcaffhhnaa.P
open Go.RowKit Go.Proofs.YtpckkkcaffhhnaaW.PrintWords Go.Proofs.YtpckkkcaffhhnaaW.PrintLast Go.Proofs.YtpckkkcaffhhnaaW.PrintMore
attribute [local go_sem] max2_int min2_int max_two min_two max_three min_three max_four min_four
open Go.Proofs.Ytpckkkcaffhhnaa.L in
set_option maxHeartbeats 4000000 in
set_option maxRecDepth 100000 in
theorem idxIns_calls (A0 : Option Addr) (c0 : Nat) (l0 : List S38) (lb : Array Value) (p : S38 → Bool) (w : World) (hr0 : Kd.C k38 w A0 l0.length l0) (hc0 : l0.length ≤ c0)
    (hp : ∀ (W : World) (x : S38) , Below w.heap.size w W → x ∈ l0 → Calls Try.prog 79 ((#[.agg #[.int .i64 x.f0, .int .i64 x.f1, .string x.f2]] : Array Value) ++ lb) W fun e w' => e = .returned (.bool (p x)) ∧ Below W.heap.size W w') :
    Calls Try.prog 118 #[.slice A0 l0.length c0, .func (.func 79) #[] lb] w fun e w' => e = .returned (.int .i64 (idxFrom p l0 0)) ∧ Below w.heap.size w w' := by
  have HR0 := aM hr0
  have HN : l0.length ≤ 9223372036854775807 := hr0.2.1
  have HPP := aM hp
  clear hr0 hp
  go_enter Try.func118, Try.ntmps118
  go_wp2
  go_loopg [5, 8] l0.length (fun gg _ s8 wr => ∃ kk : Nat, s8 = .int .i64 kk ∧ Aside0 (kk ≤ l0.length) ∧ Aside0 (l0.length - kk ≤ gg) ∧ Aside0 (Below w.heap.size w wr) ∧ Aside0 (∀ i, i < kk → p (l0.getD i z38) = false))
  case atStart => exact ⟨0, rfl, ⟨Nat.zero_le _⟩, ⟨by omega⟩, ⟨Below.refl _ w⟩, ⟨fun i hi => absurd hi (Nat.not_lt_zero _)⟩⟩
  case round =>
    obtain ⟨kk, rfl, HK, HG, HB, HP⟩ := hrel
    by_cases hlt : kk < l0.length
    · obtain ⟨ad, e, hx0, hx1, hx2⟩ := at_T38 HR0.out kk (by omega) (by omega)
      cases e
      have hy0 := pw_cell_below HB.out hx0
      have hy1 := pw_cell_below HB.out hx1
      have hy2 := pw_cell_below HB.out hx2
      simp only [Int.toNat_natCast] at hy0 hy1 hy2
      have hcall := HPP.out wr (rd_T38 l0 (kk : Int)) HB.out (by show l0.getD (kk : Int).toNat z38 ∈ l0; rw [Int.toNat_natCast]; exact getD_mem hlt)
      clear hx0 hx1 hx2
      have hlb : decide (kk < l0.length) = true := decide_eq_true hlt
      have hli : decide ((kk : Int) < (l0.length : Int)) = true := decide_eq_true (by omega)
      have hq2 : p (rd_T38 l0 (kk : Int)) = p (l0.getD kk z38) := by show p (l0.getD (kk : Int).toNat z38) = _; rw [Int.toNat_natCast]
      rw [hq2] at hcall
      clear hq2
      cases hq : p (l0.getD kk z38) with
      | true =>
        rw [hq] at hcall
        have HQ := aM hq
        clear hq
        go_wp2_with (go_at_call 79; refine hcall.mono ?_; rintro e w' ⟨rfl, hb'⟩)
        go_ret
        refine ⟨?_, below_then HB.out HB.out.size hb'⟩
        rw [idxFrom_hit _ z38 l0 0 kk hlt HP.out HQ.out]
        simp
      | false =>
        rw [hq] at hcall
        have HQ := aM hq
        clear hq
        go_wp2_with (go_at_call 79; refine hcall.mono ?_; rintro e w' ⟨rfl, hb'⟩)
        go_roundg (l0.length - (kk + 1))
        case measure => have := HG.out; omega
        case rel =>
          refine ⟨kk + 1, by go_num, ⟨by omega⟩, ⟨Nat.le_refl _⟩, ⟨below_then HB.out HB.out.size hb'⟩, ⟨fun i hi => ?_⟩⟩
          by_cases e : i = kk
          · subst e
            exact HQ.out
          · exact HP.out i (by omega)
    · have hlb : decide (kk < l0.length) = false := decide_eq_false hlt
      have hli : decide ((kk : Int) < (l0.length : Int)) = false := decide_eq_false (by omega)
      go_wp2
      go_ret
      refine ⟨?_, HB.out⟩
      rw [idxFrom_miss _ z38 l0 0 (fun i hi => HP.out i (by have := HK.out; omega))]
      rfl
open Go.Proofs.Ytpckkkcaffhhnaa.L in
set_option maxHeartbeats 4000000 in
set_option maxRecDepth 100000 in
theorem anyIns_calls (A0 : Option Addr) (c0 : Nat) (l0 : List S38) (lb : Array Value) (p : S38 → Bool) (w : World) (hr0 : Kd.C k38 w A0 l0.length l0) (hc0 : l0.length ≤ c0)
    (hp : ∀ (W : World) (x : S38) , Below w.heap.size w W → x ∈ l0 → Calls Try.prog 79 ((#[.agg #[.int .i64 x.f0, .int .i64 x.f1, .string x.f2]] : Array Value) ++ lb) W fun e w' => e = .returned (.bool (p x)) ∧ Below W.heap.size W w') :
    Calls Try.prog 78 #[.slice A0 l0.length c0, .func (.func 79) #[] lb] w fun e w' => e = .returned (.bool (l0.any p)) ∧ Below w.heap.size w w' := by
  rw [← idxFrom_any p l0 0 (by decide)]
  have HC := aM (idxIns_calls A0 c0 l0 lb p w hr0 hc0 hp)
  clear hr0 hp
  go_enter Try.func78, Try.ntmps78
  go_wp2_with (go_at_call 118; refine HC.out.mono ?_; rintro e w' ⟨rfl, hb'⟩)
  go_ret
  exact ⟨rfl, hb'⟩
def impl_InsRefs.f (a0_0 : Int) (a0_1 : Int) (a0_2 : ByteArray) : Option (Bool) := (impl_refers.f a0_0).bind fun t285 => (some t285)
set_option maxHeartbeats 8000000 in
set_option maxRecDepth 100000 in
theorem impl_InsRefs.calls (a0_0 : Int) (a0_1 : Int) (a0_2 : ByteArray) (r : Bool) (w : World) (h : impl_InsRefs.f a0_0 a0_1 a0_2 = some r) :
    Calls Try.prog 23 #[.agg #[.int .i64 a0_0, .int .i64 a0_1, .string a0_2]] w fun e w' => e = .returned (.bool r) ∧ Below w.heap.size w w' := by
 have hu38 := Try.underlying38
 have HB := aM (Below.refl w.heap.size w)
 have H : ((impl_refers.f a0_0).bind fun t285 => (some t285)) = some r := h
 clear h
 replace H := Option.bind_eq_some_iff.mp H
 obtain ⟨t285, A20, H⟩ := H
 replace H : (some t285) = some r := H
 have A2 := aM A20; clear A20
 obtain rfl := Option.some.inj H
 go_enter Try.func23, Try.ntmps23
 go_wp2_with (first | ((with_reducible refine gate_dst (N := 1) rfl ?_); refine box_event ?hg (N := 1) ?hd (cs := #[.int .i64 a0_0, .int .i64 a0_1, .string a0_2]) (t := 38) ?hr ?_; (case hd => rfl); (case hg => rfl); (case hr => first | (go_simp; done) | (go_simp; rfl)); intro gb284 hg w3 hbox hb; have n0_ := aM (below_step (by repeat (with_reducible first | exact HB.out | apply bA | apply bN | apply bD)) hb); have n1_ := aM (hbox); have n2_ := aM ((by rw [hg]; exact (below_size (by repeat (with_reducible first | exact HB.out | apply bA | apply bN | apply bD))) : w.heap.size ≤ gb284)); have n3_ := aM ((by rw [hg]; exact (below_size (by repeat (with_reducible first | exact HB.out | apply bA | apply bN | apply bD))) : w.heap.size ≤ gb284)); clear HB; have HB := n0_; have BK284 := n1_; have GW284 := n2_; have GE284 := n3_; clear n0_ n1_ n2_ n3_ hb hbox hg; have hcz4_0 : w3.cell? ⟨gb284, 0, none⟩ = some (.int .i64 a0_0) := (blk_cell BK284.out 0).trans rfl; have hcz4_1 : w3.cell? ⟨gb284, 1, none⟩ = some (.int .i64 a0_1) := (blk_cell BK284.out 1).trans rfl; have hcz4_2 : w3.cell? ⟨gb284, 2, none⟩ = some (.string a0_2) := (blk_cell BK284.out 2).trans rfl; have hfz4_0 := blk_frozen BK284.out 0; have hfz4_1 := blk_frozen BK284.out 1; have hfz4_2 := blk_frozen BK284.out 2) | ((with_reducible refine gate_callee (f := 73) rfl ?_); refine goesL_ (some 5) rfl rfl Try.func73 (by kernel_rfl) rfl #[.int .i64 a0_0] rfl (by (try simp only [List.map_toArray, List.map_cons, List.map_nil]); first | done | rfl) ?_; (with_reducible refine (impl_refers.calls a0_0 t285 _ A2.out).mono ?_); rintro e w' ⟨rfl, ⟨nd, rfl⟩⟩; refine ⟨_, rfl, ?_⟩))
 go_ret
 exact ⟨by first | rfl | (simp [*, errW_none, errW_some] <;> rfl), by repeat (with_reducible first | exact HB.out | apply bA | apply bN | apply bD | refine below_set ?_ GE284.out)⟩
def slices_Index_sstring_string.l0 : Nat → List ByteArray → ByteArray → Int → Int → Option (Int)
  | 0, _, _, _, _ => none
  | k + 1, x0, x1, x7, x8 => if x8 < x7 then (if 0 ≤ x8 then (if x8 < (x0.length : Int) then (if x1.toList = (rdOf ByteArray.empty x0 x8).toList then (some x8) else (slices_Index_sstring_string.l0 k x0 x1 x7 (wrap64 (x8 + 1)))) else (none)) else (none)) else (some (-1))
def slices_Index_sstring_string.f (k : Nat) (l0 : List ByteArray) (a1 : ByteArray) : Option (Int) := slices_Index_sstring_string.l0 k l0 a1 (l0.length : Int) 0
set_option maxHeartbeats 8000000 in
set_option maxRecDepth 100000 in
theorem slices_Index_sstring_string.calls (k : Nat) (A0 : Option Addr) (c0 : Nat) (l0 : List ByteArray) (a1 : ByteArray) (r : Int) (w : World) (hr0 : Kd.C Kd.string w A0 l0.length l0) (hc0 : l0.length ≤ c0) (h : slices_Index_sstring_string.f k l0 a1 = some r) :
    Calls Try.prog 140 #[.slice A0 l0.length c0, .string a1] w fun e w' => e = .returned (.int .i64 r) ∧ Drawn0 w w' := by
 have HR0 := aM hr0; have HC0 := aM hc0; clear hr0 hc0
 have H : (slices_Index_sstring_string.l0 k l0 a1 (l0.length : Int) 0) = some r := h
 clear h
 have H' := aM H
 clear H
 go_enter Try.func140, Try.ntmps140
 go_wp2
 go_loopg [8] k (fun kq v8 w' => ∃ (x8_1 : Int), v8 = .int .i64 x8_1 ∧ Aside0 (slices_Index_sstring_string.l0 kq l0 a1 (l0.length : Int) x8_1 = some r) ∧ Aside0 (kq ≤ k) ∧ Drawn0 w w')
 case atStart => exact ⟨(0), (by first | rfl | (simp; done) | (simp [*]; done)), H', ⟨Nat.le_refl _⟩, by repeat (first | exact Drawn0.refl _ | apply Drawn0.step)⟩
 clear H'
 try clear c1; try clear p2
 obtain ⟨x8_1, rfl, HA, HK1, ⟨m1, rfl⟩⟩ := hrel
 obtain _ | k1 := gk
 · exact absurd HA.out (by simp [slices_Index_sstring_string.l0])
 have H := HA.out
 clear HA
 simp only [slices_Index_sstring_string.l0] at H
 by_cases c3 : x8_1 < (l0.length : Int)
 · rw [if_pos c3] at H
   have c3b0 : decide (x8_1 < (l0.length : Int)) = true := decide_eq_true c3
   clear c3
   by_cases c4 : 0 ≤ x8_1
   · rw [if_pos c4] at H
     have c4b0 : decide (0 ≤ x8_1) = true := decide_eq_true c4
     clear c4
     by_cases c5 : x8_1 < (l0.length : Int)
     · rw [if_pos c5] at H
       have c5b0 : decide (x8_1 < (l0.length : Int)) = true := decide_eq_true c5
       clear c5
       by_cases c6 : a1.toList = (rdOf ByteArray.empty l0 x8_1).toList
       · rw [if_pos c6] at H
         have c6b0 : (a1.toList == (rdOf ByteArray.empty l0 x8_1).toList) = true := beq_iff_eq.mpr c6
         have c6b1 : (a1.toList != (rdOf ByteArray.empty l0 x8_1).toList) = false := bne_eq_false_iff_eq.mpr c6
         clear c6
         obtain rfl := Option.some.inj H
         have p286 : 0 ≤ (x8_1 : Int) := oD (by first | with_reducible assumption | assumption)
         have q286 : x8_1 < (l0.length : Int) := oD (by first | with_reducible assumption | assumption)
         obtain ⟨ad286, e286, hx286_0⟩ := Kd.at_string HR0.out x8_1 p286 q286
         cases e286
         replace p286 := eq_true p286; replace q286 := eq_true q286
         go_wp2
         go_ret
         exact ⟨by first | rfl | (simp; done) | (simp [*]; done), by repeat (first | exact Drawn0.refl _ | apply Drawn0.step)⟩
       rw [if_neg c6] at H
       have c6b0 : (a1.toList == (rdOf ByteArray.empty l0 x8_1).toList) = false := beq_eq_false_iff_ne.mpr c6
       have c6b1 : (a1.toList != (rdOf ByteArray.empty l0 x8_1).toList) = true := bne_iff_ne.mpr c6
       have H' := aM H
       clear H
       have p286 : 0 ≤ (x8_1 : Int) := oD (by first | with_reducible assumption | assumption)
       have q286 : x8_1 < (l0.length : Int) := oD (by first | with_reducible assumption | assumption)
       obtain ⟨ad286, e286, hx286_0⟩ := Kd.at_string HR0.out x8_1 p286 q286
       cases e286
       replace p286 := eq_true p286; replace q286 := eq_true q286
       go_wp2
       go_roundg k1
       case measure => have := HK1.out; omega
       case rel => exact ⟨(wrap64 (x8_1 + 1)), (by first | rfl | (simp; done) | (simp [*]; done)), H', ⟨by have := HK1.out; omega⟩, by repeat (first | exact Drawn0.refl _ | apply Drawn0.step)⟩
     rw [if_neg c5] at H
     exact absurd H (by simp)
   rw [if_neg c4] at H
   exact absurd H (by simp)
 rw [if_neg c3] at H
 have c3b0 : decide (x8_1 < (l0.length : Int)) = false := decide_eq_false c3
 clear c3
 obtain rfl := Option.some.inj H
 go_wp2
 go_ret
 exact ⟨by first | rfl | (simp; done) | (simp [*]; done), by repeat (first | exact Drawn0.refl _ | apply Drawn0.step)⟩
def slices_Contains_sstring_string.f (k : Nat) (l0 : List ByteArray) (a1 : ByteArray) : Option (Bool) := (slices_Index_sstring_string.f k l0 a1).bind fun t287 => (some (decide (t287 ≥ 0)))
set_option maxHeartbeats 8000000 in
set_option maxRecDepth 100000 in
theorem slices_Contains_sstring_string.calls (k : Nat) (A0 : Option Addr) (c0 : Nat) (l0 : List ByteArray) (a1 : ByteArray) (r : Bool) (w : World) (hr0 : Kd.C Kd.string w A0 l0.length l0) (hc0 : l0.length ≤ c0) (h : slices_Contains_sstring_string.f k l0 a1 = some r) :
    Calls Try.prog 115 #[.slice A0 l0.length c0, .string a1] w fun e w' => e = .returned (.bool r) ∧ Drawn0 w w' := by
 have HR0 := aM hr0; have HC0 := aM hc0; clear hr0 hc0
 have H : ((slices_Index_sstring_string.f k l0 a1).bind fun t287 => (some (decide (t287 ≥ 0)))) = some r := h
 clear h
 replace H := Option.bind_eq_some_iff.mp H
 obtain ⟨t287, A30, H⟩ := H
 replace H : (some (decide (t287 ≥ 0))) = some r := H
 have A3 := aM A30; clear A30
 obtain rfl := Option.some.inj H
 go_enter Try.func115, Try.ntmps115
 go_wp2_with (first | ((with_reducible refine gate_callee (f := 140) rfl ?_); refine goesL_ (some 7) rfl rfl Try.func140 (by kernel_rfl) rfl #[.slice A0 l0.length c0, .string a1] rfl (by (try simp only [List.map_toArray, List.map_cons, List.map_nil]); first | done | rfl) ?_; (with_reducible refine (slices_Index_sstring_string.calls k _ _ l0 a1 t287 _ ?side1 ?side2 A3.out).mono ?_); (case side1 => repeat (first | exact HR0.out | (with_reducible first | refine Ca ?_ _ | refine Cn ?_ _ | refine Cd ?_))); (case side2 => exact HC0.out); rintro e w' ⟨rfl, ⟨nd, rfl⟩⟩; refine ⟨_, rfl, ?_⟩))
 go_ret
 exact ⟨by first | rfl | (simp; done) | (simp [*]; done), by repeat (first | exact Drawn0.refl _ | apply Drawn0.step)⟩
def impl_Fun_refs.l0 : Nat → List ByteArray → List (S38) → Int → Int → Option (List ByteArray)
  | 0, _, _, _, _ => none
  | k + 1, x3, x7, x8, x9 => if x9 < x8 then (if 0 ≤ x9 then (if x9 < (x7.length : Int) then ((impl_InsRefs.f ((rd_T38 x7 x9).f0) ((rd_T38 x7 x9).f1) ((rd_T38 x7 x9).f2)).bind fun t291 => (if t291 = true then ((slices_Contains_sstring_string.f k x3 ((rd_T38 x7 x9).f2)).bind fun t292 => (if t292 = true then (impl_Fun_refs.l0 k x3 x7 x8 (wrap64 (x9 + 1))) else (if x3.length < 8796093022208 then (impl_Fun_refs.l0 k (x3 ++ [(rd_T38 x7 x9).f2]) x7 x8 (wrap64 (x9 + 1))) else (none)))) else (impl_Fun_refs.l0 k x3 x7 x8 (wrap64 (x9 + 1))))) else (none)) else (none)) else (some x3)
def impl_Fun_refs.f (k : Nat) (a0_0 : ByteArray) (a0_1 : Bool) (l0_2 : List (S38)) : Option (List ByteArray) := impl_Fun_refs.l0 k ([] : List ByteArray) l0_2 (l0_2.length : Int) 0
set_option maxHeartbeats 8000000 in
set_option maxRecDepth 100000 in
theorem impl_Fun_refs.calls (k : Nat) (a0_0 : ByteArray) (a0_1 : Bool) (A0_2 : Option Addr) (c0_2 : Nat) (l0_2 : List (S38)) (r : List ByteArray) (w : World) (hr0_2 : Kd.C k38 w A0_2 l0_2.length l0_2) (hc0_2 : l0_2.length ≤ c0_2) (h : impl_Fun_refs.f k a0_0 a0_1 l0_2 = some r) :
    Calls Try.prog 68 #[.agg #[.string a0_0, .bool a0_1, .slice A0_2 l0_2.length c0_2]] w fun e w' => ∃ v0_ : Value, e = .returned (v0_) ∧ Kd.R Kd.string 9 w' w.heap.size (fun _ => True) v0_ r ∧ Below w.heap.size w w' := by
 have hu30 := Try.underlying30
 have hu38 := Try.underlying38
 have HR0_2 := aM hr0_2; have HC0_2 := aM hc0_2; clear hr0_2 hc0_2
 have HB := aM (Below.refl w.heap.size w)
 have H : (impl_Fun_refs.l0 k ([] : List ByteArray) l0_2 (l0_2.length : Int) 0) = some r := h
 clear h
 have H' := aM H
 clear H
 go_enter Try.func68, Try.ntmps68
 go_wp2_with (first | ((with_reducible refine gate_dst (N := 1) rfl ?_); refine box_event ?hg (N := 1) ?hd (cs := #[.string a0_0, .bool a0_1, .slice A0_2 l0_2.length c0_2]) (t := 30) ?hr ?_; (case hd => rfl); (case hg => rfl); (case hr => first | (go_simp; done) | (go_simp; rfl)); intro gb288 hg w2 hbox hb; have n0_ := aM (below_step (by repeat (with_reducible first | exact HB.out | apply bA | apply bN | apply bD)) hb); have n1_ := aM (hbox); have n2_ := aM ((by rw [hg]; exact (below_size (by repeat (with_reducible first | exact HB.out | apply bA | apply bN | apply bD))) : w.heap.size ≤ gb288)); have n3_ := aM ((by rw [hg]; exact (below_size (by repeat (with_reducible first | exact HB.out | apply bA | apply bN | apply bD))) : w.heap.size ≤ gb288)); clear HB; have HB := n0_; have BK288 := n1_; have GW288 := n2_; have GE288 := n3_; clear n0_ n1_ n2_ n3_ hb hbox hg; have hcz3_0 : w2.cell? ⟨gb288, 0, none⟩ = some (.string a0_0) := (blk_cell BK288.out 0).trans rfl; have hcz3_1 : w2.cell? ⟨gb288, 1, none⟩ = some (.bool a0_1) := (blk_cell BK288.out 1).trans rfl; have hcz3_2 : w2.cell? ⟨gb288, 2, none⟩ = some (.slice A0_2 l0_2.length c0_2) := (blk_cell BK288.out 2).trans rfl; have hfz3_0 := blk_frozen BK288.out 0; have hfz3_1 := blk_frozen BK288.out 1; have hfz3_2 := blk_frozen BK288.out 2))
 go_loopg [3, 9] k (fun kq v3 v9 w' => ∃ (x3_1 : List ByteArray) (x9_1 : Int), v9 = .int .i64 x9_1 ∧ Aside0 (impl_Fun_refs.l0 kq x3_1 l0_2 (l0_2.length : Int) x9_1 = some r) ∧ Aside0 (kq ≤ k) ∧ Aside0 (Kd.R Kd.string 9 w' w.heap.size (fun _ => True) v3 x3_1) ∧ Aside0 (w'.heap[gb288]? = some (.cells #[.string a0_0, .bool a0_1, (.slice A0_2 l0_2.length c0_2)] 30 (0, 0))) ∧ Aside0 (Below w.heap.size w w'))
 case atStart => exact ⟨(([] : List ByteArray)), (0), (by first | rfl | (simp; done) | (simp [*]; done)), H', ⟨Nat.le_refl _⟩, ⟨by first | exact Kd.R_nil _ _ _ _ _ | exact Kd.N_nil _ _ _ _ _ | exact Kd.V_nil _ _ _ _ _ | exact Kd.Q_nil _ _ _ _ _ | exact Kd.S_nil _ _ _ _ _⟩, ⟨by exact BK288.out⟩, ⟨by repeat (with_reducible first | exact HB.out | apply bA | apply bN | apply bD | refine below_set ?_ GE288.out)⟩⟩
 clear H'
 try clear p2; try clear hcz3_0; try clear hcz3_1; try clear hcz3_2; try clear hfz3_0; try clear hfz3_1; try clear hfz3_2
 obtain ⟨x3_1, x9_1, rfl, HA, HK1, HO_3, BK288, HB⟩ := hrel
 obtain _ | k1 := gk
 · exact absurd HA.out (by simp [impl_Fun_refs.l0])
 have H := HA.out
 clear HA
 simp only [impl_Fun_refs.l0] at H
 by_cases c4 : x9_1 < (l0_2.length : Int)
 · rw [if_pos c4] at H
   have c4b0 : decide (x9_1 < (l0_2.length : Int)) = true := decide_eq_true c4
   clear c4
   by_cases c5 : 0 ≤ x9_1
   · rw [if_pos c5] at H
     have c5b0 : decide (0 ≤ x9_1) = true := decide_eq_true c5
     clear c5
     by_cases c6 : x9_1 < (l0_2.length : Int)
     · rw [if_pos c6] at H
       have c6b0 : decide (x9_1 < (l0_2.length : Int)) = true := decide_eq_true c6
       clear c6
       replace H := Option.bind_eq_some_iff.mp H
       obtain ⟨t291, A70, H⟩ := H
       replace H : (if t291 = true then ((slices_Contains_sstring_string.f k1 x3_1 ((rd_T38 l0_2 x9_1).f2)).bind fun t292 => (if t292 = true then (impl_Fun_refs.l0 k1 x3_1 l0_2 (l0_2.length : Int) (wrap64 (x9_1 + 1))) else (if x3_1.length < 8796093022208 then (impl_Fun_refs.l0 k1 (x3_1 ++ [(rd_T38 l0_2 x9_1).f2]) l0_2 (l0_2.length : Int) (wrap64 (x9_1 + 1))) else (none)))) else (impl_Fun_refs.l0 k1 x3_1 l0_2 (l0_2.length : Int) (wrap64 (x9_1 + 1)))) = some r := H
       have A7 := aM A70; clear A70
       by_cases c8 : t291 = true
       · subst c8
         have H1 : ((slices_Contains_sstring_string.f k1 x3_1 ((rd_T38 l0_2 x9_1).f2)).bind fun t292 => (if t292 = true then (impl_Fun_refs.l0 k1 x3_1 l0_2 (l0_2.length : Int) (wrap64 (x9_1 + 1))) else (if x3_1.length < 8796093022208 then (impl_Fun_refs.l0 k1 (x3_1 ++ [(rd_T38 l0_2 x9_1).f2]) l0_2 (l0_2.length : Int) (wrap64 (x9_1 + 1))) else (none)))) = some r := by rw [if_pos rfl] at H; exact H
         clear H
         have H := H1
         clear H1
         replace H := Option.bind_eq_some_iff.mp H
         obtain ⟨t292, A90, H⟩ := H
         replace H : (if t292 = true then (impl_Fun_refs.l0 k1 x3_1 l0_2 (l0_2.length : Int) (wrap64 (x9_1 + 1))) else (if x3_1.length < 8796093022208 then (impl_Fun_refs.l0 k1 (x3_1 ++ [(rd_T38 l0_2 x9_1).f2]) l0_2 (l0_2.length : Int) (wrap64 (x9_1 + 1))) else (none))) = some r := H
         have A9 := aM A90; clear A90
         by_cases c10 : t292 = true
         · subst c10
           have H1 : (impl_Fun_refs.l0 k1 x3_1 l0_2 (l0_2.length : Int) (wrap64 (x9_1 + 1))) = some r := by rw [if_pos rfl] at H; exact H
           clear H
           have H := H1
           clear H1
           have H' := aM H
           clear H
           have p289 : 0 ≤ (x9_1 : Int) := oD (by first | with_reducible assumption | assumption)
           have q289 : x9_1 < (l0_2.length : Int) := oD (by first | with_reducible assumption | assumption)
           obtain ⟨ad289, e289, hx289_0, hx289_1, hx289_2⟩ := at_T38 HR0_2.out x9_1 p289 q289
           cases e289
           replace hx289_0 := (HB.out.cell (World.block_lt_of_cell? w _ hx289_0)).trans hx289_0
           replace hx289_1 := (HB.out.cell (World.block_lt_of_cell? w _ hx289_1)).trans hx289_1
           replace hx289_2 := (HB.out.cell (World.block_lt_of_cell? w _ hx289_2)).trans hx289_2
           replace p289 := eq_true p289; replace q289 := eq_true q289
           go_wp2_with (first | ((with_reducible refine gate_dst (N := 5) rfl ?_); refine box_event ?hg (N := 5) ?hd (cs := #[.int .i64 0, .int .i64 0, .string (⟨#[]⟩ : ByteArray)]) (t := 38) ?hr ?_; (case hd => rfl); (case hg => rfl); (case hr => first | (go_simp; done) | (go_simp; rfl)); intro gb290 hg w11 hbox hb; have n0_ := aM (Kd.R_below (by (with_reducible repeat (first | apply Ra | apply Rn | apply Rd)); exact HO_3.out) hb); have n1_ := aM (blk_below (g := gb288) (o := .cells #[.string a0_0, .bool a0_1, .slice (some ad289) l0_2.length c0_2] 30 (0, 0)) (by exact BK288.out) hb); have n2_ := aM (below_step (by repeat (with_reducible first | exact HB.out | apply bA | apply bN | apply bD | refine below_set ?_ GE288.out)) hb); have n3_ := aM (hbox); have n4_ := aM ((by rw [hg]; exact (below_size (by repeat (with_reducible first | exact HB.out | apply bA | apply bN | apply bD | refine below_set ?_ GE288.out))) : w.heap.size ≤ gb290)); have n5_ := aM ((by rw [hg]; exact (below_size (by repeat (with_reducible first | exact HB.out | apply bA | apply bN | apply bD | refine below_set ?_ GE288.out))) : w.heap.size ≤ gb290)); have n6_ := aM ((by rw [hg]; exact Nat.ne_of_lt (blk_lt (g := gb288) (o := .cells #[.string a0_0, .bool a0_1, .slice (some ad289) l0_2.length c0_2] 30 (0, 0)) (by exact BK288.out)) : gb288 ≠ gb290)); have n7_ := aM ((by rw [hg]; exact Nat.ne_of_gt (blk_lt (g := gb288) (o := .cells #[.string a0_0, .bool a0_1, .slice (some ad289) l0_2.length c0_2] 30 (0, 0)) (by exact BK288.out)) : gb290 ≠ gb288)); clear HO_3 BK288 HB; have HO_3 := n0_; have BK288 := n1_; have HB := n2_; have BK290 := n3_; have GW290 := n4_; have GE290 := n5_; have NB288_290 := n6_; have NB290_288 := n7_; clear n0_ n1_ n2_ n3_ n4_ n5_ n6_ n7_ hb hbox hg; have hnb12 := NB290_288.out; have hnc12 := NB288_290.out; have hcz13_0 : w11.cell? ⟨gb290, 0, none⟩ = some (.int .i64 0) := (blk_cell BK290.out 0).trans rfl; have hcz13_1 : w11.cell? ⟨gb290, 1, none⟩ = some (.int .i64 0) := (blk_cell BK290.out 1).trans rfl; have hcz13_2 : w11.cell? ⟨gb290, 2, none⟩ = some (.string (⟨#[]⟩ : ByteArray)) := (blk_cell BK290.out 2).trans rfl; have hfz13_0 := blk_frozen BK290.out 0; have hfz13_1 := blk_frozen BK290.out 1; have hfz13_2 := blk_frozen BK290.out 2) | ((with_reducible refine gate_callee (f := 23) rfl ?_); refine goesL_ (some 14) rfl rfl Try.func23 (by kernel_rfl) rfl #[.agg #[.int .i64 ((rd_T38 l0_2 x9_1).f0), .int .i64 ((rd_T38 l0_2 x9_1).f1), .string ((rd_T38 l0_2 x9_1).f2)]] rfl (by (try simp only [List.map_toArray, List.map_cons, List.map_nil]); first | done | rfl) ?_; (with_reducible refine (impl_InsRefs.calls ((rd_T38 l0_2 x9_1).f0) ((rd_T38 l0_2 x9_1).f1) ((rd_T38 l0_2 x9_1).f2) true _ A7.out).mono ?_); rintro e w14 ⟨rfl, hb⟩; refine ⟨_, rfl, ?_⟩; have n0_ := aM (Kd.R_below (by (with_reducible repeat (first | apply Ra | apply Rn | apply Rd)); exact (Kd.R_mono (Kd.R_far (p := ⟨gb290, 2, none⟩) (Kd.R_far (p := ⟨gb290, 1, none⟩) (Kd.R_far (p := ⟨gb290, 0, none⟩) (Kd.R_types HO_3.out BK290.out (by decide)) (fun _ hk => hk.2) (.int .i64 ((rd_T38 l0_2 x9_1).f0))) (fun _ hk => hk.2) (.int .i64 ((rd_T38 l0_2 x9_1).f1))) (fun _ hk => hk.2) (.string ((rd_T38 l0_2 x9_1).f2))) (fun _ h_ => h_.1))) hb); have n1_ := aM (blk_below (g := gb288) (o := .cells #[.string a0_0, .bool a0_1, .slice (some ad289) l0_2.length c0_2] 30 (0, 0)) (by refine blk_far ?_ NB288_290.out _; refine blk_far ?_ NB288_290.out _; refine blk_far ?_ NB288_290.out _; exact BK288.out) hb); have n2_ := aM (blk_below (g := gb290) (o := .cells #[.int .i64 ((rd_T38 l0_2 x9_1).f0), .int .i64 ((rd_T38 l0_2 x9_1).f1), .string ((rd_T38 l0_2 x9_1).f2)] 38 (0, 0)) (by refine blk_put (cs := #[.int .i64 ((rd_T38 l0_2 x9_1).f0), .int .i64 ((rd_T38 l0_2 x9_1).f1), .string (⟨#[]⟩ : ByteArray)]) ?_ 2 _ rfl; refine blk_put (cs := #[.int .i64 ((rd_T38 l0_2 x9_1).f0), .int .i64 0, .string (⟨#[]⟩ : ByteArray)]) ?_ 1 _ rfl; refine blk_put (cs := #[.int .i64 0, .int .i64 0, .string (⟨#[]⟩ : ByteArray)]) ?_ 0 _ rfl; exact BK290.out) hb); have n3_ := aM (below_step (by repeat (with_reducible first | exact HB.out | apply bA | apply bN | apply bD | refine below_set ?_ GE288.out | refine below_set ?_ GE290.out)) hb); clear HO_3 BK288 BK290 HB; have HO_3 := n0_; have BK288 := n1_; have BK290 := n2_; have HB := n3_; clear n0_ n1_ n2_ n3_; have hcz15_0 : w14.cell? ⟨gb290, 0, none⟩ = some (.int .i64 ((rd_T38 l0_2 x9_1).f0)) := (blk_cell BK290.out 0).trans rfl; have hcz15_1 : w14.cell? ⟨gb290, 1, none⟩ = some (.int .i64 ((rd_T38 l0_2 x9_1).f1)) := (blk_cell BK290.out 1).trans rfl; have hcz15_2 : w14.cell? ⟨gb290, 2, none⟩ = some (.string ((rd_T38 l0_2 x9_1).f2)) := (blk_cell BK290.out 2).trans rfl; have hfz15_0 := blk_frozen BK290.out 0; have hfz15_1 := blk_frozen BK290.out 1; have hfz15_2 := blk_frozen BK290.out 2; obtain ⟨Ao16, co16, eo16⟩ := Kd.R_slice HO_3.out; subst eo16) | (go_at_call 115; (with_reducible refine (slices_Contains_sstring_string.calls k1 _ _ x3_1 ((rd_T38 l0_2 x9_1).f2) true _ ?side1 ?side2 A9.out).mono ?_); (case side1 => repeat (first | exact (Kd.R_reads' HO_3.out).2.2 | (with_reducible first | refine Ca ?_ _ | refine Cn ?_ _ | refine Cd ?_))); (case side2 => exact (Kd.R_reads' HO_3.out).2.1); rintro e w' ⟨rfl, ⟨nd, rfl⟩⟩))
           go_roundg k1
           case measure => have := HK1.out; omega
           case rel => exact ⟨(x3_1), (wrap64 (x9_1 + 1)), (by first | rfl | (simp; done) | (simp [*]; done)), H', ⟨by have := HK1.out; omega⟩, ⟨by (with_reducible repeat (first | apply Ra | apply Rn | apply Rd)); exact HO_3.out⟩, ⟨by exact BK288.out⟩, ⟨by repeat (with_reducible first | exact HB.out | apply bA | apply bN | apply bD | refine below_set ?_ GE288.out | refine below_set ?_ GE290.out)⟩⟩
         replace c10 := Bool.eq_false_iff.mpr c10
         subst c10
         have H1 : (if x3_1.length < 8796093022208 then (impl_Fun_refs.l0 k1 (x3_1 ++ [(rd_T38 l0_2 x9_1).f2]) l0_2 (l0_2.length : Int) (wrap64 (x9_1 + 1))) else (none)) = some r := by rw [if_neg (show ¬ (false = true) by decide)] at H; exact H
         clear H
         have H := H1
         clear H1
         by_cases c17 : x3_1.length < 8796093022208
         · rw [if_pos c17] at H; have LMc17 := aM c17; clear c17
           obtain ⟨y293, hy293⟩ : ∃ y_ : List ByteArray, y_ = (x3_1 ++ [(rd_T38 l0_2 x9_1).f2]) := ⟨_, rfl⟩
           replace H : (impl_Fun_refs.l0 k1 y293 l0_2 (l0_2.length : Int) (wrap64 (x9_1 + 1))) = some r := by first | (rw [hy293]; with_reducible exact H) | (have H2_ := (Option.bind_some _ _).symm.trans H; rw [hy293]; with_reducible exact H2_) | (have H2_ := (Option.bind_some _ _).symm.trans H; with_reducible exact H2_) | with_reducible exact H | (rw [hy293]; exact H) | exact H
           have Ny293 := aM hy293; clear hy293
           have H' := aM H
           clear H
           have p289 : 0 ≤ (x9_1 : Int) := oD (by first | with_reducible assumption | assumption)
           have q289 : x9_1 < (l0_2.length : Int) := oD (by first | with_reducible assumption | assumption)
           obtain ⟨ad289, e289, hx289_0, hx289_1, hx289_2⟩ := at_T38 HR0_2.out x9_1 p289 q289
           cases e289
           replace hx289_0 := (HB.out.cell (World.block_lt_of_cell? w _ hx289_0)).trans hx289_0
           replace hx289_1 := (HB.out.cell (World.block_lt_of_cell? w _ hx289_1)).trans hx289_1
           replace hx289_2 := (HB.out.cell (World.block_lt_of_cell? w _ hx289_2)).trans hx289_2
           replace p289 := eq_true p289; replace q289 := eq_true q289
           go_wp2_with (first | ((with_reducible refine gate_dst (N := 5) rfl ?_); refine box_event ?hg (N := 5) ?hd (cs := #[.int .i64 0, .int .i64 0, .string (⟨#[]⟩ : ByteArray)]) (t := 38) ?hr ?_; (case hd => rfl); (case hg => rfl); (case hr => first | (go_simp; done) | (go_simp; rfl)); intro gb290 hg w18 hbox hb; have n0_ := aM (Kd.R_below (by (with_reducible repeat (first | apply Ra | apply Rn | apply Rd)); exact HO_3.out) hb); have n1_ := aM (blk_below (g := gb288) (o := .cells #[.string a0_0, .bool a0_1, .slice (some ad289) l0_2.length c0_2] 30 (0, 0)) (by exact BK288.out) hb); have n2_ := aM (below_step (by repeat (with_reducible first | exact HB.out | apply bA | apply bN | apply bD | refine below_set ?_ GE288.out)) hb); have n3_ := aM (hbox); have n4_ := aM ((by rw [hg]; exact (below_size (by repeat (with_reducible first | exact HB.out | apply bA | apply bN | apply bD | refine below_set ?_ GE288.out))) : w.heap.size ≤ gb290)); have n5_ := aM ((by rw [hg]; exact (below_size (by repeat (with_reducible first | exact HB.out | apply bA | apply bN | apply bD | refine below_set ?_ GE288.out))) : w.heap.size ≤ gb290)); have n6_ := aM ((by rw [hg]; exact Nat.ne_of_lt (blk_lt (g := gb288) (o := .cells #[.string a0_0, .bool a0_1, .slice (some ad289) l0_2.length c0_2] 30 (0, 0)) (by exact BK288.out)) : gb288 ≠ gb290)); have n7_ := aM ((by rw [hg]; exact Nat.ne_of_gt (blk_lt (g := gb288) (o := .cells #[.string a0_0, .bool a0_1, .slice (some ad289) l0_2.length c0_2] 30 (0, 0)) (by exact BK288.out)) : gb290 ≠ gb288)); clear HO_3 BK288 HB; have HO_3 := n0_; have BK288 := n1_; have HB := n2_; have BK290 := n3_; have GW290 := n4_; have GE290 := n5_; have NB288_290 := n6_; have NB290_288 := n7_; clear n0_ n1_ n2_ n3_ n4_ n5_ n6_ n7_ hb hbox hg; have hnb19 := NB290_288.out; have hnc19 := NB288_290.out; have hcz20_0 : w18.cell? ⟨gb290, 0, none⟩ = some (.int .i64 0) := (blk_cell BK290.out 0).trans rfl; have hcz20_1 : w18.cell? ⟨gb290, 1, none⟩ = some (.int .i64 0) := (blk_cell BK290.out 1).trans rfl; have hcz20_2 : w18.cell? ⟨gb290, 2, none⟩ = some (.string (⟨#[]⟩ : ByteArray)) := (blk_cell BK290.out 2).trans rfl; have hfz20_0 := blk_frozen BK290.out 0; have hfz20_1 := blk_frozen BK290.out 1; have hfz20_2 := blk_frozen BK290.out 2) | ((with_reducible refine gate_callee (f := 23) rfl ?_); refine goesL_ (some 14) rfl rfl Try.func23 (by kernel_rfl) rfl #[.agg #[.int .i64 ((rd_T38 l0_2 x9_1).f0), .int .i64 ((rd_T38 l0_2 x9_1).f1), .string ((rd_T38 l0_2 x9_1).f2)]] rfl (by (try simp only [List.map_toArray, List.map_cons, List.map_nil]); first | done | rfl) ?_; (with_reducible refine (impl_InsRefs.calls ((rd_T38 l0_2 x9_1).f0) ((rd_T38 l0_2 x9_1).f1) ((rd_T38 l0_2 x9_1).f2) true _ A7.out).mono ?_); rintro e w21 ⟨rfl, hb⟩; refine ⟨_, rfl, ?_⟩; have n0_ := aM (Kd.R_below (by (with_reducible repeat (first | apply Ra | apply Rn | apply Rd)); exact (Kd.R_mono (Kd.R_far (p := ⟨gb290, 2, none⟩) (Kd.R_far (p := ⟨gb290, 1, none⟩) (Kd.R_far (p := ⟨gb290, 0, none⟩) (Kd.R_types HO_3.out BK290.out (by decide)) (fun _ hk => hk.2) (.int .i64 ((rd_T38 l0_2 x9_1).f0))) (fun _ hk => hk.2) (.int .i64 ((rd_T38 l0_2 x9_1).f1))) (fun _ hk => hk.2) (.string ((rd_T38 l0_2 x9_1).f2))) (fun _ h_ => h_.1))) hb); have n1_ := aM (blk_below (g := gb288) (o := .cells #[.string a0_0, .bool a0_1, .slice (some ad289) l0_2.length c0_2] 30 (0, 0)) (by refine blk_far ?_ NB288_290.out _; refine blk_far ?_ NB288_290.out _; refine blk_far ?_ NB288_290.out _; exact BK288.out) hb); have n2_ := aM (blk_below (g := gb290) (o := .cells #[.int .i64 ((rd_T38 l0_2 x9_1).f0), .int .i64 ((rd_T38 l0_2 x9_1).f1), .string ((rd_T38 l0_2 x9_1).f2)] 38 (0, 0)) (by refine blk_put (cs := #[.int .i64 ((rd_T38 l0_2 x9_1).f0), .int .i64 ((rd_T38 l0_2 x9_1).f1), .string (⟨#[]⟩ : ByteArray)]) ?_ 2 _ rfl; refine blk_put (cs := #[.int .i64 ((rd_T38 l0_2 x9_1).f0), .int .i64 0, .string (⟨#[]⟩ : ByteArray)]) ?_ 1 _ rfl; refine blk_put (cs := #[.int .i64 0, .int .i64 0, .string (⟨#[]⟩ : ByteArray)]) ?_ 0 _ rfl; exact BK290.out) hb); have n3_ := aM (below_step (by repeat (with_reducible first | exact HB.out | apply bA | apply bN | apply bD | refine below_set ?_ GE288.out | refine below_set ?_ GE290.out)) hb); clear HO_3 BK288 BK290 HB; have HO_3 := n0_; have BK288 := n1_; have BK290 := n2_; have HB := n3_; clear n0_ n1_ n2_ n3_; have hcz22_0 : w21.cell? ⟨gb290, 0, none⟩ = some (.int .i64 ((rd_T38 l0_2 x9_1).f0)) := (blk_cell BK290.out 0).trans rfl; have hcz22_1 : w21.cell? ⟨gb290, 1, none⟩ = some (.int .i64 ((rd_T38 l0_2 x9_1).f1)) := (blk_cell BK290.out 1).trans rfl; have hcz22_2 : w21.cell? ⟨gb290, 2, none⟩ = some (.string ((rd_T38 l0_2 x9_1).f2)) := (blk_cell BK290.out 2).trans rfl; have hfz22_0 := blk_frozen BK290.out 0; have hfz22_1 := blk_frozen BK290.out 1; have hfz22_2 := blk_frozen BK290.out 2; obtain ⟨Ao23, co23, eo23⟩ := Kd.R_slice HO_3.out; subst eo23) | (go_at_call 115; (with_reducible refine (slices_Contains_sstring_string.calls k1 _ _ x3_1 ((rd_T38 l0_2 x9_1).f2) false _ ?side1 ?side2 A9.out).mono ?_); (case side1 => repeat (first | exact (Kd.R_reads' HO_3.out).2.2 | (with_reducible first | refine Ca ?_ _ | refine Cn ?_ _ | refine Cd ?_))); (case side2 => exact (Kd.R_reads' HO_3.out).2.1); rintro e w' ⟨rfl, ⟨nd, rfl⟩⟩) | ((with_reducible refine gate_builtin (b := .append) (xs := #[.tmp 22, .tmp 25]) rfl ?_); at_builtin; refine Kd.R_append Kd.string (w0 := w) w.heap.size rfl (.tmp 22) (.tmp 25) 33 9 (.string ⟨#[]⟩) 16 rfl Try.underlying33 info9 rfl (by decide) (by omega) (.slice Ao23 x3_1.length co23) x3_1 ((rd_T38 l0_2 x9_1).f2) [.string ((rd_T38 l0_2 x9_1).f2)] (fun _ => True) (fun _ => False) rfl rfl ?aP (fun _ hk => hk.elim) ?aF ?aO ?aB ?aS ?aL ?_; (case aP => exact rfl); (case aB => exact (by repeat (with_reducible first | exact HB.out | apply bA | apply bN | apply bD | refine below_set ?_ GE288.out | refine below_set ?_ GE290.out))); (case aF => exact (fun _ _ => trivial)); (case aO => exact (by (with_reducible repeat (first | apply Ra | apply Rn | apply Rd)); exact HO_3.out)); (case aS => exact (below_size (by repeat (with_reducible first | exact HB.out | apply bA | apply bN | apply bD | refine below_set ?_ GE288.out | refine below_set ?_ GE290.out)))); (case aL => have := LMc17.out; omega); intro v294 w24 ho hb hg hat; rw [← Ny293.out] at ho; have n0_ := aM (blk_grown (g := gb288) (o := .cells #[.string a0_0, .bool a0_1, .slice (some ad289) l0_2.length c0_2] 30 (0, 0)) (by exact BK288.out) hg (Kd.R_ne HO_3.out BK288.out (by decide))); have n1_ := aM (blk_grown (g := gb290) (o := .cells #[.int .i64 ((rd_T38 l0_2 x9_1).f0), .int .i64 ((rd_T38 l0_2 x9_1).f1), .string ((rd_T38 l0_2 x9_1).f2)] 38 (0, 0)) (by exact BK290.out) hg (Kd.R_ne HO_3.out BK290.out (by decide))); have n2_ := aM (hb); have n3_ := aM (ho); clear BK288 BK290 HB HO_3; have BK288 := n0_; have BK290 := n1_; have HB := n2_; have HO295 := n3_; clear n0_ n1_ n2_ n3_ ho hb hg hat))
           go_roundg k1
           case measure => have := HK1.out; omega
           case rel => exact ⟨(y293), (wrap64 (x9_1 + 1)), (by first | rfl | (simp; done) | (simp [*]; done)), H', ⟨by have := HK1.out; omega⟩, ⟨by (with_reducible repeat (first | apply Ra | apply Rn | apply Rd)); exact HO295.out⟩, ⟨by exact BK288.out⟩, ⟨by repeat (with_reducible first | exact HB.out | apply bA | apply bN | apply bD | refine below_set ?_ GE288.out | refine below_set ?_ GE290.out)⟩⟩
         rw [if_neg c17] at H
         exact absurd H (by simp)
       replace c8 := Bool.eq_false_iff.mpr c8
       subst c8
       have H1 : (impl_Fun_refs.l0 k1 x3_1 l0_2 (l0_2.length : Int) (wrap64 (x9_1 + 1))) = some r := by rw [if_neg (show ¬ (false = true) by decide)] at H; exact H
       clear H
       have H := H1
       clear H1
       have H' := aM H
       clear H
       have p289 : 0 ≤ (x9_1 : Int) := oD (by first | with_reducible assumption | assumption)
       have q289 : x9_1 < (l0_2.length : Int) := oD (by first | with_reducible assumption | assumption)
       obtain ⟨ad289, e289, hx289_0, hx289_1, hx289_2⟩ := at_T38 HR0_2.out x9_1 p289 q289
       cases e289
       replace hx289_0 := (HB.out.cell (World.block_lt_of_cell? w _ hx289_0)).trans hx289_0
       replace hx289_1 := (HB.out.cell (World.block_lt_of_cell? w _ hx289_1)).trans hx289_1
       replace hx289_2 := (HB.out.cell (World.block_lt_of_cell? w _ hx289_2)).trans hx289_2
       replace p289 := eq_true p289; replace q289 := eq_true q289
       go_wp2_with (first | ((with_reducible refine gate_dst (N := 5) rfl ?_); refine box_event ?hg (N := 5) ?hd (cs := #[.int .i64 0, .int .i64 0, .string (⟨#[]⟩ : ByteArray)]) (t := 38) ?hr ?_; (case hd => rfl); (case hg => rfl); (case hr => first | (go_simp; done) | (go_simp; rfl)); intro gb290 hg w25 hbox hb; have n0_ := aM (Kd.R_below (by (with_reducible repeat (first | apply Ra | apply Rn | apply Rd)); exact HO_3.out) hb); have n1_ := aM (blk_below (g := gb288) (o := .cells #[.string a0_0, .bool a0_1, .slice (some ad289) l0_2.length c0_2] 30 (0, 0)) (by exact BK288.out) hb); have n2_ := aM (below_step (by repeat (with_reducible first | exact HB.out | apply bA | apply bN | apply bD | refine below_set ?_ GE288.out)) hb); have n3_ := aM (hbox); have n4_ := aM ((by rw [hg]; exact (below_size (by repeat (with_reducible first | exact HB.out | apply bA | apply bN | apply bD | refine below_set ?_ GE288.out))) : w.heap.size ≤ gb290)); have n5_ := aM ((by rw [hg]; exact (below_size (by repeat (with_reducible first | exact HB.out | apply bA | apply bN | apply bD | refine below_set ?_ GE288.out))) : w.heap.size ≤ gb290)); have n6_ := aM ((by rw [hg]; exact Nat.ne_of_lt (blk_lt (g := gb288) (o := .cells #[.string a0_0, .bool a0_1, .slice (some ad289) l0_2.length c0_2] 30 (0, 0)) (by exact BK288.out)) : gb288 ≠ gb290)); have n7_ := aM ((by rw [hg]; exact Nat.ne_of_gt (blk_lt (g := gb288) (o := .cells #[.string a0_0, .bool a0_1, .slice (some ad289) l0_2.length c0_2] 30 (0, 0)) (by exact BK288.out)) : gb290 ≠ gb288)); clear HO_3 BK288 HB; have HO_3 := n0_; have BK288 := n1_; have HB := n2_; have BK290 := n3_; have GW290 := n4_; have GE290 := n5_; have NB288_290 := n6_; have NB290_288 := n7_; clear n0_ n1_ n2_ n3_ n4_ n5_ n6_ n7_ hb hbox hg; have hnb26 := NB290_288.out; have hnc26 := NB288_290.out; have hcz27_0 : w25.cell? ⟨gb290, 0, none⟩ = some (.int .i64 0) := (blk_cell BK290.out 0).trans rfl; have hcz27_1 : w25.cell? ⟨gb290, 1, none⟩ = some (.int .i64 0) := (blk_cell BK290.out 1).trans rfl; have hcz27_2 : w25.cell? ⟨gb290, 2, none⟩ = some (.string (⟨#[]⟩ : ByteArray)) := (blk_cell BK290.out 2).trans rfl; have hfz27_0 := blk_frozen BK290.out 0; have hfz27_1 := blk_frozen BK290.out 1; have hfz27_2 := blk_frozen BK290.out 2) | ((with_reducible refine gate_callee (f := 23) rfl ?_); refine goesL_ (some 14) rfl rfl Try.func23 (by kernel_rfl) rfl #[.agg #[.int .i64 ((rd_T38 l0_2 x9_1).f0), .int .i64 ((rd_T38 l0_2 x9_1).f1), .string ((rd_T38 l0_2 x9_1).f2)]] rfl (by (try simp only [List.map_toArray, List.map_cons, List.map_nil]); first | done | rfl) ?_; (with_reducible refine (impl_InsRefs.calls ((rd_T38 l0_2 x9_1).f0) ((rd_T38 l0_2 x9_1).f1) ((rd_T38 l0_2 x9_1).f2) false _ A7.out).mono ?_); rintro e w28 ⟨rfl, hb⟩; refine ⟨_, rfl, ?_⟩; have n0_ := aM (Kd.R_below (by (with_reducible repeat (first | apply Ra | apply Rn | apply Rd)); exact (Kd.R_mono (Kd.R_far (p := ⟨gb290, 2, none⟩) (Kd.R_far (p := ⟨gb290, 1, none⟩) (Kd.R_far (p := ⟨gb290, 0, none⟩) (Kd.R_types HO_3.out BK290.out (by decide)) (fun _ hk => hk.2) (.int .i64 ((rd_T38 l0_2 x9_1).f0))) (fun _ hk => hk.2) (.int .i64 ((rd_T38 l0_2 x9_1).f1))) (fun _ hk => hk.2) (.string ((rd_T38 l0_2 x9_1).f2))) (fun _ h_ => h_.1))) hb); have n1_ := aM (blk_below (g := gb288) (o := .cells #[.string a0_0, .bool a0_1, .slice (some ad289) l0_2.length c0_2] 30 (0, 0)) (by refine blk_far ?_ NB288_290.out _; refine blk_far ?_ NB288_290.out _; refine blk_far ?_ NB288_290.out _; exact BK288.out) hb); have n2_ := aM (blk_below (g := gb290) (o := .cells #[.int .i64 ((rd_T38 l0_2 x9_1).f0), .int .i64 ((rd_T38 l0_2 x9_1).f1), .string ((rd_T38 l0_2 x9_1).f2)] 38 (0, 0)) (by refine blk_put (cs := #[.int .i64 ((rd_T38 l0_2 x9_1).f0), .int .i64 ((rd_T38 l0_2 x9_1).f1), .string (⟨#[]⟩ : ByteArray)]) ?_ 2 _ rfl; refine blk_put (cs := #[.int .i64 ((rd_T38 l0_2 x9_1).f0), .int .i64 0, .string (⟨#[]⟩ : ByteArray)]) ?_ 1 _ rfl; refine blk_put (cs := #[.int .i64 0, .int .i64 0, .string (⟨#[]⟩ : ByteArray)]) ?_ 0 _ rfl; exact BK290.out) hb); have n3_ := aM (below_step (by repeat (with_reducible first | exact HB.out | apply bA | apply bN | apply bD | refine below_set ?_ GE288.out | refine below_set ?_ GE290.out)) hb); clear HO_3 BK288 BK290 HB; have HO_3 := n0_; have BK288 := n1_; have BK290 := n2_; have HB := n3_; clear n0_ n1_ n2_ n3_))
       go_roundg k1
       case measure => have := HK1.out; omega
       case rel => exact ⟨(x3_1), (wrap64 (x9_1 + 1)), (by first | rfl | (simp; done) | (simp [*]; done)), H', ⟨by have := HK1.out; omega⟩, ⟨by (with_reducible repeat (first | apply Ra | apply Rn | apply Rd)); exact HO_3.out⟩, ⟨by exact BK288.out⟩, ⟨by repeat (with_reducible first | exact HB.out | apply bA | apply bN | apply bD | refine below_set ?_ GE288.out | refine below_set ?_ GE290.out)⟩⟩
     rw [if_neg c6] at H
     exact absurd H (by simp)
   rw [if_neg c5] at H
   exact absurd H (by simp)
 rw [if_neg c4] at H
 have c4b0 : decide (x9_1 < (l0_2.length : Int)) = false := decide_eq_false c4
 clear c4
 obtain rfl := Option.some.inj H
 go_wp2
 go_ret
 exact ⟨_, by first | rfl | (simp [*, errW_none, errW_some] <;> rfl), by (with_reducible repeat (first | apply Ra | apply Rn | apply Rd)); exact HO_3.out, by repeat (with_reducible first | exact HB.out | apply bA | apply bN | apply bD | refine below_set ?_ GE288.out)⟩
def laws_szIns.f (a0_0 : Int) (a0_1 : Int) (a0_2 : ByteArray) (a1 : Int) : Option (Int) := if (wrap64 (a1 - (a0_2.size : Int))) < 0 then (some (-1)) else (some (wrap64 (a1 - (a0_2.size : Int))))
def laws_szInsS.l0 : Nat → List (S158) → Int → Int → Option (Int)
  | 0, _, _, _ => none
  | k + 1, x0, x1, x5 => if x5 < (x0.length : Int) then (if 0 ≤ x5 then ((laws_szIns.f ((rd_T158 x0 x5).f0) ((rd_T158 x0 x5).f1) ((rd_T158 x0 x5).f2) x1).bind fun t1255 => (if t1255 < 0 then (some (-1)) else (laws_szInsS.l0 k x0 t1255 (wrap64 (x5 + 1))))) else (none)) else (some x1)
def laws_szInsS.f (k : Nat) (l0 : List (S158)) (a1 : Int) : Option (Int) := if (wrap64 (a1 - (l0.length : Int))) < 0 then (some (-1)) else (laws_szInsS.l0 k l0 (wrap64 (a1 - (l0.length : Int))) 0)
def laws_szFun.f (k : Nat) (a0_0 : ByteArray) (a0_1 : Bool) (l0_2 : List (S158)) (a1 : Int) : Option (Int) := if (wrap64 (a1 - (a0_0.size : Int))) < 0 then (some (-1)) else ((laws_szInsS.f k l0_2 (wrap64 (a1 - (a0_0.size : Int)))).bind fun t1257 => (if t1257 < 0 then (some (-1)) else (some t1257)))
def laws_szFunS.l0 : Nat → List (S134) → Int → Int → Option (Int)
  | 0, _, _, _ => none
  | k + 1, x0, x1, x5 => if x5 < (x0.length : Int) then (if 0 ≤ x5 then ((laws_szFun.f k ((rd_T134 x0 x5).f0) ((rd_T134 x0 x5).f1) ((rd_T134 x0 x5).f2) x1).bind fun t1259 => (if t1259 < 0 then (some (-1)) else (laws_szFunS.l0 k x0 t1259 (wrap64 (x5 + 1))))) else (none)) else (some x1)
def laws_szFunS.f (k : Nat) (l0 : List (S134)) (a1 : Int) : Option (Int) := if (wrap64 (a1 - (l0.length : Int))) < 0 then (some (-1)) else (laws_szFunS.l0 k l0 (wrap64 (a1 - (l0.length : Int))) 0)
def laws_szFunSS.l0 : Nat → List (List (S134)) → Int → Int → Option (Int)
  | 0, _, _, _ => none
  | k + 1, x0, x1, x5 => if x5 < (x0.length : Int) then (if 0 ≤ x5 then ((laws_szFunS.f k (rd_L8 x0 x5) x1).bind fun t1261 => (if t1261 < 0 then (some (-1)) else (laws_szFunSS.l0 k x0 t1261 (wrap64 (x5 + 1))))) else (none)) else (some x1)
def laws_szFunSS.f (k : Nat) (l0 : List (List (S134))) (a1 : Int) : Option (Int) := if (wrap64 (a1 - (l0.length : Int))) < 0 then (some (-1)) else (laws_szFunSS.l0 k l0 (wrap64 (a1 - (l0.length : Int))) 0)
def laws_toIns.f (a0_0 : Int) (a0_1 : Int) (a0_2 : ByteArray) : Option (Int × Int × ByteArray) := some (a0_0, a0_1, a0_2)
def laws_toInsS.l0 : Nat → List (S158) → List (S38) → Int → Option ((List (S38)))
  | 0, _, _, _ => none
  | k + 1, x0, x3, x4 => if x4 < (x0.length : Int) then (if 0 ≤ x4 then ((laws_toIns.f ((rd_T158 x0 x4).f0) ((rd_T158 x0 x4).f1) ((rd_T158 x0 x4).f2)).bind fun bt1269 => (if x4 < (x3.length : Int) then (laws_toInsS.l0 k x0 (x3.set (x4 : Int).toNat (⟨bt1269.1, bt1269.2.1, bt1269.2.2⟩ : S38)) (wrap64 (x4 + 1))) else (none))) else (none)) else (some x3)
def laws_toInsS.f (k : Nat) (l0 : List (S158)) : Option ((List (S38))) := if 0 ≤ (l0.length : Int) then (if ((l0.length : Int) : Int).toNat ≤ 8796093022208 then (laws_toInsS.l0 k l0 (List.replicate ((l0.length : Int) : Int).toNat z38) 0) else (none)) else (none)
def laws_toFun.f (k : Nat) (a0_0 : ByteArray) (a0_1 : Bool) (l0_2 : List (S158)) : Option (ByteArray × Bool × (List (S38))) := (laws_toInsS.f k l0_2).bind fun t1276 => (some (a0_0, a0_1, t1276))
def laws_toFunS.l0 : Nat → List (S134) → List (S30) → Int → Option ((List (S30)))
  | 0, _, _, _ => none
  | k + 1, x0, x3, x4 => if x4 < (x0.length : Int) then (if 0 ≤ x4 then ((laws_toFun.f k ((rd_T134 x0 x4).f0) ((rd_T134 x0 x4).f1) ((rd_T134 x0 x4).f2)).bind fun bt1283 => (if x4 < (x3.length : Int) then (laws_toFunS.l0 k x0 (x3.set (x4 : Int).toNat (⟨bt1283.1, bt1283.2.1, bt1283.2.2⟩ : S30)) (wrap64 (x4 + 1))) else (none))) else (none)) else (some x3)
def laws_toFunS.f (k : Nat) (l0 : List (S134)) : Option ((List (S30))) := if 0 ≤ (l0.length : Int) then (if ((l0.length : Int) : Int).toNat ≤ 5864062014805 then (laws_toFunS.l0 k l0 (List.replicate ((l0.length : Int) : Int).toNat z30) 0) else (none)) else (none)
def spec_l2Has.l0 : Nat → List ByteArray → ByteArray → Int → Option (Bool)
  | 0, _, _, _ => none
  | k + 1, x0, x1, x5 => if x5 < (x0.length : Int) then (if 0 ≤ x5 then (if (rdOf ByteArray.empty x0 x5).toList = x1.toList then (some true) else (spec_l2Has.l0 k x0 x1 (wrap64 (x5 + 1)))) else (none)) else (some false)
def spec_l2Has.f (k : Nat) (l0 : List ByteArray) (a1 : ByteArray) : Option (Bool) := spec_l2Has.l0 k l0 a1 0
set_option maxHeartbeats 8000000 in
set_option maxRecDepth 100000 in
theorem spec_l2Has.calls (k : Nat) (A0 : Option Addr) (c0 : Nat) (l0 : List ByteArray) (a1 : ByteArray) (r : Bool) (w : World) (hr0 : Kd.C Kd.string w A0 l0.length l0) (hc0 : l0.length ≤ c0) (h : spec_l2Has.f k l0 a1 = some r) :
    Calls Try.prog 117 #[.slice A0 l0.length c0, .string a1] w fun e w' => e = .returned (.bool r) ∧ Drawn0 w w' := by
 have HR0 := aM hr0; have HC0 := aM hc0; clear hr0 hc0
 have H : (spec_l2Has.l0 k l0 a1 0) = some r := h
 clear h
 have H' := aM H
 clear H
 go_enter Try.func117, Try.ntmps117
 go_wp2
 go_loopg [5] k (fun kq v5 w' => ∃ (x5_1 : Int), v5 = .int .i64 x5_1 ∧ Aside0 (spec_l2Has.l0 kq l0 a1 x5_1 = some r) ∧ Aside0 (kq ≤ k) ∧ Drawn0 w w')
 case atStart => exact ⟨(0), (by first | rfl | (simp; done) | (simp [*]; done)), H', ⟨Nat.le_refl _⟩, by repeat (first | exact Drawn0.refl _ | apply Drawn0.step)⟩
 clear H'
 try clear c1; try clear p2
 obtain ⟨x5_1, rfl, HA, HK1, ⟨m1, rfl⟩⟩ := hrel
 obtain _ | k1 := gk
 · exact absurd HA.out (by simp [spec_l2Has.l0])
 have H := HA.out
 clear HA
 simp only [spec_l2Has.l0] at H
 by_cases c3 : x5_1 < (l0.length : Int)
 · rw [if_pos c3] at H
   have c3b0 : decide (x5_1 < (l0.length : Int)) = true := decide_eq_true c3
   clear c3
   by_cases c4 : 0 ≤ x5_1
   · rw [if_pos c4] at H
     have c4b0 : decide (0 ≤ x5_1) = true := decide_eq_true c4
     clear c4
     by_cases c5 : (rdOf ByteArray.empty l0 x5_1).toList = a1.toList
     · rw [if_pos c5] at H
       have c5b0 : ((rdOf ByteArray.empty l0 x5_1).toList == a1.toList) = true := beq_iff_eq.mpr c5
       have c5b1 : ((rdOf ByteArray.empty l0 x5_1).toList != a1.toList) = false := bne_eq_false_iff_eq.mpr c5
       clear c5
       obtain rfl := Option.some.inj H
       have p302 : 0 ≤ (x5_1 : Int) := oD (by first | with_reducible assumption | assumption)
       have q302 : x5_1 < (l0.length : Int) := oD (by first | with_reducible assumption | assumption)
       obtain ⟨ad302, e302, hx302_0⟩ := Kd.at_string HR0.out x5_1 p302 q302
       cases e302
       replace p302 := eq_true p302; replace q302 := eq_true q302
       go_wp2
       go_ret
       exact ⟨by first | rfl | (simp; done) | (simp [*]; done), by repeat (first | exact Drawn0.refl _ | apply Drawn0.step)⟩
     rw [if_neg c5] at H
     have c5b0 : ((rdOf ByteArray.empty l0 x5_1).toList == a1.toList) = false := beq_eq_false_iff_ne.mpr c5
     have c5b1 : ((rdOf ByteArray.empty l0 x5_1).toList != a1.toList) = true := bne_iff_ne.mpr c5
     have H' := aM H
     clear H
     have p302 : 0 ≤ (x5_1 : Int) := oD (by first | with_reducible assumption | assumption)
     have q302 : x5_1 < (l0.length : Int) := oD (by first | with_reducible assumption | assumption)
     obtain ⟨ad302, e302, hx302_0⟩ := Kd.at_string HR0.out x5_1 p302 q302
     cases e302
     replace p302 := eq_true p302; replace q302 := eq_true q302
     go_wp2
     go_roundg k1
     case measure => have := HK1.out; omega
     case rel => exact ⟨(wrap64 (x5_1 + 1)), (by first | rfl | (simp; done) | (simp [*]; done)), H', ⟨by have := HK1.out; omega⟩, by repeat (first | exact Drawn0.refl _ | apply Drawn0.step)⟩
   rw [if_neg c4] at H
   exact absurd H (by simp)
 rw [if_neg c3] at H
 have c3b0 : decide (x5_1 < (l0.length : Int)) = false := decide_eq_false c3
 clear c3
 obtain rfl := Option.some.inj H
 go_wp2
 go_ret
 exact ⟨by first | rfl | (simp; done) | (simp [*]; done), by repeat (first | exact Drawn0.refl _ | apply Drawn0.step)⟩
end Go.Proofs.Ytpckkkcaffhhnaa.P
