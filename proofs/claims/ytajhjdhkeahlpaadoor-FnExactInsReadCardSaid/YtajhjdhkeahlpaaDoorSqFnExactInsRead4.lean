-- PximplInsRead, PxlawseqIns, PxlawsFnExactInsRead, Pxspecl13Dec, LSeq, PximplInsLast, PxlawsszIns, Pxspecl13Rdpick, Pxspecl1Bent, PxspecDrawInsOk, LOk, LText: put together by squash.py
import Derived.Test.YtajhjdhkeahlpaaDoorSqFnExactInsRead2
import Derived.Test.YtajhjdhkeahlpaaDoorSqFnExactInsRead3
import Derived.Lib.ItoaNum
import Derived.Lib.Strings

-- made by printx.py (own driver over the kit's print); Lean checks it
namespace Go.Proofs.YtajhjdhkeahlpaaDoor.P
open Go.RowKit Go.Proofs.YtajhjdhkeahlpaaDoorW.PrintWords Go.Proofs.YtajhjdhkeahlpaaDoorW.PrintLast Go.Proofs.YtajhjdhkeahlpaaDoorW.PrintMore
attribute [local go_sem] max2_int min2_int max_two min_two max_three min_three max_four min_four   -- for this text's walks alone
set_option linter.unusedVariables false
set_option linter.unusedSimpArgs false

/-! ### impl_InsRead: function 32 -/
def impl_InsRead.j0 : Nat → ByteArray → Int → Int → ByteArray → Option (Int × Int × ByteArray × Bool)
  | 0, _, _, _, _ => none
  | k + 1, x0, x425000, x425001, x425002 => if x0.toList = ([] : List UInt8) then (some (0, 0, (⟨#[]⟩ : ByteArray), false)) else ((impl_InsText.f k x425000 x425001 x425002).bind fun t428 => (if t428.toList = x0.toList then (some (x425000, x425001, x425002, true)) else (some (0, 0, (⟨#[]⟩ : ByteArray), false))))
def impl_InsRead.f (k : Nat) (a0 : ByteArray) : Option (Int × Int × ByteArray × Bool) := (strings_Cut.f a0 (⟨#[32]⟩ : ByteArray)).bind fun bt420 => ((impl_opOf.f k bt420.1).bind fun t423 => (if t423 = 2 then ((impl_number.f bt420.2.1).bind fun bt425 => (impl_InsRead.j0 k a0 t423 bt425.1 (⟨#[]⟩ : ByteArray))) else ((impl_refers.f t423).bind fun t427 => (if t427 = true then (impl_InsRead.j0 k a0 t423 0 bt420.2.1) else (impl_InsRead.j0 k a0 t423 0 (⟨#[]⟩ : ByteArray))))))
set_option maxHeartbeats 8000000 in
set_option maxRecDepth 100000 in
theorem impl_InsRead.calls (k : Nat) (a0 : ByteArray) (r1 : Int) (r2 : Int) (r3 : ByteArray) (r4 : Bool) (w : World) (h : impl_InsRead.f k a0 = some (r1, r2, r3, r4)) (HT : Aside0 (Go.Proofs.YtajhjdhkeahlpaaDoor.L.Lies w)) :
    Calls Tryd.prog 32 #[.string a0] w fun e w' => e = .returned (.tuple #[.agg #[.int .i64 r1, .int .i64 r2, .string r3], .bool r4]) ∧ Below w.heap.size w w' := by
 have hu26 := Tryd.underlying26
 have HB := Aside0.mk (Below.refl w.heap.size w)
 have H : ((strings_Cut.f a0 (⟨#[32]⟩ : ByteArray)).bind fun bt420 => ((impl_opOf.f k bt420.1).bind fun t423 => (if t423 = 2 then ((impl_number.f bt420.2.1).bind fun bt425 => (impl_InsRead.j0 k a0 t423 bt425.1 (⟨#[]⟩ : ByteArray))) else ((impl_refers.f t423).bind fun t427 => (if t427 = true then (impl_InsRead.j0 k a0 t423 0 bt420.2.1) else (impl_InsRead.j0 k a0 t423 0 (⟨#[]⟩ : ByteArray))))))) = some (r1, r2, r3, r4) := h
 clear h
 replace H := Option.bind_eq_some_iff.mp H
 obtain ⟨⟨t420, t421, t422⟩, A20, H⟩ := H
 replace H : ((impl_opOf.f k t420).bind fun t423 => (if t423 = 2 then ((impl_number.f t421).bind fun bt425 => (impl_InsRead.j0 k a0 t423 bt425.1 (⟨#[]⟩ : ByteArray))) else ((impl_refers.f t423).bind fun t427 => (if t427 = true then (impl_InsRead.j0 k a0 t423 0 t421) else (impl_InsRead.j0 k a0 t423 0 (⟨#[]⟩ : ByteArray)))))) = some (r1, r2, r3, r4) := H
 have A2 := Aside0.mk A20; clear A20
 replace H := Option.bind_eq_some_iff.mp H
 obtain ⟨t423, A30, H⟩ := H
 replace H : (if t423 = 2 then ((impl_number.f t421).bind fun bt425 => (impl_InsRead.j0 k a0 t423 bt425.1 (⟨#[]⟩ : ByteArray))) else ((impl_refers.f t423).bind fun t427 => (if t427 = true then (impl_InsRead.j0 k a0 t423 0 t421) else (impl_InsRead.j0 k a0 t423 0 (⟨#[]⟩ : ByteArray))))) = some (r1, r2, r3, r4) := H
 have A3 := Aside0.mk A30; clear A30; have HC4 := Aside0.mk H; clear H
 go_enter Tryd.func32, Tryd.ntmps32
 go_upto_if 19 with (first | ((with_reducible refine gate_dst (N := 2) rfl ?_); refine box_event ?hg (N := 2) ?hd (cs := #[.int .i64 0, .int .i64 0, .string (⟨#[]⟩ : ByteArray)]) (t := 26) ?hr ?_; (case hd => rfl); (case hg => rfl); (case hr => first | (go_simp; done) | (go_simp; rfl)); intro gb419 hg w5 hbox hb; have n0_ := Aside0.mk (below_step (by repeat (first | (with_reducible first | exact HB.out | apply below_alloc | apply pw_below_drewN | apply below_drew1) | exact HB.out)) hb); have n1_ := Aside0.mk (hbox); have n2_ := Aside0.mk ((by rw [hg]; exact (below_size (by repeat (first | (with_reducible first | exact HB.out | apply below_alloc | apply pw_below_drewN | apply below_drew1) | exact HB.out))) : w.heap.size ≤ gb419)); have n3_ := Aside0.mk ((by rw [hg]; exact (below_size (by repeat (first | (with_reducible first | exact HB.out | apply below_alloc | apply pw_below_drewN | apply below_drew1) | exact HB.out))) : w.heap.size ≤ gb419)); clear HB; have HB := n0_; have BK419 := n1_; have GW419 := n2_; have GE419 := n3_; clear n0_ n1_ n2_ n3_ hb hbox hg) | ((with_reducible refine gate_callee (f := 57) rfl ?_); refine goesL_ (some 10) rfl rfl Tryd.func57 (by kernel_rfl) rfl #[.string a0, .string (⟨#[32]⟩ : ByteArray)] rfl (by (try simp only [List.map_toArray, List.map_cons, List.map_nil]); first | done | rfl | (simp only [List.length_drop, List.length_take]; rfl)) ?_; (with_reducible refine (strings_Cut.calls a0 (⟨#[32]⟩ : ByteArray) t420 t421 t422 _ A2.out).mono ?_); rintro e w6 ⟨rfl, hb⟩; refine ⟨_, rfl, ?_⟩; have n0_ := Aside0.mk (blk_below (g := gb419) (o := .cells #[.int .i64 0, .int .i64 0, .string (⟨#[]⟩ : ByteArray)] 26 (0, 0)) (by (with_reducible repeat (first | refine blk_drewN ?_ _ | refine blk_drew ?_ | refine blk_alloc ?_ _)); exact BK419.out) hb); have n1_ := Aside0.mk (below_step (by repeat (first | (with_reducible first | exact HB.out | apply below_alloc | apply pw_below_drewN | apply below_drew1 | refine below_set ?_ GE419.out) | exact HB.out)) hb); clear BK419 HB; have BK419 := n0_; have HB := n1_; clear n0_ n1_; (try clear hb); (try clear hb2); (try clear hk); (try clear hi)) | ((with_reducible refine gate_callee (f := 58) rfl ?_); refine goesL_ (some 15) rfl rfl Tryd.func58 (by kernel_rfl) rfl #[.string t420] rfl (by (try simp only [List.map_toArray, List.map_cons, List.map_nil]); first | done | rfl | (simp only [List.length_drop, List.length_take]; rfl)) ?_; (with_reducible refine (impl_opOf.calls k t420 t423 _ A3.out).mono ?_); rintro e w7 ⟨rfl, hb⟩; refine ⟨_, rfl, ?_⟩; have n0_ := Aside0.mk (blk_below (g := gb419) (o := .cells #[.int .i64 0, .int .i64 0, .string (⟨#[]⟩ : ByteArray)] 26 (0, 0)) (by (with_reducible repeat (first | refine blk_drewN ?_ _ | refine blk_drew ?_ | refine blk_alloc ?_ _)); exact BK419.out) hb); have n1_ := Aside0.mk (below_step (by repeat (first | (with_reducible first | exact HB.out | apply below_alloc | apply pw_below_drewN | apply below_drew1 | refine below_set ?_ GE419.out) | exact HB.out)) hb); clear BK419 HB; have BK419 := n0_; have HB := n1_; clear n0_ n1_; (try clear hb); (try clear hb2); (try clear hk); (try clear hi)) | ((with_reducible refine gate_dst (N := 7) rfl ?_); refine box_event ?hg (N := 7) ?hd (cs := #[.int .i64 0, .int .i64 0, .string (⟨#[]⟩ : ByteArray)]) (t := 26) ?hr ?_; (case hd => rfl); (case hg => rfl); (case hr => first | (go_simp; done) | (go_simp; rfl)); intro gb424 hg w8 hbox hb; have n0_ := Aside0.mk (blk_below (g := gb419) (o := .cells #[.int .i64 0, .int .i64 0, .string (⟨#[]⟩ : ByteArray)] 26 (0, 0)) (by (with_reducible repeat (first | refine blk_drewN ?_ _ | refine blk_drew ?_ | refine blk_alloc ?_ _)); exact BK419.out) hb); have n1_ := Aside0.mk (below_step (by repeat (first | (with_reducible first | exact HB.out | apply below_alloc | apply pw_below_drewN | apply below_drew1 | refine below_set ?_ GE419.out) | exact HB.out)) hb); have n2_ := Aside0.mk (hbox); have n3_ := Aside0.mk ((by rw [hg]; exact (below_size (by repeat (first | (with_reducible first | exact HB.out | apply below_alloc | apply pw_below_drewN | apply below_drew1 | refine below_set ?_ GE419.out) | exact HB.out))) : w.heap.size ≤ gb424)); have n4_ := Aside0.mk ((by rw [hg]; exact (below_size (by repeat (first | (with_reducible first | exact HB.out | apply below_alloc | apply pw_below_drewN | apply below_drew1 | refine below_set ?_ GE419.out) | exact HB.out))) : w.heap.size ≤ gb424)); have n5_ := Aside0.mk ((by rw [hg]; exact Nat.ne_of_lt (blk_lt (g := gb419) (o := .cells #[.int .i64 0, .int .i64 0, .string (⟨#[]⟩ : ByteArray)] 26 (0, 0)) (by (with_reducible repeat (first | refine blk_drewN ?_ _ | refine blk_drew ?_ | refine blk_alloc ?_ _)); exact BK419.out)) : gb419 ≠ gb424)); have n6_ := Aside0.mk ((by rw [hg]; exact Nat.ne_of_gt (blk_lt (g := gb419) (o := .cells #[.int .i64 0, .int .i64 0, .string (⟨#[]⟩ : ByteArray)] 26 (0, 0)) (by (with_reducible repeat (first | refine blk_drewN ?_ _ | refine blk_drew ?_ | refine blk_alloc ?_ _)); exact BK419.out)) : gb424 ≠ gb419)); clear BK419 HB; have BK419 := n0_; have HB := n1_; have BK424 := n2_; have GW424 := n3_; have GE424 := n4_; have NB419_424 := n5_; have NB424_419 := n6_; clear n0_ n1_ n2_ n3_ n4_ n5_ n6_ hb hbox hg; have hnb9 := NB424_419.out; have hnc9 := NB419_424.out; have hcz10_0 : w8.cell? ⟨gb424, 0, none⟩ = some (.int .i64 0) := (blk_cell BK424.out 0).trans rfl; have hcz10_1 : w8.cell? ⟨gb424, 1, none⟩ = some (.int .i64 0) := (blk_cell BK424.out 1).trans rfl; have hcz10_2 : w8.cell? ⟨gb424, 2, none⟩ = some (.string (⟨#[]⟩ : ByteArray)) := (blk_cell BK424.out 2).trans rfl; have hfz10_0 := blk_frozen BK424.out 0; have hfz10_1 := blk_frozen BK424.out 1; have hfz10_2 := blk_frozen BK424.out 2))
 (try simp only [Act.put, List.setIfInBounds_toArray, List.set_cons_zero, List.set_cons_succ])
 go_cut [] (fun wc => ∃ (kq : Nat) (x425001_3 : Int) (x425002_3 : ByteArray), Aside0 (impl_InsRead.j0 kq a0 t423 x425001_3 x425002_3 = some (r1, r2, r3, r4)) ∧ Aside0 (kq ≤ k) ∧ Aside0 (wc.heap[gb419]? = some (.cells #[.int .i64 0, .int .i64 0, .string (⟨#[]⟩ : ByteArray)] 26 (0, 0))) ∧ Aside0 (wc.heap[gb424]? = some (.cells #[.int .i64 t423, .int .i64 x425001_3, .string x425002_3] 26 (0, 0))) ∧ Aside0 (Below w.heap.size w wc))
 case first =>
  have H := HC4.out
  clear HC4
  by_cases c11 : t423 = 2
  · rw [if_pos c11] at H
    have c11b0 : (t423 == 2) = true := beq_iff_eq.mpr c11
    have c11b1 : (t423 != 2) = false := bne_eq_false_iff_eq.mpr c11
    clear c11
    (first | rw [c11b0] | (simp only [i64_w, i32_w]; rw [c11b0]) | (have cn_ := c11b0; simp only [bne] at cn_; rw [cn_]; clear cn_) | skip)
    replace H := Option.bind_eq_some_iff.mp H
    obtain ⟨⟨t425, t426⟩, A120, H⟩ := H
    replace H : (impl_InsRead.j0 k a0 t423 t425 (⟨#[]⟩ : ByteArray)) = some (r1, r2, r3, r4) := H
    have A12 := Aside0.mk A120; clear A120
    have H' := Aside0.mk H
    clear H
    go_wp2_with (first | ((with_reducible refine gate_callee (f := 59) rfl ?_); refine goesL_ (some 22) rfl rfl Tryd.func59 (by kernel_rfl) rfl #[.string t421] rfl (by (try simp only [List.map_toArray, List.map_cons, List.map_nil]); first | done | rfl | (simp only [List.length_drop, List.length_take]; rfl)) ?_; (with_reducible refine (impl_number.calls t421 t425 t426 _ A12.out ⟨?sT⟩).mono ?_); (case sT => exact (HT.out.below (by repeat (first | (with_reducible first | exact HB.out | exact Below.refl _ _ | apply below_alloc | apply pw_below_drewN | apply below_drew1 | refine below_set ?_ GE419.out | refine below_set ?_ GE424.out) | exact HB.out | exact Below.refl _ _)))); rintro e w13 ⟨rfl, hb⟩; refine ⟨_, rfl, ?_⟩; have n0_ := Aside0.mk (blk_below (g := gb419) (o := .cells #[.int .i64 0, .int .i64 0, .string (⟨#[]⟩ : ByteArray)] 26 (0, 0)) (by (with_reducible repeat (first | refine blk_drewN ?_ _ | refine blk_drew ?_ | refine blk_alloc ?_ _)); refine blk_far ?_ NB419_424.out _; (with_reducible repeat (first | refine blk_drewN ?_ _ | refine blk_drew ?_ | refine blk_alloc ?_ _)); refine blk_far ?_ NB419_424.out _; (with_reducible repeat (first | refine blk_drewN ?_ _ | refine blk_drew ?_ | refine blk_alloc ?_ _)); refine blk_far ?_ NB419_424.out _; (with_reducible repeat (first | refine blk_drewN ?_ _ | refine blk_drew ?_ | refine blk_alloc ?_ _)); exact BK419.out) hb); have n1_ := Aside0.mk (blk_below (g := gb424) (o := .cells #[.int .i64 t423, .int .i64 0, .string (⟨#[]⟩ : ByteArray)] 26 (0, 0)) (by (with_reducible repeat (first | refine blk_drewN ?_ _ | refine blk_drew ?_ | refine blk_alloc ?_ _)); refine blk_put (cs := #[.int .i64 t423, .int .i64 0, .string (⟨#[]⟩ : ByteArray)]) ?_ 2 _ rfl; (with_reducible repeat (first | refine blk_drewN ?_ _ | refine blk_drew ?_ | refine blk_alloc ?_ _)); refine blk_put (cs := #[.int .i64 t423, .int .i64 0, .string (⟨#[]⟩ : ByteArray)]) ?_ 1 _ rfl; (with_reducible repeat (first | refine blk_drewN ?_ _ | refine blk_drew ?_ | refine blk_alloc ?_ _)); refine blk_put (cs := #[.int .i64 0, .int .i64 0, .string (⟨#[]⟩ : ByteArray)]) ?_ 0 _ rfl; (with_reducible repeat (first | refine blk_drewN ?_ _ | refine blk_drew ?_ | refine blk_alloc ?_ _)); exact BK424.out) hb); have n2_ := Aside0.mk (below_step (by repeat (first | (with_reducible first | exact HB.out | apply below_alloc | apply pw_below_drewN | apply below_drew1 | refine below_set ?_ GE419.out | refine below_set ?_ GE424.out) | exact HB.out)) hb); clear BK419 BK424 HB; have BK419 := n0_; have BK424 := n1_; have HB := n2_; clear n0_ n1_ n2_; (try clear hb); (try clear hb2); (try clear hk); (try clear hi); have hnb14 := NB424_419.out; have hnc14 := NB419_424.out; have hcz15_0 : w13.cell? ⟨gb424, 0, none⟩ = some (.int .i64 t423) := (blk_cell BK424.out 0).trans rfl; have hcz15_1 : w13.cell? ⟨gb424, 1, none⟩ = some (.int .i64 0) := (blk_cell BK424.out 1).trans rfl; have hcz15_2 : w13.cell? ⟨gb424, 2, none⟩ = some (.string (⟨#[]⟩ : ByteArray)) := (blk_cell BK424.out 2).trans rfl; have hfz15_0 := blk_frozen BK424.out 0; have hfz15_1 := blk_frozen BK424.out 1; have hfz15_2 := blk_frozen BK424.out 2))
    go_meet
    case rel => exact ⟨_, (t425), ((⟨#[]⟩ : ByteArray)), H', ⟨by first | omega | exact Nat.le_refl _⟩, ⟨by (with_reducible repeat (first | refine blk_drewN ?_ _ | refine blk_drew ?_ | refine blk_alloc ?_ _)); refine blk_far ?_ NB419_424.out _; (with_reducible repeat (first | refine blk_drewN ?_ _ | refine blk_drew ?_ | refine blk_alloc ?_ _)); exact BK419.out⟩, ⟨by (with_reducible repeat (first | refine blk_drewN ?_ _ | refine blk_drew ?_ | refine blk_alloc ?_ _)); refine blk_put (cs := #[.int .i64 t423, .int .i64 0, .string (⟨#[]⟩ : ByteArray)]) ?_ 1 _ rfl; (with_reducible repeat (first | refine blk_drewN ?_ _ | refine blk_drew ?_ | refine blk_alloc ?_ _)); exact BK424.out⟩, ⟨by repeat (first | (with_reducible first | exact HB.out | apply below_alloc | apply pw_below_drewN | apply below_drew1 | refine below_set ?_ GE419.out | refine below_set ?_ GE424.out) | exact HB.out)⟩⟩
  rw [if_neg c11] at H
  have c11b0 : (t423 == 2) = false := beq_eq_false_iff_ne.mpr c11
  have c11b1 : (t423 != 2) = true := bne_iff_ne.mpr c11
  (first | rw [c11b0] | (simp only [i64_w, i32_w]; rw [c11b0]) | (have cn_ := c11b0; simp only [bne] at cn_; rw [cn_]; clear cn_) | skip)
  replace H := Option.bind_eq_some_iff.mp H
  obtain ⟨t427, A160, H⟩ := H
  replace H : (if t427 = true then (impl_InsRead.j0 k a0 t423 0 t421) else (impl_InsRead.j0 k a0 t423 0 (⟨#[]⟩ : ByteArray))) = some (r1, r2, r3, r4) := H
  have A16 := Aside0.mk A160; clear A160
  by_cases c17 : t427 = true
  · subst c17
    have H1 : (impl_InsRead.j0 k a0 t423 0 t421) = some (r1, r2, r3, r4) := by rw [if_pos rfl] at H; exact H
    clear H
    have H := H1
    clear H1
    have H' := Aside0.mk H
    clear H
    have hnb18 := NB424_419.out
    have hnc18 := NB419_424.out
    have hcz19_0 : w8.cell? ⟨gb424, 0, none⟩ = some (.int .i64 0) := (blk_cell BK424.out 0).trans rfl
    have hcz19_1 : w8.cell? ⟨gb424, 1, none⟩ = some (.int .i64 0) := (blk_cell BK424.out 1).trans rfl
    have hcz19_2 : w8.cell? ⟨gb424, 2, none⟩ = some (.string (⟨#[]⟩ : ByteArray)) := (blk_cell BK424.out 2).trans rfl
    have hfz19_0 := blk_frozen BK424.out 0
    have hfz19_1 := blk_frozen BK424.out 1
    have hfz19_2 := blk_frozen BK424.out 2
    go_wp2_with (first | ((with_reducible refine gate_callee (f := 40) rfl ?_); refine goesL_ (some 28) rfl rfl Tryd.func40 (by kernel_rfl) rfl #[.int .i64 t423] rfl (by (try simp only [List.map_toArray, List.map_cons, List.map_nil]); first | done | rfl | (simp only [List.length_drop, List.length_take]; rfl)) ?_; (with_reducible refine (impl_refers.calls t423 true _ A16.out).mono ?_); rintro e w' ⟨rfl, ⟨nd, rfl⟩⟩; refine ⟨_, rfl, ?_⟩))
    go_meet
    case rel => exact ⟨_, (0), (t421), H', ⟨by first | omega | exact Nat.le_refl _⟩, ⟨by (with_reducible repeat (first | refine blk_drewN ?_ _ | refine blk_drew ?_ | refine blk_alloc ?_ _)); refine blk_far ?_ NB419_424.out _; (with_reducible repeat (first | refine blk_drewN ?_ _ | refine blk_drew ?_ | refine blk_alloc ?_ _)); refine blk_far ?_ NB419_424.out _; (with_reducible repeat (first | refine blk_drewN ?_ _ | refine blk_drew ?_ | refine blk_alloc ?_ _)); refine blk_far ?_ NB419_424.out _; (with_reducible repeat (first | refine blk_drewN ?_ _ | refine blk_drew ?_ | refine blk_alloc ?_ _)); refine blk_far ?_ NB419_424.out _; (with_reducible repeat (first | refine blk_drewN ?_ _ | refine blk_drew ?_ | refine blk_alloc ?_ _)); exact BK419.out⟩, ⟨by (with_reducible repeat (first | refine blk_drewN ?_ _ | refine blk_drew ?_ | refine blk_alloc ?_ _)); refine blk_put (cs := #[.int .i64 t423, .int .i64 0, .string (⟨#[]⟩ : ByteArray)]) ?_ 2 _ rfl; (with_reducible repeat (first | refine blk_drewN ?_ _ | refine blk_drew ?_ | refine blk_alloc ?_ _)); refine blk_put (cs := #[.int .i64 t423, .int .i64 0, .string (⟨#[]⟩ : ByteArray)]) ?_ 2 _ rfl; (with_reducible repeat (first | refine blk_drewN ?_ _ | refine blk_drew ?_ | refine blk_alloc ?_ _)); refine blk_put (cs := #[.int .i64 t423, .int .i64 0, .string (⟨#[]⟩ : ByteArray)]) ?_ 1 _ rfl; (with_reducible repeat (first | refine blk_drewN ?_ _ | refine blk_drew ?_ | refine blk_alloc ?_ _)); refine blk_put (cs := #[.int .i64 0, .int .i64 0, .string (⟨#[]⟩ : ByteArray)]) ?_ 0 _ rfl; (with_reducible repeat (first | refine blk_drewN ?_ _ | refine blk_drew ?_ | refine blk_alloc ?_ _)); exact BK424.out⟩, ⟨by repeat (first | (with_reducible first | exact HB.out | apply below_alloc | apply pw_below_drewN | apply below_drew1 | refine below_set ?_ GE419.out | refine below_set ?_ GE424.out) | exact HB.out)⟩⟩
  replace c17 := Bool.eq_false_iff.mpr c17
  subst c17
  have H1 : (impl_InsRead.j0 k a0 t423 0 (⟨#[]⟩ : ByteArray)) = some (r1, r2, r3, r4) := by rw [if_neg (show ¬ (false = true) by decide)] at H; exact H
  clear H
  have H := H1
  clear H1
  have H' := Aside0.mk H
  clear H
  have hnb20 := NB424_419.out
  have hnc20 := NB419_424.out
  have hcz21_0 : w8.cell? ⟨gb424, 0, none⟩ = some (.int .i64 0) := (blk_cell BK424.out 0).trans rfl
  have hcz21_1 : w8.cell? ⟨gb424, 1, none⟩ = some (.int .i64 0) := (blk_cell BK424.out 1).trans rfl
  have hcz21_2 : w8.cell? ⟨gb424, 2, none⟩ = some (.string (⟨#[]⟩ : ByteArray)) := (blk_cell BK424.out 2).trans rfl
  have hfz21_0 := blk_frozen BK424.out 0
  have hfz21_1 := blk_frozen BK424.out 1
  have hfz21_2 := blk_frozen BK424.out 2
  go_wp2_with (first | ((with_reducible refine gate_callee (f := 40) rfl ?_); refine goesL_ (some 28) rfl rfl Tryd.func40 (by kernel_rfl) rfl #[.int .i64 t423] rfl (by (try simp only [List.map_toArray, List.map_cons, List.map_nil]); first | done | rfl | (simp only [List.length_drop, List.length_take]; rfl)) ?_; (with_reducible refine (impl_refers.calls t423 false _ A16.out).mono ?_); rintro e w' ⟨rfl, ⟨nd, rfl⟩⟩; refine ⟨_, rfl, ?_⟩))
  go_meet
  case rel => exact ⟨_, (0), ((⟨#[]⟩ : ByteArray)), H', ⟨by first | omega | exact Nat.le_refl _⟩, ⟨by (with_reducible repeat (first | refine blk_drewN ?_ _ | refine blk_drew ?_ | refine blk_alloc ?_ _)); refine blk_far ?_ NB419_424.out _; (with_reducible repeat (first | refine blk_drewN ?_ _ | refine blk_drew ?_ | refine blk_alloc ?_ _)); refine blk_far ?_ NB419_424.out _; (with_reducible repeat (first | refine blk_drewN ?_ _ | refine blk_drew ?_ | refine blk_alloc ?_ _)); refine blk_far ?_ NB419_424.out _; (with_reducible repeat (first | refine blk_drewN ?_ _ | refine blk_drew ?_ | refine blk_alloc ?_ _)); exact BK419.out⟩, ⟨by (with_reducible repeat (first | refine blk_drewN ?_ _ | refine blk_drew ?_ | refine blk_alloc ?_ _)); refine blk_put (cs := #[.int .i64 t423, .int .i64 0, .string (⟨#[]⟩ : ByteArray)]) ?_ 2 _ rfl; (with_reducible repeat (first | refine blk_drewN ?_ _ | refine blk_drew ?_ | refine blk_alloc ?_ _)); refine blk_put (cs := #[.int .i64 t423, .int .i64 0, .string (⟨#[]⟩ : ByteArray)]) ?_ 1 _ rfl; (with_reducible repeat (first | refine blk_drewN ?_ _ | refine blk_drew ?_ | refine blk_alloc ?_ _)); refine blk_put (cs := #[.int .i64 0, .int .i64 0, .string (⟨#[]⟩ : ByteArray)]) ?_ 0 _ rfl; (with_reducible repeat (first | refine blk_drewN ?_ _ | refine blk_drew ?_ | refine blk_alloc ?_ _)); exact BK424.out⟩, ⟨by repeat (first | (with_reducible first | exact HB.out | apply below_alloc | apply pw_below_drewN | apply below_drew1 | refine below_set ?_ GE419.out | refine below_set ?_ GE424.out) | exact HB.out)⟩⟩
 clear HC4; try clear c1; try clear c2; try clear p2; try clear c3; try clear c4; try clear c5; try clear c9; try clear c11; try clear c11b0; try clear c11b1; try clear c14; try clear c17; try clear c18; try clear c20; try clear hcz10_0; try clear hcz10_1; try clear hcz10_2; try clear hcz15_0; try clear hcz15_1; try clear hcz15_2; try clear hcz19_0; try clear hcz19_1; try clear hcz19_2; try clear hcz21_0; try clear hcz21_1; try clear hcz21_2; try clear hfz10_0; try clear hfz10_1; try clear hfz10_2; try clear hfz15_0; try clear hfz15_1; try clear hfz15_2; try clear hfz19_0; try clear hfz19_1; try clear hfz19_2; try clear hfz21_0; try clear hfz21_1; try clear hfz21_2
 obtain ⟨kq, x425001_3, x425002_3, HA, HJ3, BK419, BK424, HB⟩ := hcut
 obtain _ | kj3 := kq
 · exact absurd HA.out (by simp [impl_InsRead.j0])
 have H := HA.out
 clear HA
 simp only [impl_InsRead.j0] at H
 by_cases c22 : a0.toList = ([] : List UInt8)
 · rw [if_pos c22] at H
   have c22b0 : (a0.toList == ([] : List UInt8)) = true := beq_iff_eq.mpr c22
   have c22b1 : (a0.toList != ([] : List UInt8)) = false := bne_eq_false_iff_eq.mpr c22
   clear c22
   simp only [Option.some.injEq, Prod.mk.injEq] at H
   obtain ⟨rfl, rfl, rfl, rfl⟩ := H
   have hnb23 := NB419_424.out
   have hnc23 := NB424_419.out
   have hcz24_0 : wc.cell? ⟨gb419, 0, none⟩ = some (.int .i64 0) := (blk_cell BK419.out 0).trans rfl
   have hcz24_1 : wc.cell? ⟨gb419, 1, none⟩ = some (.int .i64 0) := (blk_cell BK419.out 1).trans rfl
   have hcz24_2 : wc.cell? ⟨gb419, 2, none⟩ = some (.string (⟨#[]⟩ : ByteArray)) := (blk_cell BK419.out 2).trans rfl
   have hfz24_0 := blk_frozen BK419.out 0
   have hfz24_1 := blk_frozen BK419.out 1
   have hfz24_2 := blk_frozen BK419.out 2
   go_wp2
   refine bodyPost_ret (results_ct rfl _ _ gb419 26 #[.int .i64 0, .int .i64 0, .string (⟨#[]⟩ : ByteArray)] (0, 0) _ rfl (by (with_reducible repeat (first | refine blk_drewN ?_ _ | refine blk_drew ?_ | refine blk_alloc ?_ _)); refine blk_put (cs := #[.int .i64 0, .int .i64 0, .string (⟨#[]⟩ : ByteArray)]) ?_ 2 _ rfl; (with_reducible repeat (first | refine blk_drewN ?_ _ | refine blk_drew ?_ | refine blk_alloc ?_ _)); refine blk_put (cs := #[.int .i64 0, .int .i64 0, .string (⟨#[]⟩ : ByteArray)]) ?_ 1 _ rfl; (with_reducible repeat (first | refine blk_drewN ?_ _ | refine blk_drew ?_ | refine blk_alloc ?_ _)); refine blk_put (cs := #[.int .i64 0, .int .i64 0, .string (⟨#[]⟩ : ByteArray)]) ?_ 0 _ rfl; (with_reducible repeat (first | refine blk_drewN ?_ _ | refine blk_drew ?_ | refine blk_alloc ?_ _)); exact BK419.out) Tryd.underlying26 rfl (by kernel_rfl)) rfl ?_
   exact ⟨by first | rfl | (simp [errW_none, errW_some] <;> rfl) | (simp [*, errW_none, errW_some] <;> rfl), by repeat (first | (with_reducible first | exact HB.out | apply below_alloc | apply pw_below_drewN | apply below_drew1 | refine below_set ?_ GE419.out | refine below_set ?_ GE424.out) | exact HB.out)⟩
 rw [if_neg c22] at H
 have c22b0 : (a0.toList == ([] : List UInt8)) = false := beq_eq_false_iff_ne.mpr c22
 have c22b1 : (a0.toList != ([] : List UInt8)) = true := bne_iff_ne.mpr c22
 replace H := Option.bind_eq_some_iff.mp H
 obtain ⟨t428, A250, H⟩ := H
 replace H : (if t428.toList = a0.toList then (some (t423, x425001_3, x425002_3, true)) else (some (0, 0, (⟨#[]⟩ : ByteArray), false))) = some (r1, r2, r3, r4) := H
 have A25 := Aside0.mk A250; clear A250
 by_cases c26 : t428.toList = a0.toList
 · rw [if_pos c26] at H
   have c26b0 : (t428.toList == a0.toList) = true := beq_iff_eq.mpr c26
   have c26b1 : (t428.toList != a0.toList) = false := bne_eq_false_iff_eq.mpr c26
   clear c26
   simp only [Option.some.injEq, Prod.mk.injEq] at H
   obtain ⟨rfl, rfl, rfl, rfl⟩ := H
   have hnb27 := NB424_419.out
   have hnc27 := NB419_424.out
   have hcz28_0 : wc.cell? ⟨gb424, 0, none⟩ = some (.int .i64 t423) := (blk_cell BK424.out 0).trans rfl
   have hcz28_1 : wc.cell? ⟨gb424, 1, none⟩ = some (.int .i64 x425001_3) := (blk_cell BK424.out 1).trans rfl
   have hcz28_2 : wc.cell? ⟨gb424, 2, none⟩ = some (.string x425002_3) := (blk_cell BK424.out 2).trans rfl
   have hfz28_0 := blk_frozen BK424.out 0
   have hfz28_1 := blk_frozen BK424.out 1
   have hfz28_2 := blk_frozen BK424.out 2
   go_wp2_with (first | (go_at_call 12; (with_reducible refine (impl_InsText.calls kj3 t423 x425001_3 x425002_3 t428 _ A25.out ⟨?sT⟩).mono ?_); (case sT => exact (HT.out.below (by repeat (first | (with_reducible first | exact HB.out | exact Below.refl _ _ | apply below_alloc | apply pw_below_drewN | apply below_drew1 | refine below_set ?_ GE419.out | refine below_set ?_ GE424.out) | exact HB.out | exact Below.refl _ _))).1); rintro e w29 ⟨rfl, hb⟩; have n0_ := Aside0.mk (blk_below (g := gb419) (o := .cells #[.int .i64 0, .int .i64 0, .string (⟨#[]⟩ : ByteArray)] 26 (0, 0)) (by (with_reducible repeat (first | refine blk_drewN ?_ _ | refine blk_drew ?_ | refine blk_alloc ?_ _)); exact BK419.out) hb); have n1_ := Aside0.mk (blk_below (g := gb424) (o := .cells #[.int .i64 t423, .int .i64 x425001_3, .string x425002_3] 26 (0, 0)) (by (with_reducible repeat (first | refine blk_drewN ?_ _ | refine blk_drew ?_ | refine blk_alloc ?_ _)); exact BK424.out) hb); have n2_ := Aside0.mk (below_step (by repeat (first | (with_reducible first | exact HB.out | apply below_alloc | apply pw_below_drewN | apply below_drew1 | refine below_set ?_ GE419.out | refine below_set ?_ GE424.out) | exact HB.out)) hb); clear BK419 BK424 HB; have BK419 := n0_; have BK424 := n1_; have HB := n2_; clear n0_ n1_ n2_; (try clear hb); (try clear hb2); (try clear hk); (try clear hi); have hcz30_0 : w29.cell? ⟨gb424, 0, none⟩ = some (.int .i64 t423) := (blk_cell BK424.out 0).trans rfl; have hcz30_1 : w29.cell? ⟨gb424, 1, none⟩ = some (.int .i64 x425001_3) := (blk_cell BK424.out 1).trans rfl; have hcz30_2 : w29.cell? ⟨gb424, 2, none⟩ = some (.string x425002_3) := (blk_cell BK424.out 2).trans rfl; have hfz30_0 := blk_frozen BK424.out 0; have hfz30_1 := blk_frozen BK424.out 1; have hfz30_2 := blk_frozen BK424.out 2; have hcz31_0 : w29.cell? ⟨gb419, 0, none⟩ = some (.int .i64 0) := (blk_cell BK419.out 0).trans rfl; have hcz31_1 : w29.cell? ⟨gb419, 1, none⟩ = some (.int .i64 0) := (blk_cell BK419.out 1).trans rfl; have hcz31_2 : w29.cell? ⟨gb419, 2, none⟩ = some (.string (⟨#[]⟩ : ByteArray)) := (blk_cell BK419.out 2).trans rfl; have hfz31_0 := blk_frozen BK419.out 0; have hfz31_1 := blk_frozen BK419.out 1; have hfz31_2 := blk_frozen BK419.out 2))
   refine bodyPost_ret (results_ct rfl _ _ gb419 26 #[.int .i64 t423, .int .i64 x425001_3, .string x425002_3] (0, 0) _ rfl (by (with_reducible repeat (first | refine blk_drewN ?_ _ | refine blk_drew ?_ | refine blk_alloc ?_ _)); refine blk_put (cs := #[.int .i64 t423, .int .i64 x425001_3, .string (⟨#[]⟩ : ByteArray)]) ?_ 2 _ rfl; (with_reducible repeat (first | refine blk_drewN ?_ _ | refine blk_drew ?_ | refine blk_alloc ?_ _)); refine blk_put (cs := #[.int .i64 t423, .int .i64 0, .string (⟨#[]⟩ : ByteArray)]) ?_ 1 _ rfl; (with_reducible repeat (first | refine blk_drewN ?_ _ | refine blk_drew ?_ | refine blk_alloc ?_ _)); refine blk_put (cs := #[.int .i64 0, .int .i64 0, .string (⟨#[]⟩ : ByteArray)]) ?_ 0 _ rfl; (with_reducible repeat (first | refine blk_drewN ?_ _ | refine blk_drew ?_ | refine blk_alloc ?_ _)); exact BK419.out) Tryd.underlying26 rfl (by kernel_rfl)) rfl ?_
   exact ⟨by first | rfl | (simp [errW_none, errW_some] <;> rfl) | (simp [*, errW_none, errW_some] <;> rfl), by repeat (first | (with_reducible first | exact HB.out | apply below_alloc | apply pw_below_drewN | apply below_drew1 | refine below_set ?_ GE419.out | refine below_set ?_ GE424.out) | exact HB.out)⟩
 rw [if_neg c26] at H
 have c26b0 : (t428.toList == a0.toList) = false := beq_eq_false_iff_ne.mpr c26
 have c26b1 : (t428.toList != a0.toList) = true := bne_iff_ne.mpr c26
 simp only [Option.some.injEq, Prod.mk.injEq] at H
 obtain ⟨rfl, rfl, rfl, rfl⟩ := H
 have hnb32 := NB424_419.out
 have hnc32 := NB419_424.out
 have hcz33_0 : wc.cell? ⟨gb424, 0, none⟩ = some (.int .i64 t423) := (blk_cell BK424.out 0).trans rfl
 have hcz33_1 : wc.cell? ⟨gb424, 1, none⟩ = some (.int .i64 x425001_3) := (blk_cell BK424.out 1).trans rfl
 have hcz33_2 : wc.cell? ⟨gb424, 2, none⟩ = some (.string x425002_3) := (blk_cell BK424.out 2).trans rfl
 have hfz33_0 := blk_frozen BK424.out 0
 have hfz33_1 := blk_frozen BK424.out 1
 have hfz33_2 := blk_frozen BK424.out 2
 go_wp2_with (first | (go_at_call 12; (with_reducible refine (impl_InsText.calls kj3 t423 x425001_3 x425002_3 t428 _ A25.out ⟨?sT⟩).mono ?_); (case sT => exact (HT.out.below (by repeat (first | (with_reducible first | exact HB.out | exact Below.refl _ _ | apply below_alloc | apply pw_below_drewN | apply below_drew1 | refine below_set ?_ GE419.out | refine below_set ?_ GE424.out) | exact HB.out | exact Below.refl _ _))).1); rintro e w34 ⟨rfl, hb⟩; have n0_ := Aside0.mk (blk_below (g := gb419) (o := .cells #[.int .i64 0, .int .i64 0, .string (⟨#[]⟩ : ByteArray)] 26 (0, 0)) (by (with_reducible repeat (first | refine blk_drewN ?_ _ | refine blk_drew ?_ | refine blk_alloc ?_ _)); exact BK419.out) hb); have n1_ := Aside0.mk (blk_below (g := gb424) (o := .cells #[.int .i64 t423, .int .i64 x425001_3, .string x425002_3] 26 (0, 0)) (by (with_reducible repeat (first | refine blk_drewN ?_ _ | refine blk_drew ?_ | refine blk_alloc ?_ _)); exact BK424.out) hb); have n2_ := Aside0.mk (below_step (by repeat (first | (with_reducible first | exact HB.out | apply below_alloc | apply pw_below_drewN | apply below_drew1 | refine below_set ?_ GE419.out | refine below_set ?_ GE424.out) | exact HB.out)) hb); clear BK419 BK424 HB; have BK419 := n0_; have BK424 := n1_; have HB := n2_; clear n0_ n1_ n2_; (try clear hb); (try clear hb2); (try clear hk); (try clear hi); have hcz35_0 : w34.cell? ⟨gb419, 0, none⟩ = some (.int .i64 0) := (blk_cell BK419.out 0).trans rfl; have hcz35_1 : w34.cell? ⟨gb419, 1, none⟩ = some (.int .i64 0) := (blk_cell BK419.out 1).trans rfl; have hcz35_2 : w34.cell? ⟨gb419, 2, none⟩ = some (.string (⟨#[]⟩ : ByteArray)) := (blk_cell BK419.out 2).trans rfl; have hfz35_0 := blk_frozen BK419.out 0; have hfz35_1 := blk_frozen BK419.out 1; have hfz35_2 := blk_frozen BK419.out 2))
 refine bodyPost_ret (results_ct rfl _ _ gb419 26 #[.int .i64 0, .int .i64 0, .string (⟨#[]⟩ : ByteArray)] (0, 0) _ rfl (by (with_reducible repeat (first | refine blk_drewN ?_ _ | refine blk_drew ?_ | refine blk_alloc ?_ _)); refine blk_put (cs := #[.int .i64 0, .int .i64 0, .string (⟨#[]⟩ : ByteArray)]) ?_ 2 _ rfl; (with_reducible repeat (first | refine blk_drewN ?_ _ | refine blk_drew ?_ | refine blk_alloc ?_ _)); refine blk_put (cs := #[.int .i64 0, .int .i64 0, .string (⟨#[]⟩ : ByteArray)]) ?_ 1 _ rfl; (with_reducible repeat (first | refine blk_drewN ?_ _ | refine blk_drew ?_ | refine blk_alloc ?_ _)); refine blk_put (cs := #[.int .i64 0, .int .i64 0, .string (⟨#[]⟩ : ByteArray)]) ?_ 0 _ rfl; (with_reducible repeat (first | refine blk_drewN ?_ _ | refine blk_drew ?_ | refine blk_alloc ?_ _)); exact BK419.out) Tryd.underlying26 rfl (by kernel_rfl)) rfl ?_
 exact ⟨by first | rfl | (simp [errW_none, errW_some] <;> rfl) | (simp [*, errW_none, errW_some] <;> rfl), by repeat (first | (with_reducible first | exact HB.out | apply below_alloc | apply pw_below_drewN | apply below_drew1 | refine below_set ?_ GE419.out | refine below_set ?_ GE424.out) | exact HB.out)⟩

end Go.Proofs.YtajhjdhkeahlpaaDoor.P

-- made by printx.py (own driver over the kit's print); Lean checks it
namespace Go.Proofs.YtajhjdhkeahlpaaDoor.P
open Go.RowKit Go.Proofs.YtajhjdhkeahlpaaDoorW.PrintWords Go.Proofs.YtajhjdhkeahlpaaDoorW.PrintLast Go.Proofs.YtajhjdhkeahlpaaDoorW.PrintMore
attribute [local go_sem] max2_int min2_int max_two min_two max_three min_three max_four min_four   -- for this text's walks alone
set_option linter.unusedVariables false
set_option linter.unusedSimpArgs false

/-! ### laws_eqIns: function 33 -/
def laws_eqIns.f (a0_0 : Int) (a0_1 : Int) (a0_2 : ByteArray) (a1_0 : Int) (a1_1 : Int) (a1_2 : ByteArray) : Option (Bool) := if a0_0 = a1_0 then (if a0_1 = a1_1 then (if a0_2.toList = a1_2.toList then (some true) else (some false)) else (some false)) else (some false)
set_option maxHeartbeats 8000000 in
set_option maxRecDepth 100000 in
theorem laws_eqIns.calls (a0_0 : Int) (a0_1 : Int) (a0_2 : ByteArray) (a1_0 : Int) (a1_1 : Int) (a1_2 : ByteArray) (r : Bool) (w : World) (h : laws_eqIns.f a0_0 a0_1 a0_2 a1_0 a1_1 a1_2 = some r) :
    Calls Tryd.prog 33 #[.agg #[.int .i64 a0_0, .int .i64 a0_1, .string a0_2], .agg #[.int .i64 a1_0, .int .i64 a1_1, .string a1_2]] w fun e w' => e = .returned (.bool r) ∧ Below w.heap.size w w' := by
 have hu26 := Tryd.underlying26
 have HB := Aside0.mk (Below.refl w.heap.size w)
 have H : (if a0_0 = a1_0 then (if a0_1 = a1_1 then (if a0_2.toList = a1_2.toList then (some true) else (some false)) else (some false)) else (some false)) = some r := h
 clear h
 by_cases c3 : a0_0 = a1_0
 · rw [if_pos c3] at H
   have c3b0 : (a0_0 == a1_0) = true := beq_iff_eq.mpr c3
   have c3b1 : (a0_0 != a1_0) = false := bne_eq_false_iff_eq.mpr c3
   clear c3
   by_cases c4 : a0_1 = a1_1
   · rw [if_pos c4] at H
     have c4b0 : (a0_1 == a1_1) = true := beq_iff_eq.mpr c4
     have c4b1 : (a0_1 != a1_1) = false := bne_eq_false_iff_eq.mpr c4
     clear c4
     by_cases c5 : a0_2.toList = a1_2.toList
     · rw [if_pos c5] at H
       have c5b0 : (a0_2.toList == a1_2.toList) = true := beq_iff_eq.mpr c5
       have c5b1 : (a0_2.toList != a1_2.toList) = false := bne_eq_false_iff_eq.mpr c5
       clear c5
       obtain rfl := Option.some.inj H
       go_enter Tryd.func33, Tryd.ntmps33
       go_wp2_with (first | ((with_reducible refine gate_dst (N := 2) rfl ?_); refine box_event ?hg (N := 2) ?hd (cs := #[.int .i64 a0_0, .int .i64 a0_1, .string a0_2]) (t := 26) ?hr ?_; (case hd => rfl); (case hg => rfl); (case hr => first | (go_simp; done) | (go_simp; rfl)); intro gb416 hg w6 hbox hb; have n0_ := Aside0.mk (below_step (by repeat (first | (with_reducible first | exact HB.out | apply below_alloc | apply pw_below_drewN | apply below_drew1) | exact HB.out)) hb); have n1_ := Aside0.mk (hbox); have n2_ := Aside0.mk ((by rw [hg]; exact (below_size (by repeat (first | (with_reducible first | exact HB.out | apply below_alloc | apply pw_below_drewN | apply below_drew1) | exact HB.out))) : w.heap.size ≤ gb416)); have n3_ := Aside0.mk ((by rw [hg]; exact (below_size (by repeat (first | (with_reducible first | exact HB.out | apply below_alloc | apply pw_below_drewN | apply below_drew1) | exact HB.out))) : w.heap.size ≤ gb416)); clear HB; have HB := n0_; have BK416 := n1_; have GW416 := n2_; have GE416 := n3_; clear n0_ n1_ n2_ n3_ hb hbox hg) | ((with_reducible refine gate_dst (N := 3) rfl ?_); refine box_event ?hg (N := 3) ?hd (cs := #[.int .i64 a1_0, .int .i64 a1_1, .string a1_2]) (t := 26) ?hr ?_; (case hd => rfl); (case hg => rfl); (case hr => first | (go_simp; done) | (go_simp; rfl)); intro gb417 hg w7 hbox hb; have n0_ := Aside0.mk (blk_below (g := gb416) (o := .cells #[.int .i64 a0_0, .int .i64 a0_1, .string a0_2] 26 (0, 0)) (by (with_reducible repeat (first | refine blk_drewN ?_ _ | refine blk_drew ?_ | refine blk_alloc ?_ _)); exact BK416.out) hb); have n1_ := Aside0.mk (below_step (by repeat (first | (with_reducible first | exact HB.out | apply below_alloc | apply pw_below_drewN | apply below_drew1 | refine below_set ?_ GE416.out) | exact HB.out)) hb); have n2_ := Aside0.mk (hbox); have n3_ := Aside0.mk ((by rw [hg]; exact (below_size (by repeat (first | (with_reducible first | exact HB.out | apply below_alloc | apply pw_below_drewN | apply below_drew1 | refine below_set ?_ GE416.out) | exact HB.out))) : w.heap.size ≤ gb417)); have n4_ := Aside0.mk ((by rw [hg]; exact (below_size (by repeat (first | (with_reducible first | exact HB.out | apply below_alloc | apply pw_below_drewN | apply below_drew1 | refine below_set ?_ GE416.out) | exact HB.out))) : w.heap.size ≤ gb417)); have n5_ := Aside0.mk ((by rw [hg]; exact Nat.ne_of_lt (blk_lt (g := gb416) (o := .cells #[.int .i64 a0_0, .int .i64 a0_1, .string a0_2] 26 (0, 0)) (by (with_reducible repeat (first | refine blk_drewN ?_ _ | refine blk_drew ?_ | refine blk_alloc ?_ _)); exact BK416.out)) : gb416 ≠ gb417)); have n6_ := Aside0.mk ((by rw [hg]; exact Nat.ne_of_gt (blk_lt (g := gb416) (o := .cells #[.int .i64 a0_0, .int .i64 a0_1, .string a0_2] 26 (0, 0)) (by (with_reducible repeat (first | refine blk_drewN ?_ _ | refine blk_drew ?_ | refine blk_alloc ?_ _)); exact BK416.out)) : gb417 ≠ gb416)); clear BK416 HB; have BK416 := n0_; have HB := n1_; have BK417 := n2_; have GW417 := n3_; have GE417 := n4_; have NB416_417 := n5_; have NB417_416 := n6_; clear n0_ n1_ n2_ n3_ n4_ n5_ n6_ hb hbox hg; have hnb8 := NB416_417.out; have hnc8 := NB417_416.out; have hcz9_0 : w7.cell? ⟨gb416, 0, none⟩ = some (.int .i64 a0_0) := (blk_cell BK416.out 0).trans rfl; have hcz9_1 : w7.cell? ⟨gb416, 1, none⟩ = some (.int .i64 a0_1) := (blk_cell BK416.out 1).trans rfl; have hcz9_2 : w7.cell? ⟨gb416, 2, none⟩ = some (.string a0_2) := (blk_cell BK416.out 2).trans rfl; have hfz9_0 := blk_frozen BK416.out 0; have hfz9_1 := blk_frozen BK416.out 1; have hfz9_2 := blk_frozen BK416.out 2; have hcz10_0 : w7.cell? ⟨gb417, 0, none⟩ = some (.int .i64 a1_0) := (blk_cell BK417.out 0).trans rfl; have hcz10_1 : w7.cell? ⟨gb417, 1, none⟩ = some (.int .i64 a1_1) := (blk_cell BK417.out 1).trans rfl; have hcz10_2 : w7.cell? ⟨gb417, 2, none⟩ = some (.string a1_2) := (blk_cell BK417.out 2).trans rfl; have hfz10_0 := blk_frozen BK417.out 0; have hfz10_1 := blk_frozen BK417.out 1; have hfz10_2 := blk_frozen BK417.out 2))
       go_ret
       exact ⟨by first | rfl | (simp [errW_none, errW_some] <;> rfl) | (simp [*, errW_none, errW_some] <;> rfl), by repeat (first | (with_reducible first | exact HB.out | apply below_alloc | apply pw_below_drewN | apply below_drew1 | refine below_set ?_ GE416.out | refine below_set ?_ GE417.out) | exact HB.out)⟩
     rw [if_neg c5] at H
     have c5b0 : (a0_2.toList == a1_2.toList) = false := beq_eq_false_iff_ne.mpr c5
     have c5b1 : (a0_2.toList != a1_2.toList) = true := bne_iff_ne.mpr c5
     obtain rfl := Option.some.inj H
     go_enter Tryd.func33, Tryd.ntmps33
     go_wp2_with (first | ((with_reducible refine gate_dst (N := 2) rfl ?_); refine box_event ?hg (N := 2) ?hd (cs := #[.int .i64 a0_0, .int .i64 a0_1, .string a0_2]) (t := 26) ?hr ?_; (case hd => rfl); (case hg => rfl); (case hr => first | (go_simp; done) | (go_simp; rfl)); intro gb416 hg w11 hbox hb; have n0_ := Aside0.mk (below_step (by repeat (first | (with_reducible first | exact HB.out | apply below_alloc | apply pw_below_drewN | apply below_drew1) | exact HB.out)) hb); have n1_ := Aside0.mk (hbox); have n2_ := Aside0.mk ((by rw [hg]; exact (below_size (by repeat (first | (with_reducible first | exact HB.out | apply below_alloc | apply pw_below_drewN | apply below_drew1) | exact HB.out))) : w.heap.size ≤ gb416)); have n3_ := Aside0.mk ((by rw [hg]; exact (below_size (by repeat (first | (with_reducible first | exact HB.out | apply below_alloc | apply pw_below_drewN | apply below_drew1) | exact HB.out))) : w.heap.size ≤ gb416)); clear HB; have HB := n0_; have BK416 := n1_; have GW416 := n2_; have GE416 := n3_; clear n0_ n1_ n2_ n3_ hb hbox hg) | ((with_reducible refine gate_dst (N := 3) rfl ?_); refine box_event ?hg (N := 3) ?hd (cs := #[.int .i64 a1_0, .int .i64 a1_1, .string a1_2]) (t := 26) ?hr ?_; (case hd => rfl); (case hg => rfl); (case hr => first | (go_simp; done) | (go_simp; rfl)); intro gb417 hg w12 hbox hb; have n0_ := Aside0.mk (blk_below (g := gb416) (o := .cells #[.int .i64 a0_0, .int .i64 a0_1, .string a0_2] 26 (0, 0)) (by (with_reducible repeat (first | refine blk_drewN ?_ _ | refine blk_drew ?_ | refine blk_alloc ?_ _)); exact BK416.out) hb); have n1_ := Aside0.mk (below_step (by repeat (first | (with_reducible first | exact HB.out | apply below_alloc | apply pw_below_drewN | apply below_drew1 | refine below_set ?_ GE416.out) | exact HB.out)) hb); have n2_ := Aside0.mk (hbox); have n3_ := Aside0.mk ((by rw [hg]; exact (below_size (by repeat (first | (with_reducible first | exact HB.out | apply below_alloc | apply pw_below_drewN | apply below_drew1 | refine below_set ?_ GE416.out) | exact HB.out))) : w.heap.size ≤ gb417)); have n4_ := Aside0.mk ((by rw [hg]; exact (below_size (by repeat (first | (with_reducible first | exact HB.out | apply below_alloc | apply pw_below_drewN | apply below_drew1 | refine below_set ?_ GE416.out) | exact HB.out))) : w.heap.size ≤ gb417)); have n5_ := Aside0.mk ((by rw [hg]; exact Nat.ne_of_lt (blk_lt (g := gb416) (o := .cells #[.int .i64 a0_0, .int .i64 a0_1, .string a0_2] 26 (0, 0)) (by (with_reducible repeat (first | refine blk_drewN ?_ _ | refine blk_drew ?_ | refine blk_alloc ?_ _)); exact BK416.out)) : gb416 ≠ gb417)); have n6_ := Aside0.mk ((by rw [hg]; exact Nat.ne_of_gt (blk_lt (g := gb416) (o := .cells #[.int .i64 a0_0, .int .i64 a0_1, .string a0_2] 26 (0, 0)) (by (with_reducible repeat (first | refine blk_drewN ?_ _ | refine blk_drew ?_ | refine blk_alloc ?_ _)); exact BK416.out)) : gb417 ≠ gb416)); clear BK416 HB; have BK416 := n0_; have HB := n1_; have BK417 := n2_; have GW417 := n3_; have GE417 := n4_; have NB416_417 := n5_; have NB417_416 := n6_; clear n0_ n1_ n2_ n3_ n4_ n5_ n6_ hb hbox hg; have hnb13 := NB416_417.out; have hnc13 := NB417_416.out; have hcz14_0 : w12.cell? ⟨gb416, 0, none⟩ = some (.int .i64 a0_0) := (blk_cell BK416.out 0).trans rfl; have hcz14_1 : w12.cell? ⟨gb416, 1, none⟩ = some (.int .i64 a0_1) := (blk_cell BK416.out 1).trans rfl; have hcz14_2 : w12.cell? ⟨gb416, 2, none⟩ = some (.string a0_2) := (blk_cell BK416.out 2).trans rfl; have hfz14_0 := blk_frozen BK416.out 0; have hfz14_1 := blk_frozen BK416.out 1; have hfz14_2 := blk_frozen BK416.out 2; have hcz15_0 : w12.cell? ⟨gb417, 0, none⟩ = some (.int .i64 a1_0) := (blk_cell BK417.out 0).trans rfl; have hcz15_1 : w12.cell? ⟨gb417, 1, none⟩ = some (.int .i64 a1_1) := (blk_cell BK417.out 1).trans rfl; have hcz15_2 : w12.cell? ⟨gb417, 2, none⟩ = some (.string a1_2) := (blk_cell BK417.out 2).trans rfl; have hfz15_0 := blk_frozen BK417.out 0; have hfz15_1 := blk_frozen BK417.out 1; have hfz15_2 := blk_frozen BK417.out 2))
     go_ret
     exact ⟨by first | rfl | (simp [errW_none, errW_some] <;> rfl) | (simp [*, errW_none, errW_some] <;> rfl), by repeat (first | (with_reducible first | exact HB.out | apply below_alloc | apply pw_below_drewN | apply below_drew1 | refine below_set ?_ GE416.out | refine below_set ?_ GE417.out) | exact HB.out)⟩
   rw [if_neg c4] at H
   have c4b0 : (a0_1 == a1_1) = false := beq_eq_false_iff_ne.mpr c4
   have c4b1 : (a0_1 != a1_1) = true := bne_iff_ne.mpr c4
   obtain rfl := Option.some.inj H
   go_enter Tryd.func33, Tryd.ntmps33
   go_wp2_with (first | ((with_reducible refine gate_dst (N := 2) rfl ?_); refine box_event ?hg (N := 2) ?hd (cs := #[.int .i64 a0_0, .int .i64 a0_1, .string a0_2]) (t := 26) ?hr ?_; (case hd => rfl); (case hg => rfl); (case hr => first | (go_simp; done) | (go_simp; rfl)); intro gb416 hg w16 hbox hb; have n0_ := Aside0.mk (below_step (by repeat (first | (with_reducible first | exact HB.out | apply below_alloc | apply pw_below_drewN | apply below_drew1) | exact HB.out)) hb); have n1_ := Aside0.mk (hbox); have n2_ := Aside0.mk ((by rw [hg]; exact (below_size (by repeat (first | (with_reducible first | exact HB.out | apply below_alloc | apply pw_below_drewN | apply below_drew1) | exact HB.out))) : w.heap.size ≤ gb416)); have n3_ := Aside0.mk ((by rw [hg]; exact (below_size (by repeat (first | (with_reducible first | exact HB.out | apply below_alloc | apply pw_below_drewN | apply below_drew1) | exact HB.out))) : w.heap.size ≤ gb416)); clear HB; have HB := n0_; have BK416 := n1_; have GW416 := n2_; have GE416 := n3_; clear n0_ n1_ n2_ n3_ hb hbox hg) | ((with_reducible refine gate_dst (N := 3) rfl ?_); refine box_event ?hg (N := 3) ?hd (cs := #[.int .i64 a1_0, .int .i64 a1_1, .string a1_2]) (t := 26) ?hr ?_; (case hd => rfl); (case hg => rfl); (case hr => first | (go_simp; done) | (go_simp; rfl)); intro gb417 hg w17 hbox hb; have n0_ := Aside0.mk (blk_below (g := gb416) (o := .cells #[.int .i64 a0_0, .int .i64 a0_1, .string a0_2] 26 (0, 0)) (by (with_reducible repeat (first | refine blk_drewN ?_ _ | refine blk_drew ?_ | refine blk_alloc ?_ _)); exact BK416.out) hb); have n1_ := Aside0.mk (below_step (by repeat (first | (with_reducible first | exact HB.out | apply below_alloc | apply pw_below_drewN | apply below_drew1 | refine below_set ?_ GE416.out) | exact HB.out)) hb); have n2_ := Aside0.mk (hbox); have n3_ := Aside0.mk ((by rw [hg]; exact (below_size (by repeat (first | (with_reducible first | exact HB.out | apply below_alloc | apply pw_below_drewN | apply below_drew1 | refine below_set ?_ GE416.out) | exact HB.out))) : w.heap.size ≤ gb417)); have n4_ := Aside0.mk ((by rw [hg]; exact (below_size (by repeat (first | (with_reducible first | exact HB.out | apply below_alloc | apply pw_below_drewN | apply below_drew1 | refine below_set ?_ GE416.out) | exact HB.out))) : w.heap.size ≤ gb417)); have n5_ := Aside0.mk ((by rw [hg]; exact Nat.ne_of_lt (blk_lt (g := gb416) (o := .cells #[.int .i64 a0_0, .int .i64 a0_1, .string a0_2] 26 (0, 0)) (by (with_reducible repeat (first | refine blk_drewN ?_ _ | refine blk_drew ?_ | refine blk_alloc ?_ _)); exact BK416.out)) : gb416 ≠ gb417)); have n6_ := Aside0.mk ((by rw [hg]; exact Nat.ne_of_gt (blk_lt (g := gb416) (o := .cells #[.int .i64 a0_0, .int .i64 a0_1, .string a0_2] 26 (0, 0)) (by (with_reducible repeat (first | refine blk_drewN ?_ _ | refine blk_drew ?_ | refine blk_alloc ?_ _)); exact BK416.out)) : gb417 ≠ gb416)); clear BK416 HB; have BK416 := n0_; have HB := n1_; have BK417 := n2_; have GW417 := n3_; have GE417 := n4_; have NB416_417 := n5_; have NB417_416 := n6_; clear n0_ n1_ n2_ n3_ n4_ n5_ n6_ hb hbox hg; have hnb18 := NB416_417.out; have hnc18 := NB417_416.out; have hcz19_0 : w17.cell? ⟨gb416, 0, none⟩ = some (.int .i64 a0_0) := (blk_cell BK416.out 0).trans rfl; have hcz19_1 : w17.cell? ⟨gb416, 1, none⟩ = some (.int .i64 a0_1) := (blk_cell BK416.out 1).trans rfl; have hcz19_2 : w17.cell? ⟨gb416, 2, none⟩ = some (.string a0_2) := (blk_cell BK416.out 2).trans rfl; have hfz19_0 := blk_frozen BK416.out 0; have hfz19_1 := blk_frozen BK416.out 1; have hfz19_2 := blk_frozen BK416.out 2; have hcz20_0 : w17.cell? ⟨gb417, 0, none⟩ = some (.int .i64 a1_0) := (blk_cell BK417.out 0).trans rfl; have hcz20_1 : w17.cell? ⟨gb417, 1, none⟩ = some (.int .i64 a1_1) := (blk_cell BK417.out 1).trans rfl; have hcz20_2 : w17.cell? ⟨gb417, 2, none⟩ = some (.string a1_2) := (blk_cell BK417.out 2).trans rfl; have hfz20_0 := blk_frozen BK417.out 0; have hfz20_1 := blk_frozen BK417.out 1; have hfz20_2 := blk_frozen BK417.out 2))
   go_ret
   exact ⟨by first | rfl | (simp [errW_none, errW_some] <;> rfl) | (simp [*, errW_none, errW_some] <;> rfl), by repeat (first | (with_reducible first | exact HB.out | apply below_alloc | apply pw_below_drewN | apply below_drew1 | refine below_set ?_ GE416.out | refine below_set ?_ GE417.out) | exact HB.out)⟩
 rw [if_neg c3] at H
 have c3b0 : (a0_0 == a1_0) = false := beq_eq_false_iff_ne.mpr c3
 have c3b1 : (a0_0 != a1_0) = true := bne_iff_ne.mpr c3
 obtain rfl := Option.some.inj H
 go_enter Tryd.func33, Tryd.ntmps33
 go_wp2_with (first | ((with_reducible refine gate_dst (N := 2) rfl ?_); refine box_event ?hg (N := 2) ?hd (cs := #[.int .i64 a0_0, .int .i64 a0_1, .string a0_2]) (t := 26) ?hr ?_; (case hd => rfl); (case hg => rfl); (case hr => first | (go_simp; done) | (go_simp; rfl)); intro gb416 hg w21 hbox hb; have n0_ := Aside0.mk (below_step (by repeat (first | (with_reducible first | exact HB.out | apply below_alloc | apply pw_below_drewN | apply below_drew1) | exact HB.out)) hb); have n1_ := Aside0.mk (hbox); have n2_ := Aside0.mk ((by rw [hg]; exact (below_size (by repeat (first | (with_reducible first | exact HB.out | apply below_alloc | apply pw_below_drewN | apply below_drew1) | exact HB.out))) : w.heap.size ≤ gb416)); have n3_ := Aside0.mk ((by rw [hg]; exact (below_size (by repeat (first | (with_reducible first | exact HB.out | apply below_alloc | apply pw_below_drewN | apply below_drew1) | exact HB.out))) : w.heap.size ≤ gb416)); clear HB; have HB := n0_; have BK416 := n1_; have GW416 := n2_; have GE416 := n3_; clear n0_ n1_ n2_ n3_ hb hbox hg) | ((with_reducible refine gate_dst (N := 3) rfl ?_); refine box_event ?hg (N := 3) ?hd (cs := #[.int .i64 a1_0, .int .i64 a1_1, .string a1_2]) (t := 26) ?hr ?_; (case hd => rfl); (case hg => rfl); (case hr => first | (go_simp; done) | (go_simp; rfl)); intro gb417 hg w22 hbox hb; have n0_ := Aside0.mk (blk_below (g := gb416) (o := .cells #[.int .i64 a0_0, .int .i64 a0_1, .string a0_2] 26 (0, 0)) (by (with_reducible repeat (first | refine blk_drewN ?_ _ | refine blk_drew ?_ | refine blk_alloc ?_ _)); exact BK416.out) hb); have n1_ := Aside0.mk (below_step (by repeat (first | (with_reducible first | exact HB.out | apply below_alloc | apply pw_below_drewN | apply below_drew1 | refine below_set ?_ GE416.out) | exact HB.out)) hb); have n2_ := Aside0.mk (hbox); have n3_ := Aside0.mk ((by rw [hg]; exact (below_size (by repeat (first | (with_reducible first | exact HB.out | apply below_alloc | apply pw_below_drewN | apply below_drew1 | refine below_set ?_ GE416.out) | exact HB.out))) : w.heap.size ≤ gb417)); have n4_ := Aside0.mk ((by rw [hg]; exact (below_size (by repeat (first | (with_reducible first | exact HB.out | apply below_alloc | apply pw_below_drewN | apply below_drew1 | refine below_set ?_ GE416.out) | exact HB.out))) : w.heap.size ≤ gb417)); have n5_ := Aside0.mk ((by rw [hg]; exact Nat.ne_of_lt (blk_lt (g := gb416) (o := .cells #[.int .i64 a0_0, .int .i64 a0_1, .string a0_2] 26 (0, 0)) (by (with_reducible repeat (first | refine blk_drewN ?_ _ | refine blk_drew ?_ | refine blk_alloc ?_ _)); exact BK416.out)) : gb416 ≠ gb417)); have n6_ := Aside0.mk ((by rw [hg]; exact Nat.ne_of_gt (blk_lt (g := gb416) (o := .cells #[.int .i64 a0_0, .int .i64 a0_1, .string a0_2] 26 (0, 0)) (by (with_reducible repeat (first | refine blk_drewN ?_ _ | refine blk_drew ?_ | refine blk_alloc ?_ _)); exact BK416.out)) : gb417 ≠ gb416)); clear BK416 HB; have BK416 := n0_; have HB := n1_; have BK417 := n2_; have GW417 := n3_; have GE417 := n4_; have NB416_417 := n5_; have NB417_416 := n6_; clear n0_ n1_ n2_ n3_ n4_ n5_ n6_ hb hbox hg; have hnb23 := NB416_417.out; have hnc23 := NB417_416.out; have hcz24_0 : w22.cell? ⟨gb416, 0, none⟩ = some (.int .i64 a0_0) := (blk_cell BK416.out 0).trans rfl; have hcz24_1 : w22.cell? ⟨gb416, 1, none⟩ = some (.int .i64 a0_1) := (blk_cell BK416.out 1).trans rfl; have hcz24_2 : w22.cell? ⟨gb416, 2, none⟩ = some (.string a0_2) := (blk_cell BK416.out 2).trans rfl; have hfz24_0 := blk_frozen BK416.out 0; have hfz24_1 := blk_frozen BK416.out 1; have hfz24_2 := blk_frozen BK416.out 2; have hcz25_0 : w22.cell? ⟨gb417, 0, none⟩ = some (.int .i64 a1_0) := (blk_cell BK417.out 0).trans rfl; have hcz25_1 : w22.cell? ⟨gb417, 1, none⟩ = some (.int .i64 a1_1) := (blk_cell BK417.out 1).trans rfl; have hcz25_2 : w22.cell? ⟨gb417, 2, none⟩ = some (.string a1_2) := (blk_cell BK417.out 2).trans rfl; have hfz25_0 := blk_frozen BK417.out 0; have hfz25_1 := blk_frozen BK417.out 1; have hfz25_2 := blk_frozen BK417.out 2))
 go_ret
 exact ⟨by first | rfl | (simp [errW_none, errW_some] <;> rfl) | (simp [*, errW_none, errW_some] <;> rfl), by repeat (first | (with_reducible first | exact HB.out | apply below_alloc | apply pw_below_drewN | apply below_drew1 | refine below_set ?_ GE416.out | refine below_set ?_ GE417.out) | exact HB.out)⟩

end Go.Proofs.YtajhjdhkeahlpaaDoor.P

-- made by printx.py (own driver over the kit's print); Lean checks it
namespace Go.Proofs.YtajhjdhkeahlpaaDoor.P
open Go.RowKit Go.Proofs.YtajhjdhkeahlpaaDoorW.PrintWords Go.Proofs.YtajhjdhkeahlpaaDoorW.PrintLast Go.Proofs.YtajhjdhkeahlpaaDoorW.PrintMore
attribute [local go_sem] max2_int min2_int max_two min_two max_three min_three max_four min_four   -- for this text's walks alone
set_option linter.unusedVariables false
set_option linter.unusedSimpArgs false

/-! ### laws_FnExactInsRead: function 7 -/
def laws_FnExactInsRead.j0 : Nat → ByteArray → Option (Bool)
  | 0, _ => none
  | k + 1, x0 => (spec_InsRead.f k x0).bind fun bt429 => ((impl_InsRead.f k x0).bind fun bt434 => ((laws_eqIns.f bt434.1 bt434.2.1 bt434.2.2.1 bt429.1 bt429.2.1 bt429.2.2.1).bind fun t439 => (if t439 = true then (if (bt434.2.2.2 != bt429.2.2.2) = true then (some false) else (some true)) else (some false))))
def laws_FnExactInsRead.f (k : Nat) (a0 : ByteArray) : Option (Bool) := if (a0.size : Int) > 1048576 then (some true) else (laws_FnExactInsRead.j0 k a0)
set_option maxHeartbeats 8000000 in
set_option maxRecDepth 100000 in
theorem laws_FnExactInsRead.calls (k : Nat) (a0 : ByteArray) (r : Bool) (w : World) (h : laws_FnExactInsRead.f k a0 = some r) (HT : Aside0 (Go.Proofs.YtajhjdhkeahlpaaDoor.L.Lies w)) :
    Calls Tryd.prog 7 #[.string a0] w fun e w' => e = .returned (.bool r) ∧ Below w.heap.size w w' := by
 have hu26 := Tryd.underlying26
 have HB := Aside0.mk (Below.refl w.heap.size w)
 have H : (if (a0.size : Int) > 1048576 then (some true) else (laws_FnExactInsRead.j0 k a0)) = some r := h
 clear h; have HC2 := Aside0.mk H; clear H
 go_enter Tryd.func7, Tryd.ntmps7
 go_upto_if 9 with (fail)
 go_cut [] (fun wc => ∃ (kq : Nat), Aside0 (laws_FnExactInsRead.j0 kq a0 = some r) ∧ Aside0 (kq ≤ k) ∧ Aside0 (Below w.heap.size w wc))
 case first =>
  have H := HC2.out
  clear HC2
  by_cases c3 : (a0.size : Int) > 1048576
  · rw [if_pos c3] at H
    have c3b0 : decide (1048576 < (a0.size : Int)) = true := decide_eq_true c3
    have c3b1 : decide (1048576 < a0.size) = true := decide_eq_true (by omega)
    clear c3
    (first | rw [c3b0] | (simp only [i64_w, i32_w]; rw [c3b0]) | (have cn_ := c3b0; simp only [bne] at cn_; rw [cn_]; clear cn_) | skip)
    obtain rfl := Option.some.inj H
    go_wp2
    go_ret
    exact ⟨by first | rfl | (simp [errW_none, errW_some] <;> rfl) | (simp [*, errW_none, errW_some] <;> rfl), by repeat (first | (with_reducible first | exact HB.out | apply below_alloc | apply pw_below_drewN | apply below_drew1) | exact HB.out)⟩
  rw [if_neg c3] at H
  have c3b0 : decide (1048576 < (a0.size : Int)) = false := decide_eq_false c3
  have c3b1 : decide (1048576 < a0.size) = false := decide_eq_false (by omega)
  clear c3
  (first | rw [c3b0] | (simp only [i64_w, i32_w]; rw [c3b0]) | (have cn_ := c3b0; simp only [bne] at cn_; rw [cn_]; clear cn_) | skip)
  have H' := Aside0.mk H
  clear H
  go_wp2
  go_meet
  case rel => exact ⟨_, H', ⟨by first | omega | exact Nat.le_refl _⟩, ⟨by repeat (first | (with_reducible first | exact HB.out | apply below_alloc | apply pw_below_drewN | apply below_drew1) | exact HB.out)⟩⟩
 clear HC2; try clear p2; try clear c3; try clear c3b0; try clear c3b1
 obtain ⟨kq, HA, HJ1, HB⟩ := hcut
 obtain _ | kj1 := kq
 · exact absurd HA.out (by simp [laws_FnExactInsRead.j0])
 have H := HA.out
 clear HA
 simp only [laws_FnExactInsRead.j0] at H
 replace H := Option.bind_eq_some_iff.mp H
 obtain ⟨⟨t429, t430, t431, t432⟩, A40, H⟩ := H
 replace H : ((impl_InsRead.f kj1 a0).bind fun bt434 => ((laws_eqIns.f bt434.1 bt434.2.1 bt434.2.2.1 t429 t430 t431).bind fun t439 => (if t439 = true then (if (bt434.2.2.2 != t432) = true then (some false) else (some true)) else (some false)))) = some r := H
 have A4 := Aside0.mk A40; clear A40
 replace H := Option.bind_eq_some_iff.mp H
 obtain ⟨⟨t434, t435, t436, t437⟩, A50, H⟩ := H
 replace H : ((laws_eqIns.f t434 t435 t436 t429 t430 t431).bind fun t439 => (if t439 = true then (if (t437 != t432) = true then (some false) else (some true)) else (some false))) = some r := H
 have A5 := Aside0.mk A50; clear A50
 replace H := Option.bind_eq_some_iff.mp H
 obtain ⟨t439, A60, H⟩ := H
 replace H : (if t439 = true then (if (t437 != t432) = true then (some false) else (some true)) else (some false)) = some r := H
 have A6 := Aside0.mk A60; clear A60
 by_cases c7 : t439 = true
 · subst c7
   have H1 : (if (t437 != t432) = true then (some false) else (some true)) = some r := by rw [if_pos rfl] at H; exact H
   clear H
   have H := H1
   clear H1
   by_cases c8 : (t437 != t432) = true
   · rw [if_pos c8] at H
     have c8b0 : (t437 != t432) = true := c8
     (try (have c8b1 : decide (t437 = t432) = false := by simpa using c8))
     (try (have c8b2 : (t437 == t432) = false := by simpa using c8))
     (try (have c8b3 : ¬ (t437 = t432) := by simpa using c8))
     clear c8
     obtain rfl := Option.some.inj H
     go_wp2_with (first | ((with_reducible refine gate_callee (f := 31) rfl ?_); refine goesL_ (some 12) rfl rfl Tryd.func31 (by kernel_rfl) rfl #[.string a0] rfl (by (try simp only [List.map_toArray, List.map_cons, List.map_nil]); first | done | rfl | (simp only [List.length_drop, List.length_take]; rfl)) ?_; (with_reducible refine (spec_InsRead.calls kj1 a0 t429 t430 t431 t432 _ A4.out).mono ?_); rintro e w9 ⟨rfl, hb⟩; refine ⟨_, rfl, ?_⟩; have n0_ := Aside0.mk (below_step (by repeat (first | (with_reducible first | exact HB.out | apply below_alloc | apply pw_below_drewN | apply below_drew1) | exact HB.out)) hb); clear HB; have HB := n0_; clear n0_; (try clear hb); (try clear hb2); (try clear hk); (try clear hi)) | ((with_reducible refine gate_dst (N := 3) rfl ?_); refine box_event ?hg (N := 3) ?hd (cs := #[.int .i64 0, .int .i64 0, .string (⟨#[]⟩ : ByteArray)]) (t := 26) ?hr ?_; (case hd => rfl); (case hg => rfl); (case hr => first | (go_simp; done) | (go_simp; rfl)); intro gb433 hg w10 hbox hb; have n0_ := Aside0.mk (below_step (by repeat (first | (with_reducible first | exact HB.out | apply below_alloc | apply pw_below_drewN | apply below_drew1) | exact HB.out)) hb); have n1_ := Aside0.mk (hbox); have n2_ := Aside0.mk ((by rw [hg]; exact (below_size (by repeat (first | (with_reducible first | exact HB.out | apply below_alloc | apply pw_below_drewN | apply below_drew1) | exact HB.out))) : w.heap.size ≤ gb433)); have n3_ := Aside0.mk ((by rw [hg]; exact (below_size (by repeat (first | (with_reducible first | exact HB.out | apply below_alloc | apply pw_below_drewN | apply below_drew1) | exact HB.out))) : w.heap.size ≤ gb433)); clear HB; have HB := n0_; have BK433 := n1_; have GW433 := n2_; have GE433 := n3_; clear n0_ n1_ n2_ n3_ hb hbox hg; have hcz11_0 : w10.cell? ⟨gb433, 0, none⟩ = some (.int .i64 0) := (blk_cell BK433.out 0).trans rfl; have hcz11_1 : w10.cell? ⟨gb433, 1, none⟩ = some (.int .i64 0) := (blk_cell BK433.out 1).trans rfl; have hcz11_2 : w10.cell? ⟨gb433, 2, none⟩ = some (.string (⟨#[]⟩ : ByteArray)) := (blk_cell BK433.out 2).trans rfl; have hfz11_0 := blk_frozen BK433.out 0; have hfz11_1 := blk_frozen BK433.out 1; have hfz11_2 := blk_frozen BK433.out 2) | ((with_reducible refine gate_callee (f := 32) rfl ?_); refine goesL_ (some 17) rfl rfl Tryd.func32 (by kernel_rfl) rfl #[.string a0] rfl (by (try simp only [List.map_toArray, List.map_cons, List.map_nil]); first | done | rfl | (simp only [List.length_drop, List.length_take]; rfl)) ?_; (with_reducible refine (impl_InsRead.calls kj1 a0 t434 t435 t436 t437 _ A5.out ⟨?sT⟩).mono ?_); (case sT => exact (HT.out.below (by repeat (first | (with_reducible first | exact HB.out | exact Below.refl _ _ | apply below_alloc | apply pw_below_drewN | apply below_drew1 | refine below_set ?_ GE433.out | refine below_set ?_ GE438.out) | exact HB.out | exact Below.refl _ _)))); rintro e w12 ⟨rfl, hb⟩; refine ⟨_, rfl, ?_⟩; have n0_ := Aside0.mk (blk_below (g := gb433) (o := .cells #[.int .i64 t429, .int .i64 t430, .string t431] 26 (0, 0)) (by (with_reducible repeat (first | refine blk_drewN ?_ _ | refine blk_drew ?_ | refine blk_alloc ?_ _)); refine blk_put (cs := #[.int .i64 t429, .int .i64 t430, .string (⟨#[]⟩ : ByteArray)]) ?_ 2 _ rfl; (with_reducible repeat (first | refine blk_drewN ?_ _ | refine blk_drew ?_ | refine blk_alloc ?_ _)); refine blk_put (cs := #[.int .i64 t429, .int .i64 0, .string (⟨#[]⟩ : ByteArray)]) ?_ 1 _ rfl; (with_reducible repeat (first | refine blk_drewN ?_ _ | refine blk_drew ?_ | refine blk_alloc ?_ _)); refine blk_put (cs := #[.int .i64 0, .int .i64 0, .string (⟨#[]⟩ : ByteArray)]) ?_ 0 _ rfl; (with_reducible repeat (first | refine blk_drewN ?_ _ | refine blk_drew ?_ | refine blk_alloc ?_ _)); exact BK433.out) hb); have n1_ := Aside0.mk (below_step (by repeat (first | (with_reducible first | exact HB.out | apply below_alloc | apply pw_below_drewN | apply below_drew1 | refine below_set ?_ GE433.out) | exact HB.out)) hb); clear BK433 HB; have BK433 := n0_; have HB := n1_; clear n0_ n1_; (try clear hb); (try clear hb2); (try clear hk); (try clear hi)) | ((with_reducible refine gate_dst (N := 5) rfl ?_); refine box_event ?hg (N := 5) ?hd (cs := #[.int .i64 0, .int .i64 0, .string (⟨#[]⟩ : ByteArray)]) (t := 26) ?hr ?_; (case hd => rfl); (case hg => rfl); (case hr => first | (go_simp; done) | (go_simp; rfl)); intro gb438 hg w13 hbox hb; have n0_ := Aside0.mk (blk_below (g := gb433) (o := .cells #[.int .i64 t429, .int .i64 t430, .string t431] 26 (0, 0)) (by (with_reducible repeat (first | refine blk_drewN ?_ _ | refine blk_drew ?_ | refine blk_alloc ?_ _)); exact BK433.out) hb); have n1_ := Aside0.mk (below_step (by repeat (first | (with_reducible first | exact HB.out | apply below_alloc | apply pw_below_drewN | apply below_drew1 | refine below_set ?_ GE433.out) | exact HB.out)) hb); have n2_ := Aside0.mk (hbox); have n3_ := Aside0.mk ((by rw [hg]; exact (below_size (by repeat (first | (with_reducible first | exact HB.out | apply below_alloc | apply pw_below_drewN | apply below_drew1 | refine below_set ?_ GE433.out) | exact HB.out))) : w.heap.size ≤ gb438)); have n4_ := Aside0.mk ((by rw [hg]; exact (below_size (by repeat (first | (with_reducible first | exact HB.out | apply below_alloc | apply pw_below_drewN | apply below_drew1 | refine below_set ?_ GE433.out) | exact HB.out))) : w.heap.size ≤ gb438)); have n5_ := Aside0.mk ((by rw [hg]; exact Nat.ne_of_lt (blk_lt (g := gb433) (o := .cells #[.int .i64 t429, .int .i64 t430, .string t431] 26 (0, 0)) (by (with_reducible repeat (first | refine blk_drewN ?_ _ | refine blk_drew ?_ | refine blk_alloc ?_ _)); exact BK433.out)) : gb433 ≠ gb438)); have n6_ := Aside0.mk ((by rw [hg]; exact Nat.ne_of_gt (blk_lt (g := gb433) (o := .cells #[.int .i64 t429, .int .i64 t430, .string t431] 26 (0, 0)) (by (with_reducible repeat (first | refine blk_drewN ?_ _ | refine blk_drew ?_ | refine blk_alloc ?_ _)); exact BK433.out)) : gb438 ≠ gb433)); clear BK433 HB; have BK433 := n0_; have HB := n1_; have BK438 := n2_; have GW438 := n3_; have GE438 := n4_; have NB433_438 := n5_; have NB438_433 := n6_; clear n0_ n1_ n2_ n3_ n4_ n5_ n6_ hb hbox hg; have hnb14 := NB438_433.out; have hnc14 := NB433_438.out; have hcz15_0 : w13.cell? ⟨gb438, 0, none⟩ = some (.int .i64 0) := (blk_cell BK438.out 0).trans rfl; have hcz15_1 : w13.cell? ⟨gb438, 1, none⟩ = some (.int .i64 0) := (blk_cell BK438.out 1).trans rfl; have hcz15_2 : w13.cell? ⟨gb438, 2, none⟩ = some (.string (⟨#[]⟩ : ByteArray)) := (blk_cell BK438.out 2).trans rfl; have hfz15_0 := blk_frozen BK438.out 0; have hfz15_1 := blk_frozen BK438.out 1; have hfz15_2 := blk_frozen BK438.out 2; have hcz16_0 : w13.cell? ⟨gb433, 0, none⟩ = some (.int .i64 t429) := (blk_cell BK433.out 0).trans rfl; have hcz16_1 : w13.cell? ⟨gb433, 1, none⟩ = some (.int .i64 t430) := (blk_cell BK433.out 1).trans rfl; have hcz16_2 : w13.cell? ⟨gb433, 2, none⟩ = some (.string t431) := (blk_cell BK433.out 2).trans rfl; have hfz16_0 := blk_frozen BK433.out 0; have hfz16_1 := blk_frozen BK433.out 1; have hfz16_2 := blk_frozen BK433.out 2) | ((with_reducible refine gate_callee (f := 33) rfl ?_); refine goesL_ (some 22) rfl rfl Tryd.func33 (by kernel_rfl) rfl #[.agg #[.int .i64 t434, .int .i64 t435, .string t436], .agg #[.int .i64 t429, .int .i64 t430, .string t431]] rfl (by (try simp only [List.map_toArray, List.map_cons, List.map_nil]); first | done | rfl | (simp only [List.length_drop, List.length_take]; rfl)) ?_; (with_reducible refine (laws_eqIns.calls t434 t435 t436 t429 t430 t431 true _ A6.out).mono ?_); rintro e w17 ⟨rfl, hb⟩; refine ⟨_, rfl, ?_⟩; have n0_ := Aside0.mk (blk_below (g := gb433) (o := .cells #[.int .i64 t429, .int .i64 t430, .string t431] 26 (0, 0)) (by (with_reducible repeat (first | refine blk_drewN ?_ _ | refine blk_drew ?_ | refine blk_alloc ?_ _)); refine blk_far ?_ NB433_438.out _; (with_reducible repeat (first | refine blk_drewN ?_ _ | refine blk_drew ?_ | refine blk_alloc ?_ _)); refine blk_far ?_ NB433_438.out _; (with_reducible repeat (first | refine blk_drewN ?_ _ | refine blk_drew ?_ | refine blk_alloc ?_ _)); refine blk_far ?_ NB433_438.out _; (with_reducible repeat (first | refine blk_drewN ?_ _ | refine blk_drew ?_ | refine blk_alloc ?_ _)); exact BK433.out) hb); have n1_ := Aside0.mk (blk_below (g := gb438) (o := .cells #[.int .i64 t434, .int .i64 t435, .string t436] 26 (0, 0)) (by (with_reducible repeat (first | refine blk_drewN ?_ _ | refine blk_drew ?_ | refine blk_alloc ?_ _)); refine blk_put (cs := #[.int .i64 t434, .int .i64 t435, .string (⟨#[]⟩ : ByteArray)]) ?_ 2 _ rfl; (with_reducible repeat (first | refine blk_drewN ?_ _ | refine blk_drew ?_ | refine blk_alloc ?_ _)); refine blk_put (cs := #[.int .i64 t434, .int .i64 0, .string (⟨#[]⟩ : ByteArray)]) ?_ 1 _ rfl; (with_reducible repeat (first | refine blk_drewN ?_ _ | refine blk_drew ?_ | refine blk_alloc ?_ _)); refine blk_put (cs := #[.int .i64 0, .int .i64 0, .string (⟨#[]⟩ : ByteArray)]) ?_ 0 _ rfl; (with_reducible repeat (first | refine blk_drewN ?_ _ | refine blk_drew ?_ | refine blk_alloc ?_ _)); exact BK438.out) hb); have n2_ := Aside0.mk (below_step (by repeat (first | (with_reducible first | exact HB.out | apply below_alloc | apply pw_below_drewN | apply below_drew1 | refine below_set ?_ GE433.out | refine below_set ?_ GE438.out) | exact HB.out)) hb); clear BK433 BK438 HB; have BK433 := n0_; have BK438 := n1_; have HB := n2_; clear n0_ n1_ n2_; (try clear hb); (try clear hb2); (try clear hk); (try clear hi)))
     go_ret
     exact ⟨by first | rfl | (simp [errW_none, errW_some] <;> rfl) | (simp [*, errW_none, errW_some] <;> rfl), by repeat (first | (with_reducible first | exact HB.out | apply below_alloc | apply pw_below_drewN | apply below_drew1 | refine below_set ?_ GE433.out | refine below_set ?_ GE438.out) | exact HB.out)⟩
   rw [if_neg c8] at H
   have c8b0 : (t437 != t432) = false := by simpa using c8
   (try (have c8b1 : decide (t437 = t432) = true := by simpa using c8))
   (try (have c8b2 : (t437 == t432) = true := by simpa using c8))
   clear c8
   obtain rfl := Option.some.inj H
   go_wp2_with (first | ((with_reducible refine gate_callee (f := 31) rfl ?_); refine goesL_ (some 12) rfl rfl Tryd.func31 (by kernel_rfl) rfl #[.string a0] rfl (by (try simp only [List.map_toArray, List.map_cons, List.map_nil]); first | done | rfl | (simp only [List.length_drop, List.length_take]; rfl)) ?_; (with_reducible refine (spec_InsRead.calls kj1 a0 t429 t430 t431 t432 _ A4.out).mono ?_); rintro e w18 ⟨rfl, hb⟩; refine ⟨_, rfl, ?_⟩; have n0_ := Aside0.mk (below_step (by repeat (first | (with_reducible first | exact HB.out | apply below_alloc | apply pw_below_drewN | apply below_drew1) | exact HB.out)) hb); clear HB; have HB := n0_; clear n0_; (try clear hb); (try clear hb2); (try clear hk); (try clear hi)) | ((with_reducible refine gate_dst (N := 3) rfl ?_); refine box_event ?hg (N := 3) ?hd (cs := #[.int .i64 0, .int .i64 0, .string (⟨#[]⟩ : ByteArray)]) (t := 26) ?hr ?_; (case hd => rfl); (case hg => rfl); (case hr => first | (go_simp; done) | (go_simp; rfl)); intro gb433 hg w19 hbox hb; have n0_ := Aside0.mk (below_step (by repeat (first | (with_reducible first | exact HB.out | apply below_alloc | apply pw_below_drewN | apply below_drew1) | exact HB.out)) hb); have n1_ := Aside0.mk (hbox); have n2_ := Aside0.mk ((by rw [hg]; exact (below_size (by repeat (first | (with_reducible first | exact HB.out | apply below_alloc | apply pw_below_drewN | apply below_drew1) | exact HB.out))) : w.heap.size ≤ gb433)); have n3_ := Aside0.mk ((by rw [hg]; exact (below_size (by repeat (first | (with_reducible first | exact HB.out | apply below_alloc | apply pw_below_drewN | apply below_drew1) | exact HB.out))) : w.heap.size ≤ gb433)); clear HB; have HB := n0_; have BK433 := n1_; have GW433 := n2_; have GE433 := n3_; clear n0_ n1_ n2_ n3_ hb hbox hg; have hcz20_0 : w19.cell? ⟨gb433, 0, none⟩ = some (.int .i64 0) := (blk_cell BK433.out 0).trans rfl; have hcz20_1 : w19.cell? ⟨gb433, 1, none⟩ = some (.int .i64 0) := (blk_cell BK433.out 1).trans rfl; have hcz20_2 : w19.cell? ⟨gb433, 2, none⟩ = some (.string (⟨#[]⟩ : ByteArray)) := (blk_cell BK433.out 2).trans rfl; have hfz20_0 := blk_frozen BK433.out 0; have hfz20_1 := blk_frozen BK433.out 1; have hfz20_2 := blk_frozen BK433.out 2) | ((with_reducible refine gate_callee (f := 32) rfl ?_); refine goesL_ (some 17) rfl rfl Tryd.func32 (by kernel_rfl) rfl #[.string a0] rfl (by (try simp only [List.map_toArray, List.map_cons, List.map_nil]); first | done | rfl | (simp only [List.length_drop, List.length_take]; rfl)) ?_; (with_reducible refine (impl_InsRead.calls kj1 a0 t434 t435 t436 t437 _ A5.out ⟨?sT⟩).mono ?_); (case sT => exact (HT.out.below (by repeat (first | (with_reducible first | exact HB.out | exact Below.refl _ _ | apply below_alloc | apply pw_below_drewN | apply below_drew1 | refine below_set ?_ GE433.out | refine below_set ?_ GE438.out) | exact HB.out | exact Below.refl _ _)))); rintro e w21 ⟨rfl, hb⟩; refine ⟨_, rfl, ?_⟩; have n0_ := Aside0.mk (blk_below (g := gb433) (o := .cells #[.int .i64 t429, .int .i64 t430, .string t431] 26 (0, 0)) (by (with_reducible repeat (first | refine blk_drewN ?_ _ | refine blk_drew ?_ | refine blk_alloc ?_ _)); refine blk_put (cs := #[.int .i64 t429, .int .i64 t430, .string (⟨#[]⟩ : ByteArray)]) ?_ 2 _ rfl; (with_reducible repeat (first | refine blk_drewN ?_ _ | refine blk_drew ?_ | refine blk_alloc ?_ _)); refine blk_put (cs := #[.int .i64 t429, .int .i64 0, .string (⟨#[]⟩ : ByteArray)]) ?_ 1 _ rfl; (with_reducible repeat (first | refine blk_drewN ?_ _ | refine blk_drew ?_ | refine blk_alloc ?_ _)); refine blk_put (cs := #[.int .i64 0, .int .i64 0, .string (⟨#[]⟩ : ByteArray)]) ?_ 0 _ rfl; (with_reducible repeat (first | refine blk_drewN ?_ _ | refine blk_drew ?_ | refine blk_alloc ?_ _)); exact BK433.out) hb); have n1_ := Aside0.mk (below_step (by repeat (first | (with_reducible first | exact HB.out | apply below_alloc | apply pw_below_drewN | apply below_drew1 | refine below_set ?_ GE433.out) | exact HB.out)) hb); clear BK433 HB; have BK433 := n0_; have HB := n1_; clear n0_ n1_; (try clear hb); (try clear hb2); (try clear hk); (try clear hi)) | ((with_reducible refine gate_dst (N := 5) rfl ?_); refine box_event ?hg (N := 5) ?hd (cs := #[.int .i64 0, .int .i64 0, .string (⟨#[]⟩ : ByteArray)]) (t := 26) ?hr ?_; (case hd => rfl); (case hg => rfl); (case hr => first | (go_simp; done) | (go_simp; rfl)); intro gb438 hg w22 hbox hb; have n0_ := Aside0.mk (blk_below (g := gb433) (o := .cells #[.int .i64 t429, .int .i64 t430, .string t431] 26 (0, 0)) (by (with_reducible repeat (first | refine blk_drewN ?_ _ | refine blk_drew ?_ | refine blk_alloc ?_ _)); exact BK433.out) hb); have n1_ := Aside0.mk (below_step (by repeat (first | (with_reducible first | exact HB.out | apply below_alloc | apply pw_below_drewN | apply below_drew1 | refine below_set ?_ GE433.out) | exact HB.out)) hb); have n2_ := Aside0.mk (hbox); have n3_ := Aside0.mk ((by rw [hg]; exact (below_size (by repeat (first | (with_reducible first | exact HB.out | apply below_alloc | apply pw_below_drewN | apply below_drew1 | refine below_set ?_ GE433.out) | exact HB.out))) : w.heap.size ≤ gb438)); have n4_ := Aside0.mk ((by rw [hg]; exact (below_size (by repeat (first | (with_reducible first | exact HB.out | apply below_alloc | apply pw_below_drewN | apply below_drew1 | refine below_set ?_ GE433.out) | exact HB.out))) : w.heap.size ≤ gb438)); have n5_ := Aside0.mk ((by rw [hg]; exact Nat.ne_of_lt (blk_lt (g := gb433) (o := .cells #[.int .i64 t429, .int .i64 t430, .string t431] 26 (0, 0)) (by (with_reducible repeat (first | refine blk_drewN ?_ _ | refine blk_drew ?_ | refine blk_alloc ?_ _)); exact BK433.out)) : gb433 ≠ gb438)); have n6_ := Aside0.mk ((by rw [hg]; exact Nat.ne_of_gt (blk_lt (g := gb433) (o := .cells #[.int .i64 t429, .int .i64 t430, .string t431] 26 (0, 0)) (by (with_reducible repeat (first | refine blk_drewN ?_ _ | refine blk_drew ?_ | refine blk_alloc ?_ _)); exact BK433.out)) : gb438 ≠ gb433)); clear BK433 HB; have BK433 := n0_; have HB := n1_; have BK438 := n2_; have GW438 := n3_; have GE438 := n4_; have NB433_438 := n5_; have NB438_433 := n6_; clear n0_ n1_ n2_ n3_ n4_ n5_ n6_ hb hbox hg; have hnb23 := NB438_433.out; have hnc23 := NB433_438.out; have hcz24_0 : w22.cell? ⟨gb438, 0, none⟩ = some (.int .i64 0) := (blk_cell BK438.out 0).trans rfl; have hcz24_1 : w22.cell? ⟨gb438, 1, none⟩ = some (.int .i64 0) := (blk_cell BK438.out 1).trans rfl; have hcz24_2 : w22.cell? ⟨gb438, 2, none⟩ = some (.string (⟨#[]⟩ : ByteArray)) := (blk_cell BK438.out 2).trans rfl; have hfz24_0 := blk_frozen BK438.out 0; have hfz24_1 := blk_frozen BK438.out 1; have hfz24_2 := blk_frozen BK438.out 2; have hcz25_0 : w22.cell? ⟨gb433, 0, none⟩ = some (.int .i64 t429) := (blk_cell BK433.out 0).trans rfl; have hcz25_1 : w22.cell? ⟨gb433, 1, none⟩ = some (.int .i64 t430) := (blk_cell BK433.out 1).trans rfl; have hcz25_2 : w22.cell? ⟨gb433, 2, none⟩ = some (.string t431) := (blk_cell BK433.out 2).trans rfl; have hfz25_0 := blk_frozen BK433.out 0; have hfz25_1 := blk_frozen BK433.out 1; have hfz25_2 := blk_frozen BK433.out 2) | ((with_reducible refine gate_callee (f := 33) rfl ?_); refine goesL_ (some 22) rfl rfl Tryd.func33 (by kernel_rfl) rfl #[.agg #[.int .i64 t434, .int .i64 t435, .string t436], .agg #[.int .i64 t429, .int .i64 t430, .string t431]] rfl (by (try simp only [List.map_toArray, List.map_cons, List.map_nil]); first | done | rfl | (simp only [List.length_drop, List.length_take]; rfl)) ?_; (with_reducible refine (laws_eqIns.calls t434 t435 t436 t429 t430 t431 true _ A6.out).mono ?_); rintro e w26 ⟨rfl, hb⟩; refine ⟨_, rfl, ?_⟩; have n0_ := Aside0.mk (blk_below (g := gb433) (o := .cells #[.int .i64 t429, .int .i64 t430, .string t431] 26 (0, 0)) (by (with_reducible repeat (first | refine blk_drewN ?_ _ | refine blk_drew ?_ | refine blk_alloc ?_ _)); refine blk_far ?_ NB433_438.out _; (with_reducible repeat (first | refine blk_drewN ?_ _ | refine blk_drew ?_ | refine blk_alloc ?_ _)); refine blk_far ?_ NB433_438.out _; (with_reducible repeat (first | refine blk_drewN ?_ _ | refine blk_drew ?_ | refine blk_alloc ?_ _)); refine blk_far ?_ NB433_438.out _; (with_reducible repeat (first | refine blk_drewN ?_ _ | refine blk_drew ?_ | refine blk_alloc ?_ _)); exact BK433.out) hb); have n1_ := Aside0.mk (blk_below (g := gb438) (o := .cells #[.int .i64 t434, .int .i64 t435, .string t436] 26 (0, 0)) (by (with_reducible repeat (first | refine blk_drewN ?_ _ | refine blk_drew ?_ | refine blk_alloc ?_ _)); refine blk_put (cs := #[.int .i64 t434, .int .i64 t435, .string (⟨#[]⟩ : ByteArray)]) ?_ 2 _ rfl; (with_reducible repeat (first | refine blk_drewN ?_ _ | refine blk_drew ?_ | refine blk_alloc ?_ _)); refine blk_put (cs := #[.int .i64 t434, .int .i64 0, .string (⟨#[]⟩ : ByteArray)]) ?_ 1 _ rfl; (with_reducible repeat (first | refine blk_drewN ?_ _ | refine blk_drew ?_ | refine blk_alloc ?_ _)); refine blk_put (cs := #[.int .i64 0, .int .i64 0, .string (⟨#[]⟩ : ByteArray)]) ?_ 0 _ rfl; (with_reducible repeat (first | refine blk_drewN ?_ _ | refine blk_drew ?_ | refine blk_alloc ?_ _)); exact BK438.out) hb); have n2_ := Aside0.mk (below_step (by repeat (first | (with_reducible first | exact HB.out | apply below_alloc | apply pw_below_drewN | apply below_drew1 | refine below_set ?_ GE433.out | refine below_set ?_ GE438.out) | exact HB.out)) hb); clear BK433 BK438 HB; have BK433 := n0_; have BK438 := n1_; have HB := n2_; clear n0_ n1_ n2_; (try clear hb); (try clear hb2); (try clear hk); (try clear hi)))
   go_ret
   exact ⟨by first | rfl | (simp [errW_none, errW_some] <;> rfl) | (simp [*, errW_none, errW_some] <;> rfl), by repeat (first | (with_reducible first | exact HB.out | apply below_alloc | apply pw_below_drewN | apply below_drew1 | refine below_set ?_ GE433.out | refine below_set ?_ GE438.out) | exact HB.out)⟩
 replace c7 := Bool.eq_false_iff.mpr c7
 subst c7
 have H1 : (some false) = some r := by rw [if_neg (show ¬ (false = true) by decide)] at H; exact H
 clear H
 have H := H1
 clear H1
 obtain rfl := Option.some.inj H
 go_wp2_with (first | ((with_reducible refine gate_callee (f := 31) rfl ?_); refine goesL_ (some 12) rfl rfl Tryd.func31 (by kernel_rfl) rfl #[.string a0] rfl (by (try simp only [List.map_toArray, List.map_cons, List.map_nil]); first | done | rfl | (simp only [List.length_drop, List.length_take]; rfl)) ?_; (with_reducible refine (spec_InsRead.calls kj1 a0 t429 t430 t431 t432 _ A4.out).mono ?_); rintro e w27 ⟨rfl, hb⟩; refine ⟨_, rfl, ?_⟩; have n0_ := Aside0.mk (below_step (by repeat (first | (with_reducible first | exact HB.out | apply below_alloc | apply pw_below_drewN | apply below_drew1) | exact HB.out)) hb); clear HB; have HB := n0_; clear n0_; (try clear hb); (try clear hb2); (try clear hk); (try clear hi)) | ((with_reducible refine gate_dst (N := 3) rfl ?_); refine box_event ?hg (N := 3) ?hd (cs := #[.int .i64 0, .int .i64 0, .string (⟨#[]⟩ : ByteArray)]) (t := 26) ?hr ?_; (case hd => rfl); (case hg => rfl); (case hr => first | (go_simp; done) | (go_simp; rfl)); intro gb433 hg w28 hbox hb; have n0_ := Aside0.mk (below_step (by repeat (first | (with_reducible first | exact HB.out | apply below_alloc | apply pw_below_drewN | apply below_drew1) | exact HB.out)) hb); have n1_ := Aside0.mk (hbox); have n2_ := Aside0.mk ((by rw [hg]; exact (below_size (by repeat (first | (with_reducible first | exact HB.out | apply below_alloc | apply pw_below_drewN | apply below_drew1) | exact HB.out))) : w.heap.size ≤ gb433)); have n3_ := Aside0.mk ((by rw [hg]; exact (below_size (by repeat (first | (with_reducible first | exact HB.out | apply below_alloc | apply pw_below_drewN | apply below_drew1) | exact HB.out))) : w.heap.size ≤ gb433)); clear HB; have HB := n0_; have BK433 := n1_; have GW433 := n2_; have GE433 := n3_; clear n0_ n1_ n2_ n3_ hb hbox hg; have hcz29_0 : w28.cell? ⟨gb433, 0, none⟩ = some (.int .i64 0) := (blk_cell BK433.out 0).trans rfl; have hcz29_1 : w28.cell? ⟨gb433, 1, none⟩ = some (.int .i64 0) := (blk_cell BK433.out 1).trans rfl; have hcz29_2 : w28.cell? ⟨gb433, 2, none⟩ = some (.string (⟨#[]⟩ : ByteArray)) := (blk_cell BK433.out 2).trans rfl; have hfz29_0 := blk_frozen BK433.out 0; have hfz29_1 := blk_frozen BK433.out 1; have hfz29_2 := blk_frozen BK433.out 2) | ((with_reducible refine gate_callee (f := 32) rfl ?_); refine goesL_ (some 17) rfl rfl Tryd.func32 (by kernel_rfl) rfl #[.string a0] rfl (by (try simp only [List.map_toArray, List.map_cons, List.map_nil]); first | done | rfl | (simp only [List.length_drop, List.length_take]; rfl)) ?_; (with_reducible refine (impl_InsRead.calls kj1 a0 t434 t435 t436 t437 _ A5.out ⟨?sT⟩).mono ?_); (case sT => exact (HT.out.below (by repeat (first | (with_reducible first | exact HB.out | exact Below.refl _ _ | apply below_alloc | apply pw_below_drewN | apply below_drew1 | refine below_set ?_ GE433.out | refine below_set ?_ GE438.out) | exact HB.out | exact Below.refl _ _)))); rintro e w30 ⟨rfl, hb⟩; refine ⟨_, rfl, ?_⟩; have n0_ := Aside0.mk (blk_below (g := gb433) (o := .cells #[.int .i64 t429, .int .i64 t430, .string t431] 26 (0, 0)) (by (with_reducible repeat (first | refine blk_drewN ?_ _ | refine blk_drew ?_ | refine blk_alloc ?_ _)); refine blk_put (cs := #[.int .i64 t429, .int .i64 t430, .string (⟨#[]⟩ : ByteArray)]) ?_ 2 _ rfl; (with_reducible repeat (first | refine blk_drewN ?_ _ | refine blk_drew ?_ | refine blk_alloc ?_ _)); refine blk_put (cs := #[.int .i64 t429, .int .i64 0, .string (⟨#[]⟩ : ByteArray)]) ?_ 1 _ rfl; (with_reducible repeat (first | refine blk_drewN ?_ _ | refine blk_drew ?_ | refine blk_alloc ?_ _)); refine blk_put (cs := #[.int .i64 0, .int .i64 0, .string (⟨#[]⟩ : ByteArray)]) ?_ 0 _ rfl; (with_reducible repeat (first | refine blk_drewN ?_ _ | refine blk_drew ?_ | refine blk_alloc ?_ _)); exact BK433.out) hb); have n1_ := Aside0.mk (below_step (by repeat (first | (with_reducible first | exact HB.out | apply below_alloc | apply pw_below_drewN | apply below_drew1 | refine below_set ?_ GE433.out) | exact HB.out)) hb); clear BK433 HB; have BK433 := n0_; have HB := n1_; clear n0_ n1_; (try clear hb); (try clear hb2); (try clear hk); (try clear hi)) | ((with_reducible refine gate_dst (N := 5) rfl ?_); refine box_event ?hg (N := 5) ?hd (cs := #[.int .i64 0, .int .i64 0, .string (⟨#[]⟩ : ByteArray)]) (t := 26) ?hr ?_; (case hd => rfl); (case hg => rfl); (case hr => first | (go_simp; done) | (go_simp; rfl)); intro gb438 hg w31 hbox hb; have n0_ := Aside0.mk (blk_below (g := gb433) (o := .cells #[.int .i64 t429, .int .i64 t430, .string t431] 26 (0, 0)) (by (with_reducible repeat (first | refine blk_drewN ?_ _ | refine blk_drew ?_ | refine blk_alloc ?_ _)); exact BK433.out) hb); have n1_ := Aside0.mk (below_step (by repeat (first | (with_reducible first | exact HB.out | apply below_alloc | apply pw_below_drewN | apply below_drew1 | refine below_set ?_ GE433.out) | exact HB.out)) hb); have n2_ := Aside0.mk (hbox); have n3_ := Aside0.mk ((by rw [hg]; exact (below_size (by repeat (first | (with_reducible first | exact HB.out | apply below_alloc | apply pw_below_drewN | apply below_drew1 | refine below_set ?_ GE433.out) | exact HB.out))) : w.heap.size ≤ gb438)); have n4_ := Aside0.mk ((by rw [hg]; exact (below_size (by repeat (first | (with_reducible first | exact HB.out | apply below_alloc | apply pw_below_drewN | apply below_drew1 | refine below_set ?_ GE433.out) | exact HB.out))) : w.heap.size ≤ gb438)); have n5_ := Aside0.mk ((by rw [hg]; exact Nat.ne_of_lt (blk_lt (g := gb433) (o := .cells #[.int .i64 t429, .int .i64 t430, .string t431] 26 (0, 0)) (by (with_reducible repeat (first | refine blk_drewN ?_ _ | refine blk_drew ?_ | refine blk_alloc ?_ _)); exact BK433.out)) : gb433 ≠ gb438)); have n6_ := Aside0.mk ((by rw [hg]; exact Nat.ne_of_gt (blk_lt (g := gb433) (o := .cells #[.int .i64 t429, .int .i64 t430, .string t431] 26 (0, 0)) (by (with_reducible repeat (first | refine blk_drewN ?_ _ | refine blk_drew ?_ | refine blk_alloc ?_ _)); exact BK433.out)) : gb438 ≠ gb433)); clear BK433 HB; have BK433 := n0_; have HB := n1_; have BK438 := n2_; have GW438 := n3_; have GE438 := n4_; have NB433_438 := n5_; have NB438_433 := n6_; clear n0_ n1_ n2_ n3_ n4_ n5_ n6_ hb hbox hg; have hnb32 := NB438_433.out; have hnc32 := NB433_438.out; have hcz33_0 : w31.cell? ⟨gb438, 0, none⟩ = some (.int .i64 0) := (blk_cell BK438.out 0).trans rfl; have hcz33_1 : w31.cell? ⟨gb438, 1, none⟩ = some (.int .i64 0) := (blk_cell BK438.out 1).trans rfl; have hcz33_2 : w31.cell? ⟨gb438, 2, none⟩ = some (.string (⟨#[]⟩ : ByteArray)) := (blk_cell BK438.out 2).trans rfl; have hfz33_0 := blk_frozen BK438.out 0; have hfz33_1 := blk_frozen BK438.out 1; have hfz33_2 := blk_frozen BK438.out 2; have hcz34_0 : w31.cell? ⟨gb433, 0, none⟩ = some (.int .i64 t429) := (blk_cell BK433.out 0).trans rfl; have hcz34_1 : w31.cell? ⟨gb433, 1, none⟩ = some (.int .i64 t430) := (blk_cell BK433.out 1).trans rfl; have hcz34_2 : w31.cell? ⟨gb433, 2, none⟩ = some (.string t431) := (blk_cell BK433.out 2).trans rfl; have hfz34_0 := blk_frozen BK433.out 0; have hfz34_1 := blk_frozen BK433.out 1; have hfz34_2 := blk_frozen BK433.out 2) | ((with_reducible refine gate_callee (f := 33) rfl ?_); refine goesL_ (some 22) rfl rfl Tryd.func33 (by kernel_rfl) rfl #[.agg #[.int .i64 t434, .int .i64 t435, .string t436], .agg #[.int .i64 t429, .int .i64 t430, .string t431]] rfl (by (try simp only [List.map_toArray, List.map_cons, List.map_nil]); first | done | rfl | (simp only [List.length_drop, List.length_take]; rfl)) ?_; (with_reducible refine (laws_eqIns.calls t434 t435 t436 t429 t430 t431 false _ A6.out).mono ?_); rintro e w35 ⟨rfl, hb⟩; refine ⟨_, rfl, ?_⟩; have n0_ := Aside0.mk (blk_below (g := gb433) (o := .cells #[.int .i64 t429, .int .i64 t430, .string t431] 26 (0, 0)) (by (with_reducible repeat (first | refine blk_drewN ?_ _ | refine blk_drew ?_ | refine blk_alloc ?_ _)); refine blk_far ?_ NB433_438.out _; (with_reducible repeat (first | refine blk_drewN ?_ _ | refine blk_drew ?_ | refine blk_alloc ?_ _)); refine blk_far ?_ NB433_438.out _; (with_reducible repeat (first | refine blk_drewN ?_ _ | refine blk_drew ?_ | refine blk_alloc ?_ _)); refine blk_far ?_ NB433_438.out _; (with_reducible repeat (first | refine blk_drewN ?_ _ | refine blk_drew ?_ | refine blk_alloc ?_ _)); exact BK433.out) hb); have n1_ := Aside0.mk (blk_below (g := gb438) (o := .cells #[.int .i64 t434, .int .i64 t435, .string t436] 26 (0, 0)) (by (with_reducible repeat (first | refine blk_drewN ?_ _ | refine blk_drew ?_ | refine blk_alloc ?_ _)); refine blk_put (cs := #[.int .i64 t434, .int .i64 t435, .string (⟨#[]⟩ : ByteArray)]) ?_ 2 _ rfl; (with_reducible repeat (first | refine blk_drewN ?_ _ | refine blk_drew ?_ | refine blk_alloc ?_ _)); refine blk_put (cs := #[.int .i64 t434, .int .i64 0, .string (⟨#[]⟩ : ByteArray)]) ?_ 1 _ rfl; (with_reducible repeat (first | refine blk_drewN ?_ _ | refine blk_drew ?_ | refine blk_alloc ?_ _)); refine blk_put (cs := #[.int .i64 0, .int .i64 0, .string (⟨#[]⟩ : ByteArray)]) ?_ 0 _ rfl; (with_reducible repeat (first | refine blk_drewN ?_ _ | refine blk_drew ?_ | refine blk_alloc ?_ _)); exact BK438.out) hb); have n2_ := Aside0.mk (below_step (by repeat (first | (with_reducible first | exact HB.out | apply below_alloc | apply pw_below_drewN | apply below_drew1 | refine below_set ?_ GE433.out | refine below_set ?_ GE438.out) | exact HB.out)) hb); clear BK433 BK438 HB; have BK433 := n0_; have BK438 := n1_; have HB := n2_; clear n0_ n1_ n2_; (try clear hb); (try clear hb2); (try clear hk); (try clear hi)))
 go_ret
 exact ⟨by first | rfl | (simp [errW_none, errW_some] <;> rfl) | (simp [*, errW_none, errW_some] <;> rfl), by repeat (first | (with_reducible first | exact HB.out | apply below_alloc | apply pw_below_drewN | apply below_drew1 | refine below_set ?_ GE433.out | refine below_set ?_ GE438.out) | exact HB.out)⟩

/-- THE ONE PURE STATEMENT of laws_FnExactInsRead: yours. -/
def laws_FnExactInsRead.Pure : Prop := ∀ (a0 : ByteArray), a0.size ≤ 140737488351232 → ∃ k, laws_FnExactInsRead.f k a0 = some true
theorem laws_FnExactInsRead.walk (P : laws_FnExactInsRead.Pure) (a0 : ByteArray) (w : World) (w0 : a0.size ≤ 140737488351232) (HT : Aside0 (Go.Proofs.YtajhjdhkeahlpaaDoor.L.Lies w)) :
    Calls Tryd.prog 7 #[.string a0] w fun e w' => e = .returned (.bool true) ∧ Below w.heap.size w w' := by
  obtain ⟨k, h⟩ := P a0 w0
  refine (laws_FnExactInsRead.calls k a0 true w h HT).mono ?_
  rintro e w' ⟨rfl, hd⟩
  exact ⟨rfl, hd⟩

end Go.Proofs.YtajhjdhkeahlpaaDoor.P

-- made by printx.py (own driver over the kit's print); Lean checks it
namespace Go.Proofs.YtajhjdhkeahlpaaDoor.P
open Go.RowKit Go.Proofs.YtajhjdhkeahlpaaDoorW.PrintWords Go.Proofs.YtajhjdhkeahlpaaDoorW.PrintLast Go.Proofs.YtajhjdhkeahlpaaDoorW.PrintMore
attribute [local go_sem] max2_int min2_int max_two min_two max_three min_three max_four min_four   -- for this text's walks alone
set_option linter.unusedVariables false
set_option linter.unusedSimpArgs false

/-! ### spec_l13Dec: function 37 -/
mutual
def spec_l13Dec.l0 : Nat → Int → ByteArray → Option (ByteArray)
  | 0, _, _ => none
  | k + 1, x0, x3 => if x0 > 9 then ((some (([(wrap64 (48 + (Int.tmod x0 10))) % 256] : List Int) : List Int)).bind fun y109 => (if (strOfNums y109).size + x3.size ≤ 9223372036854775807 then (spec_l13Dec.l0 k (wrap64 (Int.tdiv x0 10)) ((strOfNums y109) ++ x3)) else (none))) else ((some (([(wrap64 (48 + x0)) % 256] : List Int) : List Int)).bind fun y112 => (if (strOfNums y112).size + x3.size ≤ 9223372036854775807 then (some ((strOfNums y112) ++ x3)) else (none)))
def spec_l13Dec.f : Nat → Int → Option (ByteArray)
  | 0, _ => none
  | k + 1, a0 => if a0 < (-9223372036854775807) then (some (⟨#[45, 57, 50, 50, 51, 51, 55, 50, 48, 51, 54, 56, 53, 52, 55, 55, 53, 56, 48, 56]⟩ : ByteArray)) else (if a0 < 0 then ((spec_l13Dec.f k (wrap64 (-a0))).bind fun t108 => (if 1 + t108.size ≤ 9223372036854775807 then (some ((⟨#[45]⟩ : ByteArray) ++ t108)) else (none))) else (spec_l13Dec.l0 k a0 (⟨#[]⟩ : ByteArray)))
end
/-! ### spec_InsText: function 10 -/
def spec_InsText.f (k : Nat) (a0_0 : Int) (a0_1 : Int) (a0_2 : ByteArray) : Option (ByteArray) := (spec_InsOk.f k a0_0 a0_1 a0_2).bind fun t116 => (if t116 = true then ((spec_l1Words.f).bind fun t117 => (if 0 ≤ a0_0 then (if a0_0 < (t117.length : Int) then (if a0_0 = 2 then (if (rdOf ByteArray.empty t117 a0_0).size + 1 ≤ 9223372036854775807 then ((spec_l13Dec.f k a0_1).bind fun t121 => (if ((rdOf ByteArray.empty t117 a0_0) ++ (⟨#[32]⟩ : ByteArray)).size + t121.size ≤ 9223372036854775807 then (some (((rdOf ByteArray.empty t117 a0_0) ++ (⟨#[32]⟩ : ByteArray)) ++ t121)) else (none))) else (none)) else ((spec_InsRefs.f a0_0 a0_1 a0_2).bind fun t122 => (if t122 = true then (if (rdOf ByteArray.empty t117 a0_0).size + 1 ≤ 9223372036854775807 then (if ((rdOf ByteArray.empty t117 a0_0) ++ (⟨#[32]⟩ : ByteArray)).size + a0_2.size ≤ 9223372036854775807 then (some (((rdOf ByteArray.empty t117 a0_0) ++ (⟨#[32]⟩ : ByteArray)) ++ a0_2)) else (none)) else (none)) else (some (rdOf ByteArray.empty t117 a0_0))))) else (none)) else (none))) else (some (⟨#[]⟩ : ByteArray)))
end Go.Proofs.YtajhjdhkeahlpaaDoor.P

/- Plain lists: the first place of which something holds; two lists alike, place by place. -/
namespace Go.Proofs.YtajhjdhkeahlpaaDoor.L
open Go.RowKit Go.Proofs.YtajhjdhkeahlpaaDoorW.PrintWords Go.Proofs.YtajhjdhkeahlpaaDoorW.PrintLast Go.Proofs.YtajhjdhkeahlpaaDoorW.PrintMore Go.Proofs.YtajhjdhkeahlpaaDoor.P
set_option linter.unusedVariables false
set_option linter.unusedSimpArgs false

end Go.Proofs.YtajhjdhkeahlpaaDoor.L

-- made by printx.py (own driver over the kit's print); Lean checks it
namespace Go.Proofs.YtajhjdhkeahlpaaDoor.P
open Go.RowKit Go.Proofs.YtajhjdhkeahlpaaDoorW.PrintWords Go.Proofs.YtajhjdhkeahlpaaDoorW.PrintLast Go.Proofs.YtajhjdhkeahlpaaDoorW.PrintMore
attribute [local go_sem] max2_int min2_int max_two min_two max_three min_three max_four min_four   -- for this text's walks alone
set_option linter.unusedVariables false
set_option linter.unusedSimpArgs false

/-! ### impl_InsLast: function 19 -/
def impl_InsLast.f (a0_0 : Int) (a0_1 : Int) (a0_2 : ByteArray) : Option (Bool) := if a0_0 = 4 then (some true) else (if a0_0 = 6 then (some true) else (some (a0_0 == 7)))
/-! ### spec_InsLast: function 20 -/
def spec_InsLast.f (a0_0 : Int) (a0_1 : Int) (a0_2 : ByteArray) : Option (Bool) := if a0_0 = 4 then (some true) else (if a0_0 = 6 then (some true) else (some (a0_0 == 7)))
end Go.Proofs.YtajhjdhkeahlpaaDoor.P

-- made by printx.py (own driver over the kit's print); Lean checks it
namespace Go.Proofs.YtajhjdhkeahlpaaDoor.P
open Go.RowKit Go.Proofs.YtajhjdhkeahlpaaDoorW.PrintWords Go.Proofs.YtajhjdhkeahlpaaDoorW.PrintLast Go.Proofs.YtajhjdhkeahlpaaDoorW.PrintMore
attribute [local go_sem] max2_int min2_int max_two min_two max_three min_three max_four min_four   -- for this text's walks alone
set_option linter.unusedVariables false
set_option linter.unusedSimpArgs false

/-! ### laws_szIns: function 9 -/
def laws_szIns.f (a0_0 : Int) (a0_1 : Int) (a0_2 : ByteArray) (a1 : Int) : Option (Int) := if (wrap64 (a1 - (a0_2.size : Int))) < 0 then (some (-1)) else (some (wrap64 (a1 - (a0_2.size : Int))))
/-! ### laws_toIns: function 11 -/
def laws_toIns.f (a0_0 : Int) (a0_1 : Int) (a0_2 : ByteArray) : Option (Int × Int × ByteArray) := some (a0_0, a0_1, a0_2)
end Go.Proofs.YtajhjdhkeahlpaaDoor.P

-- made by printx.py (own driver over the kit's print); Lean checks it
namespace Go.Proofs.YtajhjdhkeahlpaaDoor.P
open Go.RowKit Go.Proofs.YtajhjdhkeahlpaaDoorW.PrintWords Go.Proofs.YtajhjdhkeahlpaaDoorW.PrintLast Go.Proofs.YtajhjdhkeahlpaaDoorW.PrintMore
attribute [local go_sem] max2_int min2_int max_two min_two max_three min_three max_four min_four   -- for this text's walks alone
set_option linter.unusedVariables false
set_option linter.unusedSimpArgs false

/-- A state of type 87 at block g of W; what its slices lead to came in by w0. -/
def IsS87 (w0 W : World) (g : Nat) (f0 : List Int) (f1 : Int) : Prop := ∃ A0 c0, W.heap[g]? = some (.cells #[.slice A0 f0.length c0, .int .i64 f1] 87 (0, 0)) ∧ w0.heap.size ≤ g ∧ Kd.C (Kd.int .u8) w0 A0 f0.length f0
theorem IsS87.grown {w0 W : World} {g : Nat} {f0 : List Int} {f1 : Int} {W1 : World} {row : Option Nat} (h : IsS87 w0 W g f0 f1) (hw : W.grownBy W1 row) (hne : some g ≠ row) : IsS87 w0 W1 g f0 f1 := by
  obtain ⟨A0, c0, hb, hg, hr0⟩ := h
  exact ⟨A0, c0, blk_grown hb hw hne, hg, hr0⟩
theorem IsS87.kept {w0 W : World} {g : Nat} {f0 : List Int} {f1 : Int} {W1 : World} {S : Nat → Prop} (h : IsS87 w0 W g f0 f1) (hk : Kept W W1 S) (hne : ¬ S g) : IsS87 w0 W1 g f0 f1 := by
  obtain ⟨A0, c0, hb, hg, hr0⟩ := h
  exact ⟨A0, c0, blk_kept hb hk hne, hg, hr0⟩
theorem IsS87.below {w0 W : World} {g : Nat} {f0 : List Int} {f1 : Int} {W1 : World} (h : IsS87 w0 W g f0 f1) (hw : Below W.heap.size W W1) : IsS87 w0 W1 g f0 f1 := h.grown (grown_of_below hw none) (by simp)
theorem IsS87.alloc {w0 W : World} {g : Nat} {f0 : List Int} {f1 : Int} (h : IsS87 w0 W g f0 f1) (o : Obj) : IsS87 w0 (W.alloc o) g f0 f1 := h.below (below_alloc (Below.refl _ _) o)
theorem IsS87.drewN {w0 W : World} {g : Nat} {f0 : List Int} {f1 : Int} (h : IsS87 w0 W g f0 f1) (m : Nat) : IsS87 w0 (W.drewN m) g f0 f1 := h
theorem IsS87.drew {w0 W : World} {g : Nat} {f0 : List Int} {f1 : Int} (h : IsS87 w0 W g f0 f1) : IsS87 w0 W.drew g f0 f1 := h
theorem IsS87.apart {w0 W : World} {g : Nat} {f0 : List Int} {f1 : Int} {α : Type} {d : Kd α} {e : Nat} {base : Nat} {ok : Nat → Prop} {v : Value} {xs : List α} (h : IsS87 w0 W g f0 f1) (ho : d.R e W base ok v xs) (ht : ∀ q, q ∈ e :: d.E → q ≠ 87) : d.R e W base (fun k => ok k ∧ k ≠ g) v xs := by
  obtain ⟨A0, c0, hb, hg, hr0⟩ := h
  exact Kd.R_types ho hb ht
theorem IsS87.far {w0 W : World} {g : Nat} {f0 : List Int} {f1 : Int} {p : Addr} (h : IsS87 w0 W g f0 f1) (hne : g ≠ p.block) (u : Value) : IsS87 w0 (W.setCell p u) g f0 f1 := by
  obtain ⟨A0, c0, hb, hg, hr0⟩ := h
  exact ⟨A0, c0, blk_far hb hne u, hg, hr0⟩
theorem IsS87.new (w0 W : World) (A0 : Option Addr) (c0 : Nat) (f0 : List Int) (f1 : Int) (hB : Below w0.heap.size w0 W) (hr0 : Kd.C (Kd.int .u8) w0 A0 f0.length f0) : IsS87 w0 (W.alloc (.cells #[.slice A0 f0.length c0, .int .i64 f1] 87)) W.heap.size f0 f1 := ⟨A0, c0, by simpa using heap_alloc_new W _, hB.size, hr0⟩

/-! ### spec_l13Rd_pick: function 60 -/
def spec_l13Rd_pick.j0 : Nat → Int → Bool → List Int → Int → Option (Int × Int)
  | 0, _, _, _, _ => none
  | k + 1, x1, x24, x1000, x1001 => if x24 = true then (some (0, x1001)) else (if (wrap64 (x1001 - 1)) < (x1000.length : Int) then (if 0 ≤ (wrap64 (x1001 - 1)) then (if x1 = 0 then (none) else (some (Int.tmod (wrap64 (rd x1000 (wrap64 (x1001 - 1)))) x1, x1001))) else (none)) else (if (x1000.length : Int) = 0 then (none) else (if 0 ≤ (Int.tmod (wrap64 (x1001 - 1)) (x1000.length : Int)) then (if (Int.tmod (wrap64 (x1001 - 1)) (x1000.length : Int)) < (x1000.length : Int) then (if 0 ≤ (Int.tmod (wrap64 ((wrap64 ((wrap64 (x1001 - 1)) * 7)) + 3)) (x1000.length : Int)) then (if (Int.tmod (wrap64 ((wrap64 ((wrap64 (x1001 - 1)) * 7)) + 3)) (x1000.length : Int)) < (x1000.length : Int) then (if x1 = 0 then (none) else (some (Int.tmod (Go.bits .xor .i64 (wrap64 ((wrap64 ((wrap64 ((wrap64 ((wrap64 (rd x1000 (Int.tmod (wrap64 (x1001 - 1)) (x1000.length : Int)))) * 131)) + (wrap64 ((wrap64 (rd x1000 (Int.tmod (wrap64 ((wrap64 ((wrap64 (x1001 - 1)) * 7)) + 3)) (x1000.length : Int)))) * 1117)))) + (wrap64 ((wrap64 (x1001 - 1)) * 29)))) + (wrap64 ((wrap64 (Int.tdiv (wrap64 (x1001 - 1)) (x1000.length : Int))) * 53)))) (wrap64 (Int.tdiv (wrap64 ((wrap64 ((wrap64 ((wrap64 ((wrap64 (rd x1000 (Int.tmod (wrap64 (x1001 - 1)) (x1000.length : Int)))) * 131)) + (wrap64 ((wrap64 (rd x1000 (Int.tmod (wrap64 ((wrap64 ((wrap64 (x1001 - 1)) * 7)) + 3)) (x1000.length : Int)))) * 1117)))) + (wrap64 ((wrap64 (x1001 - 1)) * 29)))) + (wrap64 ((wrap64 (Int.tdiv (wrap64 (x1001 - 1)) (x1000.length : Int))) * 53)))) 64))) x1, x1001))) else (none)) else (none)) else (none)) else (none))))
def spec_l13Rd_pick.f (k : Nat) (s0_0 : List Int) (s0_1 : Int) (a1 : Int) : Option (Int × Int) := if a1 < 1 then (spec_l13Rd_pick.j0 k a1 true s0_0 (wrap64 (s0_1 + 1))) else (spec_l13Rd_pick.j0 k a1 ((s0_0.length : Int) == 0) s0_0 (wrap64 (s0_1 + 1)))
/-! ### spec_l13Rd_of: function 43 -/
def spec_l13Rd_of.f (k : Nat) (s0_0 : List Int) (s0_1 : Int) (l1 : List ByteArray) : Option (ByteArray × Int) := (spec_l13Rd_pick.f k s0_0 s0_1 (l1.length : Int)).bind fun bt155 => (if 0 ≤ bt155.1 then (if bt155.1 < (l1.length : Int) then (some (rdOf ByteArray.empty l1 bt155.1, bt155.2)) else (none)) else (none))
/-! ### spec_l13Rd_num: function 63 -/
def spec_l13Rd_num.f (k : Nat) (s0_0 : List Int) (s0_1 : Int) (l1 : List Int) : Option (Int × Int) := (spec_l13Rd_pick.f k s0_0 s0_1 (l1.length : Int)).bind fun bt158 => (if 0 ≤ bt158.1 then (if bt158.1 < (l1.length : Int) then (some (rd l1 bt158.1, bt158.2)) else (none)) else (none))
/-! ### spec_l1Name: function 76 -/
def spec_l1Name.f (k : Nat) (s0_0 : List Int) (s0_1 : Int) : Option (ByteArray × Int) := (spec_l13Rd_of.f k s0_0 s0_1 (([(⟨#[97]⟩ : ByteArray), (⟨#[98]⟩ : ByteArray), (⟨#[99]⟩ : ByteArray), (⟨#[100]⟩ : ByteArray), (⟨#[109, 97, 105, 110]⟩ : ByteArray), (⟨#[101]⟩ : ByteArray)] : List ByteArray))).bind fun bt164 => (some (bt164.1, bt164.2))
/-! ### spec_l1Ins: function 75 -/
mutual
def spec_l1Ins.j0 : Nat → Int → Bool → List Int → Int → Option (Int × Int × ByteArray × Int)
  | 0, _, _, _, _ => none
  | k + 1, x4, x5, x1000, x1001 => if x5 = true then (some (1, 0, (⟨#[]⟩ : ByteArray), x1001)) else (if x4 = 2 then (spec_l1Ins.j1 k x4 (x4 == 2) x1000 x1001) else (spec_l1Ins.j1 k x4 (x4 == 3) x1000 x1001))
def spec_l1Ins.j1 : Nat → Int → Bool → List Int → Int → Option (Int × Int × ByteArray × Int)
  | 0, _, _, _, _ => none
  | k + 1, x4, x9, x1000, x1001 => if x9 = true then ((spec_l13Rd_num.f k x1000 x1001 (([1, (-1), 2, 5, (-3)] : List Int))).bind fun bt172 => (some (2, bt172.1, (⟨#[]⟩ : ByteArray), bt172.2))) else (if x4 = 4 then (spec_l1Ins.j2 k x4 (x4 == 4) x1000 x1001) else (spec_l1Ins.j2 k x4 (x4 == 5) x1000 x1001))
def spec_l1Ins.j2 : Nat → Int → Bool → List Int → Int → Option (Int × Int × ByteArray × Int)
  | 0, _, _, _, _ => none
  | k + 1, x4, x16, x1000, x1001 => if x16 = true then ((spec_l1Name.f k x1000 x1001).bind fun bt174 => (some (3, 0, bt174.1, bt174.2))) else (if x4 = 6 then ((spec_l1Name.f k x1000 x1001).bind fun bt176 => (some (5, 0, bt176.1, bt176.2))) else ((spec_l13Rd_num.f k x1000 x1001 (([6, 6, 7, 4] : List Int))).bind fun bt181 => (some (bt181.1, 0, (⟨#[]⟩ : ByteArray), bt181.2))))
end
def spec_l1Ins.f (k : Nat) (s0_0 : List Int) (s0_1 : Int) : Option (Int × Int × ByteArray × Int) := (spec_l13Rd_pick.f k s0_0 s0_1 8).bind fun bt167 => (if bt167.1 = 0 then (spec_l1Ins.j0 k bt167.1 (bt167.1 == 0) s0_0 bt167.2) else (spec_l1Ins.j0 k bt167.1 (bt167.1 == 1) s0_0 bt167.2))
/-! ### spec_l1Right: function 62 -/
def spec_l1Right.f (k : Nat) (s0_0 : List Int) (s0_1 : Int) : Option (Int × Int × ByteArray × Int) := (spec_l1Ins.f k s0_0 s0_1).bind fun bt184 => (if bt184.1 = 4 then ((spec_l1Name.f k s0_0 bt184.2.2.2).bind fun bt189 => (some (bt184.1, bt184.2.1, bt189.1, bt189.2))) else (some (bt184.1, bt184.2.1, bt184.2.2.1, bt184.2.2.2)))
end Go.Proofs.YtajhjdhkeahlpaaDoor.P

-- made by printx.py (own driver over the kit's print); Lean checks it
namespace Go.Proofs.YtajhjdhkeahlpaaDoor.P
open Go.RowKit Go.Proofs.YtajhjdhkeahlpaaDoorW.PrintWords Go.Proofs.YtajhjdhkeahlpaaDoorW.PrintLast Go.Proofs.YtajhjdhkeahlpaaDoorW.PrintMore
attribute [local go_sem] max2_int min2_int max_two min_two max_three min_three max_four min_four   -- for this text's walks alone
set_option linter.unusedVariables false
set_option linter.unusedSimpArgs false

/-! ### spec_l1Bent: function 41 -/
def spec_l1Bent.f (k : Nat) (s0_0 : List Int) (s0_1 : Int) : Option (Int × Int × ByteArray × Int) := (spec_l1Right.f k s0_0 s0_1).bind fun bt192 => ((spec_l13Rd_pick.f k s0_0 bt192.2.2.2 30).bind fun bt197 => (if bt197.1 = 0 then ((spec_l13Rd_num.f k s0_0 bt197.2 (([0, 8, (-1), 1] : List Int))).bind fun bt202 => (some (bt202.1, bt192.2.1, bt192.2.2.1, bt202.2))) else (if bt197.1 = 1 then ((spec_l13Rd_num.f k s0_0 bt197.2 (([1, 1000, 1001] : List Int))).bind fun bt207 => (some (bt192.1, bt207.1, bt192.2.2.1, bt207.2))) else (if bt197.1 = 2 then ((spec_l13Rd_of.f k s0_0 bt197.2 (([(⟨#[65]⟩ : ByteArray), (⟨#[97, 98, 99, 100, 101, 102, 103]⟩ : ByteArray), (⟨#[97, 32, 98]⟩ : ByteArray), (⟨#[120]⟩ : ByteArray)] : List ByteArray))).bind fun bt212 => (some (bt192.1, bt192.2.1, bt212.1, bt212.2))) else (some (bt192.1, bt192.2.1, bt192.2.2.1, bt197.2))))))
/-! ### spec_l13Open: function 42 -/
def spec_l13Open.f (l0 : List Int) : Option (List Int × Int) := if (l0.length : Int) > 2000 then (if 2000 ≤ (l0.length : Int) then (some (l0.take 2000, 0)) else (none)) else (some (l0, 0))
end Go.Proofs.YtajhjdhkeahlpaaDoor.P

-- made by printx.py (own driver over the kit's print); Lean checks it
namespace Go.Proofs.YtajhjdhkeahlpaaDoor.P
open Go.RowKit Go.Proofs.YtajhjdhkeahlpaaDoorW.PrintWords Go.Proofs.YtajhjdhkeahlpaaDoorW.PrintLast Go.Proofs.YtajhjdhkeahlpaaDoorW.PrintMore
attribute [local go_sem] max2_int min2_int max_two min_two max_three min_three max_four min_four   -- for this text's walks alone
set_option linter.unusedVariables false
set_option linter.unusedSimpArgs false

/-! ### spec_DrawInsOk: function 13 -/
def spec_DrawInsOk.f (k : Nat) (l0 : List Int) : Option (Int × Int × ByteArray) := (spec_l13Open.f l0).bind fun bt218 => ((spec_l1Bent.f k bt218.1 bt218.2).bind fun bt221 => (some (bt221.1, bt221.2.1, bt221.2.2.1)))
/-! ### spec_DrawNameOk: function 14 -/
def spec_DrawNameOk.f (k : Nat) (l0 : List Int) : Option (ByteArray) := (spec_l13Open.f l0).bind fun bt225 => ((spec_l13Rd_of.f k bt225.1 bt225.2 (([(⟨#[97]⟩ : ByteArray), (⟨#[109, 97, 105, 110]⟩ : ByteArray), (⟨#[]⟩ : ByteArray), (⟨#[97, 98, 99, 100, 101, 102]⟩ : ByteArray), (⟨#[97, 98, 99, 100, 101, 102, 103]⟩ : ByteArray), (⟨#[65]⟩ : ByteArray), (⟨#[97, 49]⟩ : ByteArray), (⟨#[122, 122]⟩ : ByteArray)] : List ByteArray))).bind fun bt231 => (some bt231.1))
/-! ### impl_InsRefs: function 17 -/
def impl_InsRefs.f (a0_0 : Int) (a0_1 : Int) (a0_2 : ByteArray) : Option (Bool) := (impl_refers.f a0_0).bind fun t234 => (some t234)
end Go.Proofs.YtajhjdhkeahlpaaDoor.P

/- What the printed functions on instructions compute: names, classes, sums. -/
namespace Go.Proofs.YtajhjdhkeahlpaaDoor.L
open Go.RowKit Go.Proofs.YtajhjdhkeahlpaaDoorW.PrintWords Go.Proofs.YtajhjdhkeahlpaaDoorW.PrintLast Go.Proofs.YtajhjdhkeahlpaaDoorW.PrintMore Go.Proofs.YtajhjdhkeahlpaaDoor.P
set_option linter.unusedVariables false
set_option linter.unusedSimpArgs false

/-- Are the bytes from place i on, d of them, letters from a to z? -/
def okFrom (s : ByteArray) : Nat → Int → Bool
  | 0, _ => true
  | d + 1, i => (decide (97 ≤ bt s i) && decide (bt s i ≤ 122)) && okFrom s d (i + 1)
def nameOk (s : ByteArray) : Bool := okFrom s s.size 0 && (decide (1 ≤ s.size) && decide (s.size ≤ 6))
theorem okFrom_lo (s : ByteArray) (d : Nat) (i : Int) (h : bt s i < 97) : okFrom s (d + 1) i = false := by
  have : ¬ 97 ≤ bt s i := by omega
  simp [okFrom, this]
theorem okFrom_hi (s : ByteArray) (d : Nat) (i : Int) (h : bt s i > 122) : okFrom s (d + 1) i = false := by
  have : ¬ bt s i ≤ 122 := by omega
  simp [okFrom, this]
theorem okFrom_in (s : ByteArray) (d : Nat) (i : Int) (h : ¬ bt s i < 97) (h' : ¬ bt s i > 122) : okFrom s (d + 1) i = okFrom s d (i + 1) := by
  have : 97 ≤ bt s i := by omega
  have : bt s i ≤ 122 := by omega
  simp [okFrom, *]

def refersB (a : Int) : Bool := decide (3 ≤ a) && decide (a ≤ 5)
theorem refersB_true {a : Int} : refersB a = true ↔ a = 3 ∨ a = 4 ∨ a = 5 := by
  simp only [refersB, Bool.and_eq_true, decide_eq_true_eq]
  omega
theorem refers3 (a : Int) : (a = 3 ∧ refersB a = true) ∨ (a ≠ 3 ∧ a = 4 ∧ refersB a = true) ∨ (a ≠ 3 ∧ a ≠ 4 ∧ refersB a = (a == 5)) := by
  by_cases h3 : a = 3
  · subst h3; exact .inl ⟨rfl, rfl⟩
  · by_cases h4 : a = 4
    · subst h4; exact .inr (.inl ⟨by decide, rfl, rfl⟩)
    · refine .inr (.inr ⟨h3, h4, ?_⟩)
      by_cases h5 : a = 5
      · subst h5; rfl
      · have : ¬ (refersB a = true) := by rw [refersB_true]; omega
        rw [Bool.eq_false_iff.mpr this]
        exact (beq_eq_false_iff_ne.mpr h5).symm
def lastB (a : Int) : Bool := if a = 4 then true else if a = 6 then true else a == 7
/-- Is it ok? -/
def insOkB (op n : Int) (s : ByteArray) : Bool :=
  (decide (1 ≤ op) && decide (op ≤ 7)) && ((decide (n = 0) || decide (op = 2) && (decide (-1000 ≤ n) && decide (n ≤ 1000))) && (if refersB op = true then nameOk s else s.toList == ([] : List UInt8)))
theorem spec_NameOk_l0 (s : ByteArray) (hs : s.size ≤ 140737488351232) : ∀ (d k : Nat) (i : Int), 0 ≤ i → i + d = s.size → d < k →
    spec_NameOk.l0 k s i = some (okFrom s d i && (decide (1 ≤ s.size) && decide (s.size ≤ 6))) := by
  intro d
  induction d with
  | zero =>
    intro k i h0 h1 hk
    obtain ⟨m, rfl, _⟩ := succ_of hk
    simp only [spec_NameOk.l0]
    rw [if_neg (by omega)]
    by_cases h : (s.size : Int) ≥ 1
    · rw [if_pos h]
      have e1 : 1 ≤ s.size := by omega
      by_cases h6 : s.size ≤ 6
      · have e2 : (s.size : Int) ≤ 6 := by omega
        simp [okFrom, e1, e2, h6]
      · have e2 : ¬ (s.size : Int) ≤ 6 := by omega
        simp [okFrom, e1, e2, h6]
    · rw [if_neg h]
      have e1 : ¬ 1 ≤ s.size := by omega
      simp [okFrom, e1]
  | succ d ih =>
    intro k i h0 h1 hk
    obtain ⟨m, rfl, _⟩ := succ_of hk
    simp only [spec_NameOk.l0]
    rw [if_pos (by omega), if_pos h0]
    by_cases hl : bt s i < 97
    · rw [if_pos hl, okFrom_lo s d i hl]; rfl
    · rw [if_neg hl]
      by_cases hh : bt s i > 122
      · rw [if_pos hh, okFrom_hi s d i hh]; rfl
      · rw [if_neg hh, okFrom_in s d i hl hh, wrap_id (by omega) (by omega)]
        exact ih m (i + 1) (by omega) (by omega) (by omega)
theorem spec_NameOk_f (s : ByteArray) (hs : s.size ≤ 140737488351232) (k : Nat) (hk : s.size < k) : spec_NameOk.f k s = some (nameOk s) := by
  unfold spec_NameOk.f nameOk
  exact spec_NameOk_l0 s hs s.size k 0 (by omega) (by omega) hk
theorem impl_in_f (a b c : Int) : impl_in.f a b c = some (decide (b ≤ a) && decide (a ≤ c)) := by
  unfold impl_in.f
  by_cases h : b ≤ a <;> simp [h]
theorem impl_NameOk_l0 (s : ByteArray) (hs : s.size ≤ 140737488351232) : ∀ (d k : Nat) (i : Int), 0 ≤ i → i + d = s.size → d < k →
    impl_NameOk.l0 k s (s.size : Int) i = some (okFrom s d i && (decide (1 ≤ s.size) && decide (s.size ≤ 6))) := by
  intro d
  induction d with
  | zero =>
    intro k i h0 h1 hk
    obtain ⟨m, rfl, _⟩ := succ_of hk
    simp only [impl_NameOk.l0]
    rw [if_neg (by omega), impl_in_f]
    have e1 : decide ((1 : Int) ≤ (s.size : Int)) = decide (1 ≤ s.size) := by congr 1; exact propext ⟨fun h => by omega, fun h => by omega⟩
    have e2 : decide ((s.size : Int) ≤ 6) = decide (s.size ≤ 6) := by congr 1; exact propext ⟨fun h => by omega, fun h => by omega⟩
    simp [okFrom, e1, e2]
  | succ d ih =>
    intro k i h0 h1 hk
    obtain ⟨m, rfl, _⟩ := succ_of hk
    simp only [impl_NameOk.l0]
    rw [if_pos (by omega), if_pos h0, if_pos (by omega)]
    by_cases hl : bt s i < 97
    · rw [if_pos hl, okFrom_lo s d i hl]; rfl
    · rw [if_neg hl]
      by_cases hh : bt s i > 122
      · rw [if_pos hh, okFrom_hi s d i hh]; rfl
      · rw [if_neg hh, okFrom_in s d i hl hh, wrap_id (by omega) (by omega)]
        exact ih m (i + 1) (by omega) (by omega) (by omega)
theorem impl_NameOk_f (s : ByteArray) (hs : s.size ≤ 140737488351232) (k : Nat) (hk : s.size < k) : impl_NameOk.f k s = some (nameOk s) := by
  unfold impl_NameOk.f nameOk
  exact impl_NameOk_l0 s hs s.size k 0 (by omega) (by omega) hk
theorem impl_refers_f (a : Int) : impl_refers.f a = some (decide (3 ≤ a) && decide (a ≤ 5)) := by
  unfold impl_refers.f
  rw [impl_in_f]; rfl
theorem spec_InsRefs_f (a b : Int) (s : ByteArray) : spec_InsRefs.f a b s = some (refersB a) := by
  unfold spec_InsRefs.f
  rcases refers3 a with ⟨rfl, h⟩ | ⟨h3, rfl, h⟩ | ⟨h3, h4, h⟩
  · rw [if_pos rfl, h]
  · rw [if_neg h3, if_pos rfl, h]
  · rw [if_neg h3, if_neg h4, h]
theorem impl_isNumber_f (a : Int) : impl_isNumber.f a = some (decide (-1000 ≤ a) && decide (a ≤ 1000)) := by
  unfold impl_isNumber.f
  rw [impl_in_f]; rfl
theorem impl_refers_b (a : Int) : impl_refers.f a = some (refersB a) := impl_refers_f a
theorem ite_beq {s : ByteArray} (b : Bool) : (if s.toList = ([] : List UInt8) then some b else some false) = some ((s.toList == ([] : List UInt8)) && b) := by
  by_cases h : s.toList = ([] : List UInt8)
  · rw [if_pos h, h]; rfl
  · rw [if_neg h, beq_eq_false_iff_ne.mpr h]; rfl
theorem impl_InsOk_f (op n : Int) (s : ByteArray) (hs : s.size ≤ 140737488351232) (k : Nat) (hk : s.size < k) : impl_InsOk.f k op n s = some (insOkB op n s) := by
  unfold impl_InsOk.f insOkB
  rw [impl_in_f, impl_NameOk_f s hs k hk, impl_refers_b, impl_isNumber_f]
  simp only [Option.bind_some, ite_beq]
  by_cases h1 : (decide (1 ≤ op) && decide (op ≤ 7)) = true
  · rw [if_pos h1, h1]
    by_cases h2 : n = 0
    · rw [if_pos h2]
      cases nameOk s <;> cases refersB op <;> simp [h2]
    · rw [if_neg h2]
      by_cases h3 : op = 2
      · rw [if_pos h3]
        have h4 : refersB op = false := by rw [h3]; rfl
        rw [h4]
        cases hb : (decide (-1000 ≤ n) && decide (n ≤ 1000)) <;> cases nameOk s <;> simp [h2, h3, hb]
      · rw [if_neg h3]
        simp [h2, h3]
  · rw [if_neg h1, Bool.eq_false_iff.mpr h1]
    rfl
theorem ite_ge_le {n : Int} (b : Bool) : (if n ≥ -1000 then (if n ≤ 1000 then some b else some false) else some false) = some ((decide (-1000 ≤ n) && decide (n ≤ 1000)) && b) := by
  by_cases h : n ≥ -1000
  · have h' : decide (-1000 ≤ n) = true := decide_eq_true h
    rw [if_pos h, h']
    by_cases g : n ≤ 1000 <;> simp [g]
  · have h' : decide (-1000 ≤ n) = false := decide_eq_false h
    rw [if_neg h, h']
    rfl
theorem ite_zero {n : Int} (b : Bool) : (if n = 0 then some b else some false) = some (decide (n = 0) && b) := by
  by_cases h : n = 0 <;> simp [h]
theorem spec_InsOk_j1 (s : ByteArray) (hs : s.size ≤ 140737488351232) (k : Nat) (hk : s.size < k) (b : Bool) (op n : Int) :
    spec_InsOk.j1 (k + 1) b op n s = some (b && (decide (n = 0) && nameOk s)) := by
  simp only [spec_InsOk.j1]
  rw [spec_NameOk_f s hs k hk]
  simp only [Option.bind_some, ite_zero]
  cases b <;> rfl
theorem spec_InsOk_j0 (s : ByteArray) (hs : s.size ≤ 140737488351232) (k : Nat) (hk : s.size < k) (b : Bool) (op n o : Int) :
    spec_InsOk.j0 (k + 2) op b o n s = some (if b = true then decide (n = 0) && (s.toList == ([] : List UInt8)) else if op = 2 then (decide (-1000 ≤ n) && decide (n ≤ 1000)) && (s.toList == ([] : List UInt8)) else if op = 3 then (decide (n = 0) && nameOk s) else if op = 4 then (decide (n = 0) && nameOk s) else ((op == 5) && (decide (n = 0) && nameOk s))) := by
  simp only [spec_InsOk.j0]
  rw [spec_InsOk_j1 s hs k hk, spec_InsOk_j1 s hs k hk, spec_InsOk_j1 s hs k hk, ite_ge_le, ite_zero]
  cases b with
  | true => rfl
  | false =>
    simp only [Bool.false_eq_true, if_false]
    by_cases h2 : op = 2
    · simp only [h2, if_true]
    · simp only [h2, if_false]
      by_cases h3 : op = 3
      · subst h3; rfl
      · simp only [h3, if_false]
        by_cases h4 : op = 4
        · subst h4; rfl
        · simp only [h4, if_false]
theorem spec_InsOk_f (op n : Int) (s : ByteArray) (hs : s.size ≤ 140737488351232) (k : Nat) (hk : s.size + 2 < k) : spec_InsOk.f k op n s = some (insOkB op n s) := by
  obtain ⟨m, rfl⟩ : ∃ m, k = m + 2 := ⟨k - 2, by omega⟩
  unfold spec_InsOk.f
  rw [spec_InsOk_j0 s hs m (by omega), spec_InsOk_j0 s hs m (by omega), spec_InsOk_j0 s hs m (by omega)]
  by_cases h1 : op = 1
  · subst h1; simp [insOkB, refersB]
  by_cases h6 : op = 6
  · subst h6; simp [insOkB, refersB]
  by_cases h7 : op = 7
  · subst h7; simp [insOkB, refersB]
  by_cases h2 : op = 2
  · subst h2
    have : (decide (n = 0) || (decide (-1000 ≤ n) && decide (n ≤ 1000))) = (decide (-1000 ≤ n) && decide (n ≤ 1000)) := by
      by_cases h : n = 0
      · subst h; rfl
      · simp [h]
    simp [insOkB, refersB, this]
  by_cases h3 : op = 3
  · subst h3; simp [insOkB, refersB]
  by_cases h4 : op = 4
  · subst h4; simp [insOkB, refersB]
  by_cases h5 : op = 5
  · subst h5; simp [insOkB, refersB]
  · have e : (decide (1 ≤ op) && decide (op ≤ 7)) = false := by
      rw [Bool.and_eq_false_iff, decide_eq_false_iff_not, decide_eq_false_iff_not]; omega
    simp [h1, h2, h3, h4, h5, h6, h7, insOkB, e]
end Go.Proofs.YtajhjdhkeahlpaaDoor.L
namespace Go.Proofs.YtajhjdhkeahlpaaDoor.L
open Go.RowKit Go.Proofs.YtajhjdhkeahlpaaDoorW.PrintWords Go.Proofs.YtajhjdhkeahlpaaDoorW.PrintLast Go.Proofs.YtajhjdhkeahlpaaDoorW.PrintMore Go.Proofs.YtajhjdhkeahlpaaDoor.P
set_option linter.unusedVariables false
set_option linter.unusedSimpArgs false
end Go.Proofs.YtajhjdhkeahlpaaDoor.L

/- What InsText computes, both sides. -/
namespace Go.Proofs.YtajhjdhkeahlpaaDoor.L
open Go.RowKit Go.Proofs.YtajhjdhkeahlpaaDoor.P Go.Proofs.YtajhjdhkeahlpaaDoorW.PrintWords
set_option linter.unusedVariables false
set_option linter.unusedSimpArgs false
theorem dec_len : ∀ u : Nat, (Lib.decDigits u).length ≤ u + 1 := by
  intro u
  induction u using Nat.strongRecOn with
  | ind u ih =>
    unfold Lib.decDigits
    by_cases h : u < 10
    · rw [dif_pos h]; simp
    · rw [dif_neg h, List.length_append]
      have := ih (u / 10) (by omega)
      simp
      omega
def itoaS (n : Int) : ByteArray := ⟨(Lib.itoa n).toArray⟩
theorem itoaS_size (n : Int) (h0 : -1000 ≤ n) (h1 : n ≤ 1000) : (itoaS n).size ≤ 1003 := by
  have h2 : (itoaS n).size = (Lib.itoa n).length := by show (Lib.itoa n).toArray.size = _; simp
  rw [h2]
  unfold Lib.itoa
  have a := dec_len n.natAbs
  have b := dec_len n.toNat
  split
  · simp; omega
  · omega
def words : List ByteArray := [(⟨#[]⟩ : ByteArray), (⟨#[115, 97, 121]⟩ : ByteArray), (⟨#[97, 100, 100]⟩ : ByteArray), (⟨#[99, 97, 108, 108]⟩ : ByteArray), (⟨#[103, 111]⟩ : ByteArray), (⟨#[105, 102]⟩ : ByteArray), (⟨#[114, 101, 116]⟩ : ByteArray), (⟨#[101, 110, 100]⟩ : ByteArray)]
def wordV (op : Int) : ByteArray := rdOf ByteArray.empty words op
theorem op_cases {op : Int} (h0 : 1 ≤ op) (h1 : op ≤ 7) : op = 1 ∨ op = 2 ∨ op = 3 ∨ op = 4 ∨ op = 5 ∨ op = 6 ∨ op = 7 := by omega
theorem word_size {op : Int} (h0 : 1 ≤ op) (h1 : op ≤ 7) : (wordV op).size ≤ 4 := by
  rcases op_cases h0 h1 with rfl | rfl | rfl | rfl | rfl | rfl | rfl <;> decide
theorem impl_word_f {op : Int} (h0 : 1 ≤ op) (h1 : op ≤ 7) : impl_word.f op = some (wordV op) := by
  rcases op_cases h0 h1 with rfl | rfl | rfl | rfl | rfl | rfl | rfl <;> rfl
def textV (op n : Int) (s : ByteArray) : ByteArray :=
  if insOkB op n s = true then (if op = 2 then (wordV op ++ (⟨#[32]⟩ : ByteArray)) ++ itoaS n else if refersB op = true then (wordV op ++ (⟨#[32]⟩ : ByteArray)) ++ s else wordV op) else (⟨#[]⟩ : ByteArray)
theorem insOk_in {op n : Int} {s : ByteArray} (h : insOkB op n s = true) : 1 ≤ op ∧ op ≤ 7 ∧ -1000 ≤ n ∧ n ≤ 1000 := by
  unfold insOkB at h
  simp only [Bool.and_eq_true, Bool.or_eq_true, decide_eq_true_eq] at h
  omega
theorem impl_InsText_f (op n : Int) (s : ByteArray) (hs : s.size ≤ 140737488351232) (k : Nat) (hk : s.size < k) : impl_InsText.f k op n s = some (textV op n s) := by
  unfold impl_InsText.f textV
  rw [impl_InsOk_f op n s hs k hk]
  simp only [Option.bind_some]
  cases hok : insOkB op n s with
  | false => rw [if_neg (by decide), if_neg (by decide)]
  | true =>
    obtain ⟨h0, h1, h2, h3⟩ := insOk_in hok
    have hw := word_size h0 h1
    have hi := itoaS_size n h2 h3
    have hw2 : (wordV op ++ (⟨#[32]⟩ : ByteArray)).size = (wordV op).size + 1 := by rw [ByteArray.size_append]; rfl
    rw [if_pos rfl, if_pos rfl, impl_word_f h0 h1]
    simp only [Option.bind_some]
    by_cases h : op = 2
    · rw [if_pos h, if_pos h, if_pos (by omega)]
      unfold strconv_Itoa_39.f
      rw [if_pos (by omega)]
      simp only [Option.bind_some]
      rw [if_pos (by
        show (wordV op ++ (⟨#[32]⟩ : ByteArray)).size + (itoaS n).size ≤ _
        rw [hw2]; omega)]
      rfl
    · rw [if_neg h, if_neg h, impl_refers_f]
      simp only [Option.bind_some]
      by_cases hr : refersB op = true
      · rw [if_pos (by exact hr), if_pos hr, if_pos (by omega), if_pos (by rw [hw2]; omega)]
      · rw [if_neg (by exact hr), if_neg hr]
end Go.Proofs.YtajhjdhkeahlpaaDoor.L
