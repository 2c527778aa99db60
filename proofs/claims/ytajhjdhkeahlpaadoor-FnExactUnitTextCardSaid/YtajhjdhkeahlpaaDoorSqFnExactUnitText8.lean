-- PxlawsszInsS, PxlawsFnExactUnitText, PutsFnExactUnitText, LAllU, LUTextS, PureFnExactUnitText: put together by squash.py
import Derived.Test.YtajhjdhkeahlpaaDoorSqFnExactUnitText3
import Derived.Test.YtajhjdhkeahlpaaDoorSqFnExactUnitText4
import Derived.Test.YtajhjdhkeahlpaaDoorSqFnExactUnitText5
import Derived.Test.YtajhjdhkeahlpaaDoorSqFnExactUnitText6
import Derived.Test.YtajhjdhkeahlpaaDoorSqFnExactUnitText7

-- made by printx.py (own driver over the kit's print); Lean checks it
namespace Go.Proofs.YtajhjdhkeahlpaaDoor.P
open Go.RowKit Go.Proofs.YtajhjdhkeahlpaaDoorW.PrintWords Go.Proofs.YtajhjdhkeahlpaaDoorW.PrintLast Go.Proofs.YtajhjdhkeahlpaaDoorW.PrintMore
attribute [local go_sem] max2_int min2_int max_two min_two max_three min_three max_four min_four   -- for this text's walks alone
set_option linter.unusedVariables false
set_option linter.unusedSimpArgs false

/-! ### laws_szInsS: function 68 -/
def laws_szInsS.l0 : Nat → List (S23) → Int → Int → Option (Int)
  | 0, _, _, _ => none
  | k + 1, x0, x1, x5 => if x5 < (x0.length : Int) then (if 0 ≤ x5 then ((laws_szIns.f ((rd_T23 x0 x5).f0) ((rd_T23 x0 x5).f1) ((rd_T23 x0 x5).f2) x1).bind fun t386 => (if t386 < 0 then (some (-1)) else (laws_szInsS.l0 k x0 t386 (wrap64 (x5 + 1))))) else (none)) else (some x1)
def laws_szInsS.f (k : Nat) (l0 : List (S23)) (a1 : Int) : Option (Int) := if (wrap64 (a1 - (l0.length : Int))) < 0 then (some (-1)) else (laws_szInsS.l0 k l0 (wrap64 (a1 - (l0.length : Int))) 0)
set_option maxHeartbeats 8000000 in
set_option maxRecDepth 100000 in
theorem laws_szInsS.calls (k : Nat) (A0 : Option Addr) (c0 : Nat) (l0 : List (S23)) (a1 : Int) (r : Int) (w : World) (hr0 : Kd.C k23 w A0 l0.length l0) (hc0 : l0.length ≤ c0) (h : laws_szInsS.f k l0 a1 = some r) :
    Calls Tryd.prog 68 #[.slice A0 l0.length c0, .int .i64 a1] w fun e w' => e = .returned (.int .i64 r) ∧ Below w.heap.size w w' := by
 have hu23 := Tryd.underlying23
 have HR0 := Aside0.mk hr0; have HC0 := Aside0.mk hc0; clear hr0 hc0
 have HB := Aside0.mk (Below.refl w.heap.size w)
 have H : (if (wrap64 (a1 - (l0.length : Int))) < 0 then (some (-1)) else (laws_szInsS.l0 k l0 (wrap64 (a1 - (l0.length : Int))) 0)) = some r := h
 clear h
 by_cases c3 : (wrap64 (a1 - (l0.length : Int))) < 0
 · rw [if_pos c3] at H
   have c3b0 : decide ((wrap64 (a1 - (l0.length : Int))) < 0) = true := decide_eq_true c3
   clear c3
   obtain rfl := Option.some.inj H
   go_enter Tryd.func68, Tryd.ntmps68
   go_wp2
   go_ret
   exact ⟨by first | rfl | (simp [errW_none, errW_some] <;> rfl) | (simp [*, errW_none, errW_some] <;> rfl), by repeat (first | (with_reducible first | exact HB.out | apply below_alloc | apply pw_below_drewN | apply below_drew1) | exact HB.out)⟩
 rw [if_neg c3] at H
 have c3b0 : decide ((wrap64 (a1 - (l0.length : Int))) < 0) = false := decide_eq_false c3
 clear c3
 have H' := Aside0.mk H
 clear H
 go_enter Tryd.func68, Tryd.ntmps68
 go_wp2
 go_loopg [1, 5] k (fun kq v1 v5 w' => ∃ (x1_1 : Int) (x5_1 : Int), v1 = .int .i64 x1_1 ∧ v5 = .int .i64 x5_1 ∧ Aside0 (laws_szInsS.l0 kq l0 x1_1 x5_1 = some r) ∧ Aside0 (kq ≤ k) ∧ Aside0 (Below w.heap.size w w'))
 case atStart => exact ⟨(wrap64 (a1 - (l0.length : Int))), (0), (by first | rfl | (simp; done) | (simp [*]; done)), (by first | rfl | (simp; done) | (simp [*]; done)), H', ⟨Nat.le_refl _⟩, ⟨by repeat (first | (with_reducible first | exact HB.out | apply below_alloc | apply pw_below_drewN | apply below_drew1) | exact HB.out)⟩⟩
 clear H'
 try clear p2; try clear c3; try clear c3b0
 obtain ⟨x1_1, x5_1, rfl, rfl, HA, HK1, HB⟩ := hrel
 obtain _ | k1 := gk
 · exact absurd HA.out (by simp [laws_szInsS.l0])
 have H := HA.out
 clear HA
 simp only [laws_szInsS.l0] at H
 by_cases c4 : x5_1 < (l0.length : Int)
 · rw [if_pos c4] at H
   have c4b0 : decide (x5_1 < (l0.length : Int)) = true := decide_eq_true c4
   clear c4
   by_cases c5 : 0 ≤ x5_1
   · rw [if_pos c5] at H
     have c5b0 : decide (0 ≤ x5_1) = true := decide_eq_true c5
     clear c5
     replace H := Option.bind_eq_some_iff.mp H
     obtain ⟨t386, A60, H⟩ := H
     replace H : (if t386 < 0 then (some (-1)) else (laws_szInsS.l0 k1 l0 t386 (wrap64 (x5_1 + 1)))) = some r := H
     have A6 := Aside0.mk A60; clear A60
     by_cases c7 : t386 < 0
     · rw [if_pos c7] at H
       have c7b0 : decide (t386 < 0) = true := decide_eq_true c7
       clear c7
       obtain rfl := Option.some.inj H
       have p385 : 0 ≤ (x5_1 : Int) := of_decide_eq_true (by first | (with_reducible assumption) | assumption)
       have q385 : x5_1 < (l0.length : Int) := of_decide_eq_true (by first | (with_reducible assumption) | assumption)
       obtain ⟨ad385, e385, hx385_0, hx385_1, hx385_2⟩ := at_T23 HR0.out x5_1 p385 q385
       cases e385
       replace hx385_0 := (HB.out.cell (World.block_lt_of_cell? w _ hx385_0)).trans hx385_0
       replace hx385_1 := (HB.out.cell (World.block_lt_of_cell? w _ hx385_1)).trans hx385_1
       replace hx385_2 := (HB.out.cell (World.block_lt_of_cell? w _ hx385_2)).trans hx385_2
       replace p385 := eq_true p385; replace q385 := eq_true q385
       go_wp2_with (first | ((with_reducible refine gate_callee (f := 9) rfl ?_); refine goesL_ (some 23) rfl rfl Tryd.func9 (by kernel_rfl) rfl #[.agg #[.int .i64 ((rd_T23 l0 x5_1).f0), .int .i64 ((rd_T23 l0 x5_1).f1), .string ((rd_T23 l0 x5_1).f2)], .int .i64 x1_1] rfl (by (try simp only [List.map_toArray, List.map_cons, List.map_nil]); first | done | rfl | (simp only [List.length_drop, List.length_take]; rfl)) ?_; (with_reducible refine (laws_szIns.calls ((rd_T23 l0 x5_1).f0) ((rd_T23 l0 x5_1).f1) ((rd_T23 l0 x5_1).f2) x1_1 t386 _ A6.out).mono ?_); rintro e w8 ⟨rfl, hb⟩; refine ⟨_, rfl, ?_⟩; have n0_ := Aside0.mk (below_step (by repeat (first | (with_reducible first | exact HB.out | apply below_alloc | apply pw_below_drewN | apply below_drew1) | exact HB.out)) hb); clear HB; have HB := n0_; clear n0_; (try clear hb); (try clear hb2); (try clear hk); (try clear hi)))
       go_ret
       exact ⟨by first | rfl | (simp [errW_none, errW_some] <;> rfl) | (simp [*, errW_none, errW_some] <;> rfl), by repeat (first | (with_reducible first | exact HB.out | apply below_alloc | apply pw_below_drewN | apply below_drew1) | exact HB.out)⟩
     rw [if_neg c7] at H
     have c7b0 : decide (t386 < 0) = false := decide_eq_false c7
     clear c7
     have H' := Aside0.mk H
     clear H
     have p385 : 0 ≤ (x5_1 : Int) := of_decide_eq_true (by first | (with_reducible assumption) | assumption)
     have q385 : x5_1 < (l0.length : Int) := of_decide_eq_true (by first | (with_reducible assumption) | assumption)
     obtain ⟨ad385, e385, hx385_0, hx385_1, hx385_2⟩ := at_T23 HR0.out x5_1 p385 q385
     cases e385
     replace hx385_0 := (HB.out.cell (World.block_lt_of_cell? w _ hx385_0)).trans hx385_0
     replace hx385_1 := (HB.out.cell (World.block_lt_of_cell? w _ hx385_1)).trans hx385_1
     replace hx385_2 := (HB.out.cell (World.block_lt_of_cell? w _ hx385_2)).trans hx385_2
     replace p385 := eq_true p385; replace q385 := eq_true q385
     go_wp2_with (first | ((with_reducible refine gate_callee (f := 9) rfl ?_); refine goesL_ (some 23) rfl rfl Tryd.func9 (by kernel_rfl) rfl #[.agg #[.int .i64 ((rd_T23 l0 x5_1).f0), .int .i64 ((rd_T23 l0 x5_1).f1), .string ((rd_T23 l0 x5_1).f2)], .int .i64 x1_1] rfl (by (try simp only [List.map_toArray, List.map_cons, List.map_nil]); first | done | rfl | (simp only [List.length_drop, List.length_take]; rfl)) ?_; (with_reducible refine (laws_szIns.calls ((rd_T23 l0 x5_1).f0) ((rd_T23 l0 x5_1).f1) ((rd_T23 l0 x5_1).f2) x1_1 t386 _ A6.out).mono ?_); rintro e w9 ⟨rfl, hb⟩; refine ⟨_, rfl, ?_⟩; have n0_ := Aside0.mk (below_step (by repeat (first | (with_reducible first | exact HB.out | apply below_alloc | apply pw_below_drewN | apply below_drew1) | exact HB.out)) hb); clear HB; have HB := n0_; clear n0_; (try clear hb); (try clear hb2); (try clear hk); (try clear hi)))
     go_roundg k1
     case measure => have := HK1.out; omega
     case rel => exact ⟨(t386), (wrap64 (x5_1 + 1)), (by first | rfl | (simp; done) | (simp [*]; done)), (by first | rfl | (simp; done) | (simp [*]; done)), H', ⟨by have := HK1.out; omega⟩, ⟨by repeat (first | (with_reducible first | exact HB.out | apply below_alloc | apply pw_below_drewN | apply below_drew1) | exact HB.out)⟩⟩
   rw [if_neg c5] at H
   exact absurd H (by simp)
 rw [if_neg c4] at H
 have c4b0 : decide (x5_1 < (l0.length : Int)) = false := decide_eq_false c4
 clear c4
 obtain rfl := Option.some.inj H
 go_wp2
 go_ret
 exact ⟨by first | rfl | (simp [errW_none, errW_some] <;> rfl) | (simp [*, errW_none, errW_some] <;> rfl), by repeat (first | (with_reducible first | exact HB.out | apply below_alloc | apply pw_below_drewN | apply below_drew1) | exact HB.out)⟩

/-! ### laws_szFun: function 52 -/
def laws_szFun.f (k : Nat) (a0_0 : ByteArray) (a0_1 : Bool) (l0_2 : List (S23)) (a1 : Int) : Option (Int) := if (wrap64 (a1 - (a0_0.size : Int))) < 0 then (some (-1)) else ((laws_szInsS.f k l0_2 (wrap64 (a1 - (a0_0.size : Int)))).bind fun t388 => (if t388 < 0 then (some (-1)) else (some t388)))
set_option maxHeartbeats 8000000 in
set_option maxRecDepth 100000 in
theorem laws_szFun.calls (k : Nat) (a0_0 : ByteArray) (a0_1 : Bool) (A0_2 : Option Addr) (c0_2 : Nat) (l0_2 : List (S23)) (a1 : Int) (r : Int) (w : World) (hr0_2 : Kd.C k23 w A0_2 l0_2.length l0_2) (hc0_2 : l0_2.length ≤ c0_2) (h : laws_szFun.f k a0_0 a0_1 l0_2 a1 = some r) :
    Calls Tryd.prog 52 #[.agg #[.string a0_0, .bool a0_1, .slice A0_2 l0_2.length c0_2], .int .i64 a1] w fun e w' => e = .returned (.int .i64 r) ∧ Below w.heap.size w w' := by
 have hu74 := Tryd.underlying74
 have HR0_2 := Aside0.mk hr0_2; have HC0_2 := Aside0.mk hc0_2; clear hr0_2 hc0_2
 have HB := Aside0.mk (Below.refl w.heap.size w)
 have H : (if (wrap64 (a1 - (a0_0.size : Int))) < 0 then (some (-1)) else ((laws_szInsS.f k l0_2 (wrap64 (a1 - (a0_0.size : Int)))).bind fun t388 => (if t388 < 0 then (some (-1)) else (some t388)))) = some r := h
 clear h
 by_cases c3 : (wrap64 (a1 - (a0_0.size : Int))) < 0
 · rw [if_pos c3] at H
   have c3b0 : decide ((wrap64 (a1 - (a0_0.size : Int))) < 0) = true := decide_eq_true c3
   clear c3
   obtain rfl := Option.some.inj H
   go_enter Tryd.func52, Tryd.ntmps52
   go_wp2_with (first | ((with_reducible refine gate_dst (N := 2) rfl ?_); refine box_event ?hg (N := 2) ?hd (cs := #[.string a0_0, .bool a0_1, .slice A0_2 l0_2.length c0_2]) (t := 74) ?hr ?_; (case hd => rfl); (case hg => rfl); (case hr => first | (go_simp; done) | (go_simp; rfl)); intro gb387 hg w4 hbox hb; have n0_ := Aside0.mk (below_step (by repeat (first | (with_reducible first | exact HB.out | apply below_alloc | apply pw_below_drewN | apply below_drew1) | exact HB.out)) hb); have n1_ := Aside0.mk (hbox); have n2_ := Aside0.mk ((by rw [hg]; exact (below_size (by repeat (first | (with_reducible first | exact HB.out | apply below_alloc | apply pw_below_drewN | apply below_drew1) | exact HB.out))) : w.heap.size ≤ gb387)); have n3_ := Aside0.mk ((by rw [hg]; exact (below_size (by repeat (first | (with_reducible first | exact HB.out | apply below_alloc | apply pw_below_drewN | apply below_drew1) | exact HB.out))) : w.heap.size ≤ gb387)); clear HB; have HB := n0_; have BK387 := n1_; have GW387 := n2_; have GE387 := n3_; clear n0_ n1_ n2_ n3_ hb hbox hg; have hcz5_0 : w4.cell? ⟨gb387, 0, none⟩ = some (.string a0_0) := (blk_cell BK387.out 0).trans rfl; have hcz5_1 : w4.cell? ⟨gb387, 1, none⟩ = some (.bool a0_1) := (blk_cell BK387.out 1).trans rfl; have hcz5_2 : w4.cell? ⟨gb387, 2, none⟩ = some (.slice A0_2 l0_2.length c0_2) := (blk_cell BK387.out 2).trans rfl; have hfz5_0 := blk_frozen BK387.out 0; have hfz5_1 := blk_frozen BK387.out 1; have hfz5_2 := blk_frozen BK387.out 2))
   go_ret
   exact ⟨by first | rfl | (simp [errW_none, errW_some] <;> rfl) | (simp [*, errW_none, errW_some] <;> rfl), by repeat (first | (with_reducible first | exact HB.out | apply below_alloc | apply pw_below_drewN | apply below_drew1 | refine below_set ?_ GE387.out) | exact HB.out)⟩
 rw [if_neg c3] at H
 have c3b0 : decide ((wrap64 (a1 - (a0_0.size : Int))) < 0) = false := decide_eq_false c3
 clear c3
 replace H := Option.bind_eq_some_iff.mp H
 obtain ⟨t388, A60, H⟩ := H
 replace H : (if t388 < 0 then (some (-1)) else (some t388)) = some r := H
 have A6 := Aside0.mk A60; clear A60
 by_cases c7 : t388 < 0
 · rw [if_pos c7] at H
   have c7b0 : decide (t388 < 0) = true := decide_eq_true c7
   clear c7
   obtain rfl := Option.some.inj H
   go_enter Tryd.func52, Tryd.ntmps52
   go_wp2_with (first | ((with_reducible refine gate_dst (N := 2) rfl ?_); refine box_event ?hg (N := 2) ?hd (cs := #[.string a0_0, .bool a0_1, .slice A0_2 l0_2.length c0_2]) (t := 74) ?hr ?_; (case hd => rfl); (case hg => rfl); (case hr => first | (go_simp; done) | (go_simp; rfl)); intro gb387 hg w8 hbox hb; have n0_ := Aside0.mk (below_step (by repeat (first | (with_reducible first | exact HB.out | apply below_alloc | apply pw_below_drewN | apply below_drew1) | exact HB.out)) hb); have n1_ := Aside0.mk (hbox); have n2_ := Aside0.mk ((by rw [hg]; exact (below_size (by repeat (first | (with_reducible first | exact HB.out | apply below_alloc | apply pw_below_drewN | apply below_drew1) | exact HB.out))) : w.heap.size ≤ gb387)); have n3_ := Aside0.mk ((by rw [hg]; exact (below_size (by repeat (first | (with_reducible first | exact HB.out | apply below_alloc | apply pw_below_drewN | apply below_drew1) | exact HB.out))) : w.heap.size ≤ gb387)); clear HB; have HB := n0_; have BK387 := n1_; have GW387 := n2_; have GE387 := n3_; clear n0_ n1_ n2_ n3_ hb hbox hg; have hcz9_0 : w8.cell? ⟨gb387, 0, none⟩ = some (.string a0_0) := (blk_cell BK387.out 0).trans rfl; have hcz9_1 : w8.cell? ⟨gb387, 1, none⟩ = some (.bool a0_1) := (blk_cell BK387.out 1).trans rfl; have hcz9_2 : w8.cell? ⟨gb387, 2, none⟩ = some (.slice A0_2 l0_2.length c0_2) := (blk_cell BK387.out 2).trans rfl; have hfz9_0 := blk_frozen BK387.out 0; have hfz9_1 := blk_frozen BK387.out 1; have hfz9_2 := blk_frozen BK387.out 2) | ((with_reducible refine gate_callee (f := 68) rfl ?_); refine goesL_ (some 15) rfl rfl Tryd.func68 (by kernel_rfl) rfl #[.slice A0_2 l0_2.length c0_2, .int .i64 (wrap64 (a1 - (a0_0.size : Int)))] rfl (by (try simp only [List.map_toArray, List.map_cons, List.map_nil]); first | done | rfl | (simp only [List.length_drop, List.length_take]; rfl)) ?_; (with_reducible refine (laws_szInsS.calls k _ _ l0_2 (wrap64 (a1 - (a0_0.size : Int))) t388 _ ?side1 ?side2 A6.out).mono ?_); (case side1 => repeat (first | exact (Kd.C_below HR0_2.out HB.out) | (with_reducible refine Kd.C_alloc ?_ _) | (with_reducible refine Kd.C_drewN ?_ _) | (with_reducible refine Kd.C_drew ?_))); (case side2 => exact HC0_2.out); rintro e w10 ⟨rfl, hb⟩; refine ⟨_, rfl, ?_⟩; have n0_ := Aside0.mk (blk_below (g := gb387) (o := .cells #[.string a0_0, .bool a0_1, .slice A0_2 l0_2.length c0_2] 74 (0, 0)) (by (with_reducible repeat (first | refine blk_drewN ?_ _ | refine blk_drew ?_ | refine blk_alloc ?_ _)); exact BK387.out) hb); have n1_ := Aside0.mk (below_step (by repeat (first | (with_reducible first | exact HB.out | apply below_alloc | apply pw_below_drewN | apply below_drew1 | refine below_set ?_ GE387.out) | exact HB.out)) hb); clear BK387 HB; have BK387 := n0_; have HB := n1_; clear n0_ n1_; (try clear hb); (try clear hb2); (try clear hk); (try clear hi)))
   go_ret
   exact ⟨by first | rfl | (simp [errW_none, errW_some] <;> rfl) | (simp [*, errW_none, errW_some] <;> rfl), by repeat (first | (with_reducible first | exact HB.out | apply below_alloc | apply pw_below_drewN | apply below_drew1 | refine below_set ?_ GE387.out) | exact HB.out)⟩
 rw [if_neg c7] at H
 have c7b0 : decide (t388 < 0) = false := decide_eq_false c7
 clear c7
 obtain rfl := Option.some.inj H
 go_enter Tryd.func52, Tryd.ntmps52
 go_wp2_with (first | ((with_reducible refine gate_dst (N := 2) rfl ?_); refine box_event ?hg (N := 2) ?hd (cs := #[.string a0_0, .bool a0_1, .slice A0_2 l0_2.length c0_2]) (t := 74) ?hr ?_; (case hd => rfl); (case hg => rfl); (case hr => first | (go_simp; done) | (go_simp; rfl)); intro gb387 hg w11 hbox hb; have n0_ := Aside0.mk (below_step (by repeat (first | (with_reducible first | exact HB.out | apply below_alloc | apply pw_below_drewN | apply below_drew1) | exact HB.out)) hb); have n1_ := Aside0.mk (hbox); have n2_ := Aside0.mk ((by rw [hg]; exact (below_size (by repeat (first | (with_reducible first | exact HB.out | apply below_alloc | apply pw_below_drewN | apply below_drew1) | exact HB.out))) : w.heap.size ≤ gb387)); have n3_ := Aside0.mk ((by rw [hg]; exact (below_size (by repeat (first | (with_reducible first | exact HB.out | apply below_alloc | apply pw_below_drewN | apply below_drew1) | exact HB.out))) : w.heap.size ≤ gb387)); clear HB; have HB := n0_; have BK387 := n1_; have GW387 := n2_; have GE387 := n3_; clear n0_ n1_ n2_ n3_ hb hbox hg; have hcz12_0 : w11.cell? ⟨gb387, 0, none⟩ = some (.string a0_0) := (blk_cell BK387.out 0).trans rfl; have hcz12_1 : w11.cell? ⟨gb387, 1, none⟩ = some (.bool a0_1) := (blk_cell BK387.out 1).trans rfl; have hcz12_2 : w11.cell? ⟨gb387, 2, none⟩ = some (.slice A0_2 l0_2.length c0_2) := (blk_cell BK387.out 2).trans rfl; have hfz12_0 := blk_frozen BK387.out 0; have hfz12_1 := blk_frozen BK387.out 1; have hfz12_2 := blk_frozen BK387.out 2) | ((with_reducible refine gate_callee (f := 68) rfl ?_); refine goesL_ (some 15) rfl rfl Tryd.func68 (by kernel_rfl) rfl #[.slice A0_2 l0_2.length c0_2, .int .i64 (wrap64 (a1 - (a0_0.size : Int)))] rfl (by (try simp only [List.map_toArray, List.map_cons, List.map_nil]); first | done | rfl | (simp only [List.length_drop, List.length_take]; rfl)) ?_; (with_reducible refine (laws_szInsS.calls k _ _ l0_2 (wrap64 (a1 - (a0_0.size : Int))) t388 _ ?side1 ?side2 A6.out).mono ?_); (case side1 => repeat (first | exact (Kd.C_below HR0_2.out HB.out) | (with_reducible refine Kd.C_alloc ?_ _) | (with_reducible refine Kd.C_drewN ?_ _) | (with_reducible refine Kd.C_drew ?_))); (case side2 => exact HC0_2.out); rintro e w13 ⟨rfl, hb⟩; refine ⟨_, rfl, ?_⟩; have n0_ := Aside0.mk (blk_below (g := gb387) (o := .cells #[.string a0_0, .bool a0_1, .slice A0_2 l0_2.length c0_2] 74 (0, 0)) (by (with_reducible repeat (first | refine blk_drewN ?_ _ | refine blk_drew ?_ | refine blk_alloc ?_ _)); exact BK387.out) hb); have n1_ := Aside0.mk (below_step (by repeat (first | (with_reducible first | exact HB.out | apply below_alloc | apply pw_below_drewN | apply below_drew1 | refine below_set ?_ GE387.out) | exact HB.out)) hb); clear BK387 HB; have BK387 := n0_; have HB := n1_; clear n0_ n1_; (try clear hb); (try clear hb2); (try clear hk); (try clear hi)))
 go_ret
 exact ⟨by first | rfl | (simp [errW_none, errW_some] <;> rfl) | (simp [*, errW_none, errW_some] <;> rfl), by repeat (first | (with_reducible first | exact HB.out | apply below_alloc | apply pw_below_drewN | apply below_drew1 | refine below_set ?_ GE387.out) | exact HB.out)⟩

/-! ### laws_szFunS: function 27 -/
def laws_szFunS.l0 : Nat → List (S74) → Int → Int → Option (Int)
  | 0, _, _, _ => none
  | k + 1, x0, x1, x5 => if x5 < (x0.length : Int) then (if 0 ≤ x5 then ((laws_szFun.f k ((rd_T74 x0 x5).f0) ((rd_T74 x0 x5).f1) ((rd_T74 x0 x5).f2) x1).bind fun t390 => (if t390 < 0 then (some (-1)) else (laws_szFunS.l0 k x0 t390 (wrap64 (x5 + 1))))) else (none)) else (some x1)
def laws_szFunS.f (k : Nat) (l0 : List (S74)) (a1 : Int) : Option (Int) := if (wrap64 (a1 - (l0.length : Int))) < 0 then (some (-1)) else (laws_szFunS.l0 k l0 (wrap64 (a1 - (l0.length : Int))) 0)
set_option maxHeartbeats 8000000 in
set_option maxRecDepth 100000 in
theorem laws_szFunS.calls (k : Nat) (A0 : Option Addr) (c0 : Nat) (l0 : List (S74)) (a1 : Int) (r : Int) (w : World) (hr0 : Kd.C k74 w A0 l0.length l0) (hc0 : l0.length ≤ c0) (h : laws_szFunS.f k l0 a1 = some r) :
    Calls Tryd.prog 27 #[.slice A0 l0.length c0, .int .i64 a1] w fun e w' => e = .returned (.int .i64 r) ∧ Below w.heap.size w w' := by
 have hu74 := Tryd.underlying74
 have HR0 := Aside0.mk hr0; have HC0 := Aside0.mk hc0; clear hr0 hc0
 have HB := Aside0.mk (Below.refl w.heap.size w)
 have H : (if (wrap64 (a1 - (l0.length : Int))) < 0 then (some (-1)) else (laws_szFunS.l0 k l0 (wrap64 (a1 - (l0.length : Int))) 0)) = some r := h
 clear h
 by_cases c3 : (wrap64 (a1 - (l0.length : Int))) < 0
 · rw [if_pos c3] at H
   have c3b0 : decide ((wrap64 (a1 - (l0.length : Int))) < 0) = true := decide_eq_true c3
   clear c3
   obtain rfl := Option.some.inj H
   go_enter Tryd.func27, Tryd.ntmps27
   go_wp2
   go_ret
   exact ⟨by first | rfl | (simp [errW_none, errW_some] <;> rfl) | (simp [*, errW_none, errW_some] <;> rfl), by repeat (first | (with_reducible first | exact HB.out | apply below_alloc | apply pw_below_drewN | apply below_drew1) | exact HB.out)⟩
 rw [if_neg c3] at H
 have c3b0 : decide ((wrap64 (a1 - (l0.length : Int))) < 0) = false := decide_eq_false c3
 clear c3
 have H' := Aside0.mk H
 clear H
 go_enter Tryd.func27, Tryd.ntmps27
 go_wp2
 go_loopg [1, 5] k (fun kq v1 v5 w' => ∃ (x1_1 : Int) (x5_1 : Int), v1 = .int .i64 x1_1 ∧ v5 = .int .i64 x5_1 ∧ Aside0 (laws_szFunS.l0 kq l0 x1_1 x5_1 = some r) ∧ Aside0 (kq ≤ k) ∧ Aside0 (Below w.heap.size w w'))
 case atStart => exact ⟨(wrap64 (a1 - (l0.length : Int))), (0), (by first | rfl | (simp; done) | (simp [*]; done)), (by first | rfl | (simp; done) | (simp [*]; done)), H', ⟨Nat.le_refl _⟩, ⟨by repeat (first | (with_reducible first | exact HB.out | apply below_alloc | apply pw_below_drewN | apply below_drew1) | exact HB.out)⟩⟩
 clear H'
 try clear c2; try clear p2; try clear c3; try clear c3b0
 obtain ⟨x1_1, x5_1, rfl, rfl, HA, HK1, HB⟩ := hrel
 obtain _ | k1 := gk
 · exact absurd HA.out (by simp [laws_szFunS.l0])
 have H := HA.out
 clear HA
 simp only [laws_szFunS.l0] at H
 by_cases c4 : x5_1 < (l0.length : Int)
 · rw [if_pos c4] at H
   have c4b0 : decide (x5_1 < (l0.length : Int)) = true := decide_eq_true c4
   clear c4
   by_cases c5 : 0 ≤ x5_1
   · rw [if_pos c5] at H
     have c5b0 : decide (0 ≤ x5_1) = true := decide_eq_true c5
     clear c5
     replace H := Option.bind_eq_some_iff.mp H
     obtain ⟨t390, A60, H⟩ := H
     replace H : (if t390 < 0 then (some (-1)) else (laws_szFunS.l0 k1 l0 t390 (wrap64 (x5_1 + 1)))) = some r := H
     have A6 := Aside0.mk A60; clear A60
     by_cases c7 : t390 < 0
     · rw [if_pos c7] at H
       have c7b0 : decide (t390 < 0) = true := decide_eq_true c7
       clear c7
       obtain rfl := Option.some.inj H
       have p389 : 0 ≤ (x5_1 : Int) := of_decide_eq_true (by first | (with_reducible assumption) | assumption)
       have q389 : x5_1 < (l0.length : Int) := of_decide_eq_true (by first | (with_reducible assumption) | assumption)
       obtain ⟨ad389, A389_2, c389_2, e389, hx389_0, hx389_1, hx389_2, hl389_2, hi389_2⟩ := at_T74 HR0.out x5_1 p389 q389
       cases e389
       replace hx389_0 := (HB.out.cell (World.block_lt_of_cell? w _ hx389_0)).trans hx389_0
       replace hx389_1 := (HB.out.cell (World.block_lt_of_cell? w _ hx389_1)).trans hx389_1
       replace hx389_2 := (HB.out.cell (World.block_lt_of_cell? w _ hx389_2)).trans hx389_2
       have HR389_2 := Aside0.mk hi389_2; have HC389_2 := Aside0.mk hl389_2; clear hi389_2 hl389_2; replace p389 := eq_true p389; replace q389 := eq_true q389
       go_wp2_with (first | ((with_reducible refine gate_callee (f := 52) rfl ?_); refine goesL_ (some 23) rfl rfl Tryd.func52 (by kernel_rfl) rfl #[.agg #[.string ((rd_T74 l0 x5_1).f0), .bool ((rd_T74 l0 x5_1).f1), .slice A389_2 ((rd_T74 l0 x5_1).f2).length c389_2], .int .i64 x1_1] rfl (by (try simp only [List.map_toArray, List.map_cons, List.map_nil]); first | done | rfl | (simp only [List.length_drop, List.length_take]; rfl)) ?_; (with_reducible refine (laws_szFun.calls k1 ((rd_T74 l0 x5_1).f0) ((rd_T74 l0 x5_1).f1) _ _ ((rd_T74 l0 x5_1).f2) x1_1 t390 _ ?side1 ?side2 A6.out).mono ?_); (case side1 => repeat (first | exact (Kd.C_below HR389_2.out HB.out) | (with_reducible refine Kd.C_alloc ?_ _) | (with_reducible refine Kd.C_drewN ?_ _) | (with_reducible refine Kd.C_drew ?_))); (case side2 => exact HC389_2.out); rintro e w8 ⟨rfl, hb⟩; refine ⟨_, rfl, ?_⟩; have n0_ := Aside0.mk (below_step (by repeat (first | (with_reducible first | exact HB.out | apply below_alloc | apply pw_below_drewN | apply below_drew1) | exact HB.out)) hb); clear HB; have HB := n0_; clear n0_; (try clear hb); (try clear hb2); (try clear hk); (try clear hi)))
       go_ret
       exact ⟨by first | rfl | (simp [errW_none, errW_some] <;> rfl) | (simp [*, errW_none, errW_some] <;> rfl), by repeat (first | (with_reducible first | exact HB.out | apply below_alloc | apply pw_below_drewN | apply below_drew1) | exact HB.out)⟩
     rw [if_neg c7] at H
     have c7b0 : decide (t390 < 0) = false := decide_eq_false c7
     clear c7
     have H' := Aside0.mk H
     clear H
     have p389 : 0 ≤ (x5_1 : Int) := of_decide_eq_true (by first | (with_reducible assumption) | assumption)
     have q389 : x5_1 < (l0.length : Int) := of_decide_eq_true (by first | (with_reducible assumption) | assumption)
     obtain ⟨ad389, A389_2, c389_2, e389, hx389_0, hx389_1, hx389_2, hl389_2, hi389_2⟩ := at_T74 HR0.out x5_1 p389 q389
     cases e389
     replace hx389_0 := (HB.out.cell (World.block_lt_of_cell? w _ hx389_0)).trans hx389_0
     replace hx389_1 := (HB.out.cell (World.block_lt_of_cell? w _ hx389_1)).trans hx389_1
     replace hx389_2 := (HB.out.cell (World.block_lt_of_cell? w _ hx389_2)).trans hx389_2
     have HR389_2 := Aside0.mk hi389_2; have HC389_2 := Aside0.mk hl389_2; clear hi389_2 hl389_2; replace p389 := eq_true p389; replace q389 := eq_true q389
     go_wp2_with (first | ((with_reducible refine gate_callee (f := 52) rfl ?_); refine goesL_ (some 23) rfl rfl Tryd.func52 (by kernel_rfl) rfl #[.agg #[.string ((rd_T74 l0 x5_1).f0), .bool ((rd_T74 l0 x5_1).f1), .slice A389_2 ((rd_T74 l0 x5_1).f2).length c389_2], .int .i64 x1_1] rfl (by (try simp only [List.map_toArray, List.map_cons, List.map_nil]); first | done | rfl | (simp only [List.length_drop, List.length_take]; rfl)) ?_; (with_reducible refine (laws_szFun.calls k1 ((rd_T74 l0 x5_1).f0) ((rd_T74 l0 x5_1).f1) _ _ ((rd_T74 l0 x5_1).f2) x1_1 t390 _ ?side1 ?side2 A6.out).mono ?_); (case side1 => repeat (first | exact (Kd.C_below HR389_2.out HB.out) | (with_reducible refine Kd.C_alloc ?_ _) | (with_reducible refine Kd.C_drewN ?_ _) | (with_reducible refine Kd.C_drew ?_))); (case side2 => exact HC389_2.out); rintro e w9 ⟨rfl, hb⟩; refine ⟨_, rfl, ?_⟩; have n0_ := Aside0.mk (below_step (by repeat (first | (with_reducible first | exact HB.out | apply below_alloc | apply pw_below_drewN | apply below_drew1) | exact HB.out)) hb); clear HB; have HB := n0_; clear n0_; (try clear hb); (try clear hb2); (try clear hk); (try clear hi)))
     go_roundg k1
     case measure => have := HK1.out; omega
     case rel => exact ⟨(t390), (wrap64 (x5_1 + 1)), (by first | rfl | (simp; done) | (simp [*]; done)), (by first | rfl | (simp; done) | (simp [*]; done)), H', ⟨by have := HK1.out; omega⟩, ⟨by repeat (first | (with_reducible first | exact HB.out | apply below_alloc | apply pw_below_drewN | apply below_drew1) | exact HB.out)⟩⟩
   rw [if_neg c5] at H
   exact absurd H (by simp)
 rw [if_neg c4] at H
 have c4b0 : decide (x5_1 < (l0.length : Int)) = false := decide_eq_false c4
 clear c4
 obtain rfl := Option.some.inj H
 go_wp2
 go_ret
 exact ⟨by first | rfl | (simp [errW_none, errW_some] <;> rfl) | (simp [*, errW_none, errW_some] <;> rfl), by repeat (first | (with_reducible first | exact HB.out | apply below_alloc | apply pw_below_drewN | apply below_drew1) | exact HB.out)⟩

/-! ### spec_UnitText: function 28 -/
mutual
def spec_UnitText.l0 : Nat → List (S41) → ByteArray → Int → Option (ByteArray)
  | 0, _, _, _ => none
  | k + 1, x0, x3, x4 => if x4 < (x0.length : Int) then (if 0 ≤ x4 then (if (rd_T41 x0 x4).f1 = true then (if x3.size + 5 ≤ 9223372036854775807 then (if (x3 ++ (⟨#[119, 101, 97, 107, 32]⟩ : ByteArray)).size + ((rd_T41 x0 x4).f0).size ≤ 9223372036854775807 then (if ((x3 ++ (⟨#[119, 101, 97, 107, 32]⟩ : ByteArray)) ++ ((rd_T41 x0 x4).f0)).size + 1 ≤ 9223372036854775807 then (spec_UnitText.j1 k x0 (((x3 ++ (⟨#[119, 101, 97, 107, 32]⟩ : ByteArray)) ++ ((rd_T41 x0 x4).f0)) ++ (⟨#[10]⟩ : ByteArray)) x4) else (none)) else (none)) else (none)) else (if x3.size + 4 ≤ 9223372036854775807 then (if (x3 ++ (⟨#[102, 117, 110, 32]⟩ : ByteArray)).size + ((rd_T41 x0 x4).f0).size ≤ 9223372036854775807 then (if ((x3 ++ (⟨#[102, 117, 110, 32]⟩ : ByteArray)) ++ ((rd_T41 x0 x4).f0)).size + 1 ≤ 9223372036854775807 then (spec_UnitText.j1 k x0 (((x3 ++ (⟨#[102, 117, 110, 32]⟩ : ByteArray)) ++ ((rd_T41 x0 x4).f0)) ++ (⟨#[10]⟩ : ByteArray)) x4) else (none)) else (none)) else (none))) else (none)) else (some x3)
def spec_UnitText.j1 : Nat → List (S41) → ByteArray → Int → Option (ByteArray)
  | 0, _, _, _ => none
  | k + 1, x0, x3, x4 => spec_UnitText.l1 k x0 x3 x4 0
def spec_UnitText.l1 : Nat → List (S41) → ByteArray → Int → Int → Option (ByteArray)
  | 0, _, _, _, _ => none
  | k + 1, x0, x3, x4, x5 => if 0 ≤ x4 then (if x4 < (x0.length : Int) then (if x5 < (((rd_T41 x0 x4).f2).length : Int) then (if 0 ≤ x5 then ((spec_InsText.f k ((rd_T26 ((rd_T41 x0 x4).f2) x5).f0) ((rd_T26 ((rd_T41 x0 x4).f2) x5).f1) ((rd_T26 ((rd_T41 x0 x4).f2) x5).f2)).bind fun t398 => (if x3.size + t398.size ≤ 9223372036854775807 then (if (x3 ++ t398).size + 1 ≤ 9223372036854775807 then (spec_UnitText.l1 k x0 ((x3 ++ t398) ++ (⟨#[10]⟩ : ByteArray)) x4 (wrap64 (x5 + 1))) else (none)) else (none))) else (none)) else (spec_UnitText.l0 k x0 x3 (wrap64 (x4 + 1)))) else (none)) else (none)
end
def spec_UnitText.f (k : Nat) (l0 : List (S41)) : Option (ByteArray) := (spec_UnitOk.f k l0).bind fun t391 => (if t391 = true then (spec_UnitText.l0 k l0 (⟨#[]⟩ : ByteArray) 0) else (some (⟨#[]⟩ : ByteArray)))
set_option maxHeartbeats 8000000 in
set_option maxRecDepth 100000 in
theorem spec_UnitText.calls (k : Nat) (A0 : Option Addr) (c0 : Nat) (l0 : List (S41)) (r : ByteArray) (w : World) (hr0 : Kd.C k41 w A0 l0.length l0) (hc0 : l0.length ≤ c0) (h : spec_UnitText.f k l0 = some r) :
    Calls Tryd.prog 28 #[.slice A0 l0.length c0] w fun e w' => e = .returned (.string r) ∧ Below w.heap.size w w' := by
 have hu26 := Tryd.underlying26
 have HR0 := Aside0.mk hr0; have HC0 := Aside0.mk hc0; clear hr0 hc0
 have HB := Aside0.mk (Below.refl w.heap.size w)
 have H : ((spec_UnitOk.f k l0).bind fun t391 => (if t391 = true then (spec_UnitText.l0 k l0 (⟨#[]⟩ : ByteArray) 0) else (some (⟨#[]⟩ : ByteArray)))) = some r := h
 clear h
 replace H := Option.bind_eq_some_iff.mp H
 obtain ⟨t391, A20, H⟩ := H
 replace H : (if t391 = true then (spec_UnitText.l0 k l0 (⟨#[]⟩ : ByteArray) 0) else (some (⟨#[]⟩ : ByteArray))) = some r := H
 have A2 := Aside0.mk A20; clear A20
 by_cases c3 : t391 = true
 · subst c3
   have H1 : (spec_UnitText.l0 k l0 (⟨#[]⟩ : ByteArray) 0) = some r := by rw [if_pos rfl] at H; exact H
   clear H
   have H := H1
   clear H1
   have H' := Aside0.mk H
   clear H
   go_enter Tryd.func28, Tryd.ntmps28
   go_wp2_with (first | ((with_reducible refine gate_callee (f := 25) rfl ?_); refine goesL_ (some 7) rfl rfl Tryd.func25 (by kernel_rfl) rfl #[.slice A0 l0.length c0] rfl (by (try simp only [List.map_toArray, List.map_cons, List.map_nil]); first | done | rfl | (simp only [List.length_drop, List.length_take]; rfl)) ?_; (with_reducible refine (spec_UnitOk.calls k _ _ l0 true _ ?side1 ?side2 A2.out).mono ?_); (case side1 => repeat (first | exact HR0.out | (with_reducible refine Kd.C_alloc ?_ _) | (with_reducible refine Kd.C_drewN ?_ _) | (with_reducible refine Kd.C_drew ?_))); (case side2 => exact HC0.out); rintro e w4 ⟨rfl, hb⟩; refine ⟨_, rfl, ?_⟩; have n0_ := Aside0.mk (below_step (by repeat (first | (with_reducible first | exact HB.out | apply below_alloc | apply pw_below_drewN | apply below_drew1) | exact HB.out)) hb); clear HB; have HB := n0_; clear n0_; (try clear hb); (try clear hb2); (try clear hk); (try clear hi)))
   go_loopg [3, 4] k (fun kq v3 v4 w' => ∃ (x3_1 : ByteArray) (x4_1 : Int), v3 = .string x3_1 ∧ v4 = .int .i64 x4_1 ∧ Aside0 (spec_UnitText.l0 kq l0 x3_1 x4_1 = some r) ∧ Aside0 (kq ≤ k) ∧ Aside0 (Below w.heap.size w w'))
   case atStart => exact ⟨((⟨#[]⟩ : ByteArray)), (0), (by first | rfl | (simp; done) | (simp [*]; done)), (by first | rfl | (simp; done) | (simp [*]; done)), H', ⟨Nat.le_refl _⟩, ⟨by repeat (first | (with_reducible first | exact HB.out | apply below_alloc | apply pw_below_drewN | apply below_drew1) | exact HB.out)⟩⟩
   clear H'
   try clear c2; try clear p2; try clear c3
   obtain ⟨x3_1, x4_1, rfl, rfl, HA, HK1, HB⟩ := hrel
   obtain _ | k1 := gk
   · exact absurd HA.out (by simp [spec_UnitText.l0])
   have H := HA.out
   clear HA
   simp only [spec_UnitText.l0] at H
   by_cases c5 : x4_1 < (l0.length : Int)
   · rw [if_pos c5] at H
     have c5b0 : decide (x4_1 < (l0.length : Int)) = true := decide_eq_true c5
     clear c5
     by_cases c6 : 0 ≤ x4_1
     · rw [if_pos c6] at H
       have c6b0 : decide (0 ≤ x4_1) = true := decide_eq_true c6
       clear c6; have HC7 := Aside0.mk H; clear H
       have p392 : 0 ≤ (x4_1 : Int) := of_decide_eq_true (by first | (with_reducible assumption) | assumption)
       have q392 : x4_1 < (l0.length : Int) := of_decide_eq_true (by first | (with_reducible assumption) | assumption)
       obtain ⟨ad392, A392_2, c392_2, e392, hx392_0, hx392_1, hx392_2, hl392_2, hi392_2⟩ := at_T41 HR0.out x4_1 p392 q392
       cases e392
       replace hx392_0 := (HB.out.cell (World.block_lt_of_cell? w _ hx392_0)).trans hx392_0
       replace hx392_1 := (HB.out.cell (World.block_lt_of_cell? w _ hx392_1)).trans hx392_1
       replace hx392_2 := (HB.out.cell (World.block_lt_of_cell? w _ hx392_2)).trans hx392_2
       have HR392_2 := Aside0.mk hi392_2; have HC392_2 := Aside0.mk hl392_2; clear hi392_2 hl392_2; replace p392 := eq_true p392; replace q392 := eq_true q392
       go_upto_if 19 with (fail)
       go_cut [3] (fun v3 wc => ∃ (kq : Nat) (x3_6 : ByteArray), v3 = .string x3_6 ∧ Aside0 (spec_UnitText.j1 kq l0 x3_6 x4_1 = some r) ∧ Aside0 (kq ≤ k1) ∧ Aside0 (Below w.heap.size w wc))
       case first =>
        have H := HC7.out
        clear HC7
        obtain ⟨bq8, hbq8⟩ : ∃ b_ : Bool, b_ = ((rd_T41 l0 x4_1).f1) := ⟨_, rfl⟩
        replace H : (if bq8 = true then (if x3_1.size + 5 ≤ 9223372036854775807 then (if (x3_1 ++ (⟨#[119, 101, 97, 107, 32]⟩ : ByteArray)).size + ((rd_T41 l0 x4_1).f0).size ≤ 9223372036854775807 then (if ((x3_1 ++ (⟨#[119, 101, 97, 107, 32]⟩ : ByteArray)) ++ ((rd_T41 l0 x4_1).f0)).size + 1 ≤ 9223372036854775807 then (spec_UnitText.j1 k1 l0 (((x3_1 ++ (⟨#[119, 101, 97, 107, 32]⟩ : ByteArray)) ++ ((rd_T41 l0 x4_1).f0)) ++ (⟨#[10]⟩ : ByteArray)) x4_1) else (none)) else (none)) else (none)) else (if x3_1.size + 4 ≤ 9223372036854775807 then (if (x3_1 ++ (⟨#[102, 117, 110, 32]⟩ : ByteArray)).size + ((rd_T41 l0 x4_1).f0).size ≤ 9223372036854775807 then (if ((x3_1 ++ (⟨#[102, 117, 110, 32]⟩ : ByteArray)) ++ ((rd_T41 l0 x4_1).f0)).size + 1 ≤ 9223372036854775807 then (spec_UnitText.j1 k1 l0 (((x3_1 ++ (⟨#[102, 117, 110, 32]⟩ : ByteArray)) ++ ((rd_T41 l0 x4_1).f0)) ++ (⟨#[10]⟩ : ByteArray)) x4_1) else (none)) else (none)) else (none))) = some r := by rw [← hbq8] at H; exact H
        have Nbq8 := Aside0.mk hbq8; clear hbq8
        (try rw [← Nbq8.out])
        by_cases c9 : bq8 = true
        · subst c9
          have H1 : (if x3_1.size + 5 ≤ 9223372036854775807 then (if (x3_1 ++ (⟨#[119, 101, 97, 107, 32]⟩ : ByteArray)).size + ((rd_T41 l0 x4_1).f0).size ≤ 9223372036854775807 then (if ((x3_1 ++ (⟨#[119, 101, 97, 107, 32]⟩ : ByteArray)) ++ ((rd_T41 l0 x4_1).f0)).size + 1 ≤ 9223372036854775807 then (spec_UnitText.j1 k1 l0 (((x3_1 ++ (⟨#[119, 101, 97, 107, 32]⟩ : ByteArray)) ++ ((rd_T41 l0 x4_1).f0)) ++ (⟨#[10]⟩ : ByteArray)) x4_1) else (none)) else (none)) else (none)) = some r := by rw [if_pos rfl] at H; exact H
          clear H
          have H := H1
          clear H1
          by_cases c10 : x3_1.size + 5 ≤ 9223372036854775807
          · rw [if_pos c10] at H
            have c10b0 := eq_true c10
            have c10b1 : decide (x3_1.size + 5 ≤ 9223372036854775807) = true := decide_eq_true c10
            try have c10b2 : (9223372036854775807 < x3_1.size + 5) = False := eq_false (Nat.not_lt.2 c10)
            by_cases c11 : (x3_1 ++ (⟨#[119, 101, 97, 107, 32]⟩ : ByteArray)).size + ((rd_T41 l0 x4_1).f0).size ≤ 9223372036854775807
            · rw [if_pos c11] at H
              have c11b0 := eq_true c11
              have c11b1 : decide ((x3_1 ++ (⟨#[119, 101, 97, 107, 32]⟩ : ByteArray)).size + ((rd_T41 l0 x4_1).f0).size ≤ 9223372036854775807) = true := decide_eq_true c11
              try have c11b2 : (9223372036854775807 < (x3_1 ++ (⟨#[119, 101, 97, 107, 32]⟩ : ByteArray)).size + ((rd_T41 l0 x4_1).f0).size) = False := eq_false (Nat.not_lt.2 c11)
              try have c11b9 : (9223372036854775807 < x3_1.size + 5 + (rd_T41 l0 x4_1).f0.size) = False := eq_false (Nat.not_lt.2 (by have h9_ := c11; (simp only [ByteArray.size_append] at h9_); exact h9_))
              by_cases c12 : ((x3_1 ++ (⟨#[119, 101, 97, 107, 32]⟩ : ByteArray)) ++ ((rd_T41 l0 x4_1).f0)).size + 1 ≤ 9223372036854775807
              · rw [if_pos c12] at H
                have c12b0 := eq_true c12
                have c12b1 : decide (((x3_1 ++ (⟨#[119, 101, 97, 107, 32]⟩ : ByteArray)) ++ ((rd_T41 l0 x4_1).f0)).size + 1 ≤ 9223372036854775807) = true := decide_eq_true c12
                try have c12b2 : (9223372036854775807 < ((x3_1 ++ (⟨#[119, 101, 97, 107, 32]⟩ : ByteArray)) ++ ((rd_T41 l0 x4_1).f0)).size + 1) = False := eq_false (Nat.not_lt.2 c12)
                try have c12b9 : (9223372036854775807 < x3_1.size + 5 + (rd_T41 l0 x4_1).f0.size + 1) = False := eq_false (Nat.not_lt.2 (by have h9_ := c12; (simp only [ByteArray.size_append] at h9_); exact h9_))
                have H' := Aside0.mk H
                clear H
                have p393 : 0 ≤ (x4_1 : Int) := of_decide_eq_true (by first | (with_reducible assumption) | assumption)
                have q393 : x4_1 < (l0.length : Int) := of_decide_eq_true (by first | (with_reducible assumption) | assumption)
                obtain ⟨ad393, A393_2, c393_2, e393, hx393_0, hx393_1, hx393_2, hl393_2, hi393_2⟩ := at_T41 HR0.out x4_1 p393 q393
                (try rw [← Nbq8.out] at hx393_1)
                obtain rfl : ad392 = ad393 := (by injection e393)
                replace hx393_0 := (HB.out.cell (World.block_lt_of_cell? w _ hx393_0)).trans hx393_0
                replace hx393_1 := (HB.out.cell (World.block_lt_of_cell? w _ hx393_1)).trans hx393_1
                replace hx393_2 := (HB.out.cell (World.block_lt_of_cell? w _ hx393_2)).trans hx393_2
                have HR393_2 := Aside0.mk hi393_2; have HC393_2 := Aside0.mk hl393_2; clear hi393_2 hl393_2; replace p393 := eq_true p393; replace q393 := eq_true q393
                go_wp2
                go_meet
                case rel => exact ⟨_, (((x3_1 ++ (⟨#[119, 101, 97, 107, 32]⟩ : ByteArray)) ++ ((rd_T41 l0 x4_1).f0)) ++ (⟨#[10]⟩ : ByteArray)), (by first | rfl | (simp; done) | (simp [*]; done)), H', ⟨by have := HK1.out; first | omega | exact Nat.le_refl _⟩, ⟨by repeat (first | (with_reducible first | exact HB.out | apply below_alloc | apply pw_below_drewN | apply below_drew1) | exact HB.out)⟩⟩
              rw [if_neg c12] at H
              exact absurd H (by simp)
            rw [if_neg c11] at H
            exact absurd H (by simp)
          rw [if_neg c10] at H
          exact absurd H (by simp)
        replace c9 := Bool.eq_false_iff.mpr c9
        subst c9
        have H1 : (if x3_1.size + 4 ≤ 9223372036854775807 then (if (x3_1 ++ (⟨#[102, 117, 110, 32]⟩ : ByteArray)).size + ((rd_T41 l0 x4_1).f0).size ≤ 9223372036854775807 then (if ((x3_1 ++ (⟨#[102, 117, 110, 32]⟩ : ByteArray)) ++ ((rd_T41 l0 x4_1).f0)).size + 1 ≤ 9223372036854775807 then (spec_UnitText.j1 k1 l0 (((x3_1 ++ (⟨#[102, 117, 110, 32]⟩ : ByteArray)) ++ ((rd_T41 l0 x4_1).f0)) ++ (⟨#[10]⟩ : ByteArray)) x4_1) else (none)) else (none)) else (none)) = some r := by rw [if_neg (show ¬ (false = true) by decide)] at H; exact H
        clear H
        have H := H1
        clear H1
        by_cases c13 : x3_1.size + 4 ≤ 9223372036854775807
        · rw [if_pos c13] at H
          have c13b0 := eq_true c13
          have c13b1 : decide (x3_1.size + 4 ≤ 9223372036854775807) = true := decide_eq_true c13
          try have c13b2 : (9223372036854775807 < x3_1.size + 4) = False := eq_false (Nat.not_lt.2 c13)
          by_cases c14 : (x3_1 ++ (⟨#[102, 117, 110, 32]⟩ : ByteArray)).size + ((rd_T41 l0 x4_1).f0).size ≤ 9223372036854775807
          · rw [if_pos c14] at H
            have c14b0 := eq_true c14
            have c14b1 : decide ((x3_1 ++ (⟨#[102, 117, 110, 32]⟩ : ByteArray)).size + ((rd_T41 l0 x4_1).f0).size ≤ 9223372036854775807) = true := decide_eq_true c14
            try have c14b2 : (9223372036854775807 < (x3_1 ++ (⟨#[102, 117, 110, 32]⟩ : ByteArray)).size + ((rd_T41 l0 x4_1).f0).size) = False := eq_false (Nat.not_lt.2 c14)
            try have c14b9 : (9223372036854775807 < x3_1.size + 4 + (rd_T41 l0 x4_1).f0.size) = False := eq_false (Nat.not_lt.2 (by have h9_ := c14; (simp only [ByteArray.size_append] at h9_); exact h9_))
            by_cases c15 : ((x3_1 ++ (⟨#[102, 117, 110, 32]⟩ : ByteArray)) ++ ((rd_T41 l0 x4_1).f0)).size + 1 ≤ 9223372036854775807
            · rw [if_pos c15] at H
              have c15b0 := eq_true c15
              have c15b1 : decide (((x3_1 ++ (⟨#[102, 117, 110, 32]⟩ : ByteArray)) ++ ((rd_T41 l0 x4_1).f0)).size + 1 ≤ 9223372036854775807) = true := decide_eq_true c15
              try have c15b2 : (9223372036854775807 < ((x3_1 ++ (⟨#[102, 117, 110, 32]⟩ : ByteArray)) ++ ((rd_T41 l0 x4_1).f0)).size + 1) = False := eq_false (Nat.not_lt.2 c15)
              try have c15b9 : (9223372036854775807 < x3_1.size + 4 + (rd_T41 l0 x4_1).f0.size + 1) = False := eq_false (Nat.not_lt.2 (by have h9_ := c15; (simp only [ByteArray.size_append] at h9_); exact h9_))
              have H' := Aside0.mk H
              clear H
              have p394 : 0 ≤ (x4_1 : Int) := of_decide_eq_true (by first | (with_reducible assumption) | assumption)
              have q394 : x4_1 < (l0.length : Int) := of_decide_eq_true (by first | (with_reducible assumption) | assumption)
              obtain ⟨ad394, A394_2, c394_2, e394, hx394_0, hx394_1, hx394_2, hl394_2, hi394_2⟩ := at_T41 HR0.out x4_1 p394 q394
              (try rw [← Nbq8.out] at hx394_1)
              obtain rfl : ad392 = ad394 := (by injection e394)
              replace hx394_0 := (HB.out.cell (World.block_lt_of_cell? w _ hx394_0)).trans hx394_0
              replace hx394_1 := (HB.out.cell (World.block_lt_of_cell? w _ hx394_1)).trans hx394_1
              replace hx394_2 := (HB.out.cell (World.block_lt_of_cell? w _ hx394_2)).trans hx394_2
              have HR394_2 := Aside0.mk hi394_2; have HC394_2 := Aside0.mk hl394_2; clear hi394_2 hl394_2; replace p394 := eq_true p394; replace q394 := eq_true q394
              go_wp2
              go_meet
              case rel => exact ⟨_, (((x3_1 ++ (⟨#[102, 117, 110, 32]⟩ : ByteArray)) ++ ((rd_T41 l0 x4_1).f0)) ++ (⟨#[10]⟩ : ByteArray)), (by first | rfl | (simp; done) | (simp [*]; done)), H', ⟨by have := HK1.out; first | omega | exact Nat.le_refl _⟩, ⟨by repeat (first | (with_reducible first | exact HB.out | apply below_alloc | apply pw_below_drewN | apply below_drew1) | exact HB.out)⟩⟩
            rw [if_neg c15] at H
            exact absurd H (by simp)
          rw [if_neg c14] at H
          exact absurd H (by simp)
        rw [if_neg c13] at H
        exact absurd H (by simp)
       clear HC7; try clear c1; try clear c2; try clear p2; try clear c3; try clear p3; try clear q3; try clear hx3; try clear c5; try clear c5b0; try clear c6; try clear c6b0; try clear q8; try clear c9; try clear c10; try clear c10b0; try clear c10b1; try clear c10b2; try clear c11; try clear c11b0; try clear c11b1; try clear c11b2; try clear c12; try clear c12b0; try clear c12b1; try clear c12b2; try clear c13; try clear c13b0; try clear c13b1; try clear c13b2; try clear c14; try clear c14b0; try clear c14b1; try clear c14b2; try clear c15; try clear c15b0; try clear c15b1; try clear c15b2; try clear hx392_0; try clear hx392_1; try clear hx392_2; try clear hx393_0; try clear hx393_1; try clear hx393_2; try clear hx394_0; try clear hx394_1; try clear hx394_2; try clear p2; try clear p392; try clear p393; try clear p394; try clear q392; try clear q393; try clear q394
       obtain ⟨kq, x3_6, rfl, HA, HJ6, HB⟩ := hcut
       obtain _ | kj6 := kq
       · exact absurd HA.out (by simp [spec_UnitText.j1])
       have H := HA.out
       clear HA
       simp only [spec_UnitText.j1] at H
       have H' := Aside0.mk H
       clear H
       go_wp2
       go_loopg [3, 5] kj6 (fun kq v3 v5 w' => ∃ (x3_3 : ByteArray) (x5_3 : Int), v3 = .string x3_3 ∧ v5 = .int .i64 x5_3 ∧ Aside0 (spec_UnitText.l1 kq l0 x3_3 x4_1 x5_3 = some r) ∧ Aside0 (kq ≤ kj6) ∧ Aside0 (Below w.heap.size w w'))
       case atStart => exact ⟨(x3_6), (0), (by first | rfl | (simp; done) | (simp [*]; done)), (by first | rfl | (simp; done) | (simp [*]; done)), H', ⟨Nat.le_refl _⟩, ⟨by repeat (first | (with_reducible first | exact HB.out | apply below_alloc | apply pw_below_drewN | apply below_drew1) | exact HB.out)⟩⟩
       clear H'
       try clear c1; try clear c2; try clear p2; try clear c3; try clear p3; try clear q3; try clear hx3; try clear c5; try clear c5b0; try clear c6; try clear c6b0; try clear q8; try clear c9; try clear c10; try clear c10b0; try clear c10b1; try clear c10b2; try clear c11; try clear c11b0; try clear c11b1; try clear c11b2; try clear c12; try clear c12b0; try clear c12b1; try clear c12b2; try clear c13; try clear c13b0; try clear c13b1; try clear c13b2; try clear c14; try clear c14b0; try clear c14b1; try clear c14b2; try clear c15; try clear c15b0; try clear c15b1; try clear c15b2; try clear hx392_0; try clear hx392_1; try clear hx392_2; try clear hx393_0; try clear hx393_1; try clear hx393_2; try clear hx394_0; try clear hx394_1; try clear hx394_2; try clear p2; try clear p3; try clear p392; try clear p393; try clear p394; try clear q3; try clear q392; try clear q393; try clear q394; try clear q8
       obtain ⟨x3_3, x5_3, rfl, rfl, HA, HK3, HB⟩ := hrel
       obtain _ | k3 := gk
       · exact absurd HA.out (by simp [spec_UnitText.l1])
       have H := HA.out
       clear HA
       simp only [spec_UnitText.l1] at H
       by_cases c16 : 0 ≤ x4_1
       · rw [if_pos c16] at H
         have c16b0 : decide (0 ≤ x4_1) = true := decide_eq_true c16
         clear c16
         by_cases c17 : x4_1 < (l0.length : Int)
         · rw [if_pos c17] at H
           have c17b0 : decide (x4_1 < (l0.length : Int)) = true := decide_eq_true c17
           clear c17
           by_cases c18 : x5_3 < (((rd_T41 l0 x4_1).f2).length : Int)
           · rw [if_pos c18] at H
             have c18b0 : decide (x5_3 < (((rd_T41 l0 x4_1).f2).length : Int)) = true := decide_eq_true c18
             clear c18
             by_cases c19 : 0 ≤ x5_3
             · rw [if_pos c19] at H
               have c19b0 : decide (0 ≤ x5_3) = true := decide_eq_true c19
               clear c19
               replace H := Option.bind_eq_some_iff.mp H
               obtain ⟨t398, A200, H⟩ := H
               replace H : (if x3_3.size + t398.size ≤ 9223372036854775807 then (if (x3_3 ++ t398).size + 1 ≤ 9223372036854775807 then (spec_UnitText.l1 k3 l0 ((x3_3 ++ t398) ++ (⟨#[10]⟩ : ByteArray)) x4_1 (wrap64 (x5_3 + 1))) else (none)) else (none)) = some r := H
               have A20 := Aside0.mk A200; clear A200
               by_cases c21 : x3_3.size + t398.size ≤ 9223372036854775807
               · rw [if_pos c21] at H
                 have c21b0 := eq_true c21
                 have c21b1 : decide (x3_3.size + t398.size ≤ 9223372036854775807) = true := decide_eq_true c21
                 try have c21b2 : (9223372036854775807 < x3_3.size + t398.size) = False := eq_false (Nat.not_lt.2 c21)
                 by_cases c22 : (x3_3 ++ t398).size + 1 ≤ 9223372036854775807
                 · rw [if_pos c22] at H
                   have c22b0 := eq_true c22
                   have c22b1 : decide ((x3_3 ++ t398).size + 1 ≤ 9223372036854775807) = true := decide_eq_true c22
                   try have c22b2 : (9223372036854775807 < (x3_3 ++ t398).size + 1) = False := eq_false (Nat.not_lt.2 c22)
                   try have c22b9 : (9223372036854775807 < x3_3.size + t398.size + 1) = False := eq_false (Nat.not_lt.2 (by have h9_ := c22; (simp only [ByteArray.size_append] at h9_); exact h9_))
                   have H' := Aside0.mk H
                   clear H
                   have p395 : 0 ≤ (x4_1 : Int) := of_decide_eq_true (by first | (with_reducible assumption) | assumption)
                   have q395 : x4_1 < (l0.length : Int) := of_decide_eq_true (by first | (with_reducible assumption) | assumption)
                   obtain ⟨ad395, A395_2, c395_2, e395, hx395_0, hx395_1, hx395_2, hl395_2, hi395_2⟩ := at_T41 HR0.out x4_1 p395 q395
                   obtain rfl : ad392 = ad395 := (by injection e395)
                   replace hx395_0 := (HB.out.cell (World.block_lt_of_cell? w _ hx395_0)).trans hx395_0
                   replace hx395_1 := (HB.out.cell (World.block_lt_of_cell? w _ hx395_1)).trans hx395_1
                   replace hx395_2 := (HB.out.cell (World.block_lt_of_cell? w _ hx395_2)).trans hx395_2
                   have HR395_2 := Aside0.mk hi395_2; have HC395_2 := Aside0.mk hl395_2; clear hi395_2 hl395_2; replace p395 := eq_true p395; replace q395 := eq_true q395
                   have p396 : 0 ≤ (x4_1 : Int) := of_decide_eq_true (by first | (with_reducible assumption) | assumption)
                   have q396 : x4_1 < (l0.length : Int) := of_decide_eq_true (by first | (with_reducible assumption) | assumption)
                   obtain ⟨ad396, A396_2, c396_2, e396, hx396_0, hx396_1, hx396_2, hl396_2, hi396_2⟩ := at_T41 HR0.out x4_1 p396 q396
                   obtain rfl : ad392 = ad396 := (by injection e396)
                   replace hx396_0 := (HB.out.cell (World.block_lt_of_cell? w _ hx396_0)).trans hx396_0
                   replace hx396_1 := (HB.out.cell (World.block_lt_of_cell? w _ hx396_1)).trans hx396_1
                   replace hx396_2 := (HB.out.cell (World.block_lt_of_cell? w _ hx396_2)).trans hx396_2
                   have HR396_2 := Aside0.mk hi396_2; have HC396_2 := Aside0.mk hl396_2; clear hi396_2 hl396_2; replace p396 := eq_true p396; replace q396 := eq_true q396
                   have ea_ := Option.some.inj (hx395_2.symm.trans hx396_2)
                   injection ea_ with ea_ en_ ec_
                   subst ea_; subst ec_; clear en_
                   have p397 : 0 ≤ (x5_3 : Int) := of_decide_eq_true (by first | (with_reducible assumption) | assumption)
                   have q397 : x5_3 < (((rd_T41 l0 x4_1).f2).length : Int) := of_decide_eq_true (by first | (with_reducible assumption) | assumption)
                   obtain ⟨ad397, e397, hx397_0, hx397_1, hx397_2⟩ := at_T26 HR396_2.out x5_3 p397 q397
                   cases e397
                   replace hx397_0 := (HB.out.cell (World.block_lt_of_cell? w _ hx397_0)).trans hx397_0
                   replace hx397_1 := (HB.out.cell (World.block_lt_of_cell? w _ hx397_1)).trans hx397_1
                   replace hx397_2 := (HB.out.cell (World.block_lt_of_cell? w _ hx397_2)).trans hx397_2
                   replace p397 := eq_true p397; replace q397 := eq_true q397
                   go_wp2_with (first | ((with_reducible refine gate_callee (f := 10) rfl ?_); refine goesL_ (some 57) rfl rfl Tryd.func10 (by kernel_rfl) rfl #[.agg #[.int .i64 ((rd_T26 ((rd_T41 l0 x4_1).f2) x5_3).f0), .int .i64 ((rd_T26 ((rd_T41 l0 x4_1).f2) x5_3).f1), .string ((rd_T26 ((rd_T41 l0 x4_1).f2) x5_3).f2)]] rfl (by (try simp only [List.map_toArray, List.map_cons, List.map_nil]); first | done | rfl | (simp only [List.length_drop, List.length_take]; rfl)) ?_; (with_reducible refine (spec_InsText.calls k3 ((rd_T26 ((rd_T41 l0 x4_1).f2) x5_3).f0) ((rd_T26 ((rd_T41 l0 x4_1).f2) x5_3).f1) ((rd_T26 ((rd_T41 l0 x4_1).f2) x5_3).f2) t398 _ A20.out).mono ?_); rintro e w23 ⟨rfl, hb⟩; refine ⟨_, rfl, ?_⟩; have n0_ := Aside0.mk (below_step (by repeat (first | (with_reducible first | exact HB.out | apply below_alloc | apply pw_below_drewN | apply below_drew1) | exact HB.out)) hb); clear HB; have HB := n0_; clear n0_; (try clear hb); (try clear hb2); (try clear hk); (try clear hi)))
                   go_roundg k3
                   case measure => have := HK1.out; have := HJ6.out; have := HK3.out; omega
                   case rel => exact ⟨((x3_3 ++ t398) ++ (⟨#[10]⟩ : ByteArray)), (wrap64 (x5_3 + 1)), (by first | rfl | (simp; done) | (simp [*]; done)), (by first | rfl | (simp; done) | (simp [*]; done)), H', ⟨by have := HK1.out; have := HJ6.out; have := HK3.out; omega⟩, ⟨by repeat (first | (with_reducible first | exact HB.out | apply below_alloc | apply pw_below_drewN | apply below_drew1) | exact HB.out)⟩⟩
                 rw [if_neg c22] at H
                 exact absurd H (by simp)
               rw [if_neg c21] at H
               exact absurd H (by simp)
             rw [if_neg c19] at H
             exact absurd H (by simp)
           rw [if_neg c18] at H
           have c18b0 : decide (x5_3 < (((rd_T41 l0 x4_1).f2).length : Int)) = false := decide_eq_false c18
           clear c18
           have H' := Aside0.mk H
           clear H
           have p395 : 0 ≤ (x4_1 : Int) := of_decide_eq_true (by first | (with_reducible assumption) | assumption)
           have q395 : x4_1 < (l0.length : Int) := of_decide_eq_true (by first | (with_reducible assumption) | assumption)
           obtain ⟨ad395, A395_2, c395_2, e395, hx395_0, hx395_1, hx395_2, hl395_2, hi395_2⟩ := at_T41 HR0.out x4_1 p395 q395
           obtain rfl : ad392 = ad395 := (by injection e395)
           replace hx395_0 := (HB.out.cell (World.block_lt_of_cell? w _ hx395_0)).trans hx395_0
           replace hx395_1 := (HB.out.cell (World.block_lt_of_cell? w _ hx395_1)).trans hx395_1
           replace hx395_2 := (HB.out.cell (World.block_lt_of_cell? w _ hx395_2)).trans hx395_2
           have HR395_2 := Aside0.mk hi395_2; have HC395_2 := Aside0.mk hl395_2; clear hi395_2 hl395_2; replace p395 := eq_true p395; replace q395 := eq_true q395
           go_wp2
           go_roundg k3
           case measure => have := HK1.out; have := HJ6.out; have := HK3.out; omega
           case rel => exact ⟨(x3_3), (wrap64 (x4_1 + 1)), (by first | rfl | (simp; done) | (simp [*]; done)), (by first | rfl | (simp; done) | (simp [*]; done)), H', ⟨by have := HK1.out; have := HJ6.out; have := HK3.out; omega⟩, ⟨by repeat (first | (with_reducible first | exact HB.out | apply below_alloc | apply pw_below_drewN | apply below_drew1) | exact HB.out)⟩⟩
         rw [if_neg c17] at H
         exact absurd H (by simp)
       rw [if_neg c16] at H
       exact absurd H (by simp)
     rw [if_neg c6] at H
     exact absurd H (by simp)
   rw [if_neg c5] at H
   have c5b0 : decide (x4_1 < (l0.length : Int)) = false := decide_eq_false c5
   clear c5
   obtain rfl := Option.some.inj H
   go_wp2
   go_ret
   exact ⟨by first | rfl | (simp [errW_none, errW_some] <;> rfl) | (simp [*, errW_none, errW_some] <;> rfl), by repeat (first | (with_reducible first | exact HB.out | apply below_alloc | apply pw_below_drewN | apply below_drew1) | exact HB.out)⟩
 replace c3 := Bool.eq_false_iff.mpr c3
 subst c3
 have H1 : (some (⟨#[]⟩ : ByteArray)) = some r := by rw [if_neg (show ¬ (false = true) by decide)] at H; exact H
 clear H
 have H := H1
 clear H1
 obtain rfl := Option.some.inj H
 go_enter Tryd.func28, Tryd.ntmps28
 go_wp2_with (first | ((with_reducible refine gate_callee (f := 25) rfl ?_); refine goesL_ (some 7) rfl rfl Tryd.func25 (by kernel_rfl) rfl #[.slice A0 l0.length c0] rfl (by (try simp only [List.map_toArray, List.map_cons, List.map_nil]); first | done | rfl | (simp only [List.length_drop, List.length_take]; rfl)) ?_; (with_reducible refine (spec_UnitOk.calls k _ _ l0 false _ ?side1 ?side2 A2.out).mono ?_); (case side1 => repeat (first | exact HR0.out | (with_reducible refine Kd.C_alloc ?_ _) | (with_reducible refine Kd.C_drewN ?_ _) | (with_reducible refine Kd.C_drew ?_))); (case side2 => exact HC0.out); rintro e w24 ⟨rfl, hb⟩; refine ⟨_, rfl, ?_⟩; have n0_ := Aside0.mk (below_step (by repeat (first | (with_reducible first | exact HB.out | apply below_alloc | apply pw_below_drewN | apply below_drew1) | exact HB.out)) hb); clear HB; have HB := n0_; clear n0_; (try clear hb); (try clear hb2); (try clear hk); (try clear hi)))
 go_ret
 exact ⟨by first | rfl | (simp [errW_none, errW_some] <;> rfl) | (simp [*, errW_none, errW_some] <;> rfl), by repeat (first | (with_reducible first | exact HB.out | apply below_alloc | apply pw_below_drewN | apply below_drew1) | exact HB.out)⟩

end Go.Proofs.YtajhjdhkeahlpaaDoor.P

-- made by printx.py (own driver over the kit's print); Lean checks it
namespace Go.Proofs.YtajhjdhkeahlpaaDoor.P
open Go.RowKit Go.Proofs.YtajhjdhkeahlpaaDoorW.PrintWords Go.Proofs.YtajhjdhkeahlpaaDoorW.PrintLast Go.Proofs.YtajhjdhkeahlpaaDoorW.PrintMore
attribute [local go_sem] max2_int min2_int max_two min_two max_three min_three max_four min_four   -- for this text's walks alone
set_option linter.unusedVariables false
set_option linter.unusedSimpArgs false

/-! ### laws_FnExactUnitText: function 6 -/
mutual
def laws_FnExactUnitText.j0 : Nat → List (S74) → Option (Bool)
  | 0, _ => none
  | k + 1, x0 => (laws_toFunS.f k x0).bind fun t435 => ((spec_UnitText.f k t435).bind fun t438 => ((laws_toFunS.f k x0).bind fun t439 => ((impl_UnitText.f t439).bind fun t442 => (if t442.toList = t438.toList then (laws_FnExactUnitText.j1 k x0 t439) else (some false)))))
def laws_FnExactUnitText.j1 : Nat → List (S74) → List (S41) → Option (Bool)
  | 0, _, _ => none
  | k + 1, x0, x5 => (laws_toFunS.f k x0).bind fun t443 => ((laws_eqFunS.f k x5 t443).bind fun t446 => (if t446 = true then (some true) else (some false)))
end
def laws_FnExactUnitText.f (k : Nat) (l0 : List (S74)) : Option (Bool) := (laws_szFunS.f k l0 1048576).bind fun t434 => (if t434 < 0 then (some true) else (laws_FnExactUnitText.j0 k l0))
set_option maxHeartbeats 8000000 in
set_option maxRecDepth 100000 in
theorem laws_FnExactUnitText.calls (k : Nat) (A0 : Option Addr) (c0 : Nat) (l0 : List (S74)) (r : Bool) (w : World) (hr0 : Kd.C k74 w A0 l0.length l0) (hc0 : l0.length ≤ c0) (h : laws_FnExactUnitText.f k l0 = some r) (HT : Aside0 (Go.Proofs.YtajhjdhkeahlpaaDoor.L.Tens w)) :
    Calls Tryd.prog 6 #[.slice A0 l0.length c0] w fun e w' => e = .returned (.bool r) ∧ Below w.heap.size w w' := by
 have HR0 := Aside0.mk hr0; have HC0 := Aside0.mk hc0; clear hr0 hc0
 have HB := Aside0.mk (Below.refl w.heap.size w)
 have H : ((laws_szFunS.f k l0 1048576).bind fun t434 => (if t434 < 0 then (some true) else (laws_FnExactUnitText.j0 k l0))) = some r := h
 clear h
 replace H := Option.bind_eq_some_iff.mp H
 obtain ⟨t434, A20, H⟩ := H
 replace H : (if t434 < 0 then (some true) else (laws_FnExactUnitText.j0 k l0)) = some r := H
 have A2 := Aside0.mk A20; clear A20; have HC3 := Aside0.mk H; clear H
 go_enter Tryd.func6, Tryd.ntmps6
 go_upto_if 11 with (first | ((with_reducible refine gate_callee (f := 27) rfl ?_); refine goesL_ (some 9) rfl rfl Tryd.func27 (by kernel_rfl) rfl #[.slice A0 l0.length c0, .int .i64 1048576] rfl (by (try simp only [List.map_toArray, List.map_cons, List.map_nil]); first | done | rfl | (simp only [List.length_drop, List.length_take]; rfl)) ?_; (with_reducible refine (laws_szFunS.calls k _ _ l0 1048576 t434 _ ?side1 ?side2 A2.out).mono ?_); (case side1 => repeat (first | exact HR0.out | (with_reducible refine Kd.C_alloc ?_ _) | (with_reducible refine Kd.C_drewN ?_ _) | (with_reducible refine Kd.C_drew ?_))); (case side2 => exact HC0.out); rintro e w4 ⟨rfl, hb⟩; refine ⟨_, rfl, ?_⟩; have n0_ := Aside0.mk (below_step (by repeat (first | (with_reducible first | exact HB.out | apply below_alloc | apply pw_below_drewN | apply below_drew1) | exact HB.out)) hb); clear HB; have HB := n0_; clear n0_; (try clear hb); (try clear hb2); (try clear hk); (try clear hi)))
 (try simp only [Act.put, List.setIfInBounds_toArray, List.set_cons_zero, List.set_cons_succ])
 go_cut [] (fun wc => ∃ (kq : Nat), Aside0 (laws_FnExactUnitText.j0 kq l0 = some r) ∧ Aside0 (kq ≤ k) ∧ Aside0 (Below w.heap.size w wc))
 case first =>
  have H := HC3.out
  clear HC3
  by_cases c5 : t434 < 0
  · rw [if_pos c5] at H
    have c5b0 : decide (t434 < 0) = true := decide_eq_true c5
    clear c5
    (first | rw [c5b0] | (simp only [i64_w, i32_w]; rw [c5b0]) | (have cn_ := c5b0; simp only [bne] at cn_; rw [cn_]; clear cn_) | skip)
    obtain rfl := Option.some.inj H
    go_wp2
    go_ret
    exact ⟨by first | rfl | (simp [errW_none, errW_some] <;> rfl) | (simp [*, errW_none, errW_some] <;> rfl), by repeat (first | (with_reducible first | exact HB.out | apply below_alloc | apply pw_below_drewN | apply below_drew1) | exact HB.out)⟩
  rw [if_neg c5] at H
  have c5b0 : decide (t434 < 0) = false := decide_eq_false c5
  clear c5
  (first | rw [c5b0] | (simp only [i64_w, i32_w]; rw [c5b0]) | (have cn_ := c5b0; simp only [bne] at cn_; rw [cn_]; clear cn_) | skip)
  have H' := Aside0.mk H
  clear H
  go_wp2
  go_meet
  case rel => exact ⟨_, H', ⟨by first | omega | exact Nat.le_refl _⟩, ⟨by repeat (first | (with_reducible first | exact HB.out | apply below_alloc | apply pw_below_drewN | apply below_drew1) | exact HB.out)⟩⟩
 clear HC3; try clear c2; try clear p2; try clear c5; try clear c5b0
 obtain ⟨kq, HA, HJ2, HB⟩ := hcut
 obtain _ | kj2 := kq
 · exact absurd HA.out (by simp [laws_FnExactUnitText.j0])
 have H := HA.out
 clear HA
 simp only [laws_FnExactUnitText.j0] at H
 replace H := Option.bind_eq_some_iff.mp H
 obtain ⟨t435, A60, H⟩ := H
 replace H : ((spec_UnitText.f kj2 t435).bind fun t438 => ((laws_toFunS.f kj2 l0).bind fun t439 => ((impl_UnitText.f t439).bind fun t442 => (if t442.toList = t438.toList then (laws_FnExactUnitText.j1 kj2 l0 t439) else (some false))))) = some r := H
 have A6 := Aside0.mk A60; clear A60
 replace H := Option.bind_eq_some_iff.mp H
 obtain ⟨t438, A70, H⟩ := H
 replace H : ((laws_toFunS.f kj2 l0).bind fun t439 => ((impl_UnitText.f t439).bind fun t442 => (if t442.toList = t438.toList then (laws_FnExactUnitText.j1 kj2 l0 t439) else (some false)))) = some r := H
 have A7 := Aside0.mk A70; clear A70
 replace H := Option.bind_eq_some_iff.mp H
 obtain ⟨t439, A80, H⟩ := H
 replace H : ((impl_UnitText.f t439).bind fun t442 => (if t442.toList = t438.toList then (laws_FnExactUnitText.j1 kj2 l0 t439) else (some false))) = some r := H
 have A8 := Aside0.mk A80; clear A80
 replace H := Option.bind_eq_some_iff.mp H
 obtain ⟨t442, A90, H⟩ := H
 replace H : (if t442.toList = t438.toList then (laws_FnExactUnitText.j1 kj2 l0 t439) else (some false)) = some r := H
 have A9 := Aside0.mk A90; clear A90; have HC10 := Aside0.mk H; clear H
 go_upto_if 21 with (first | ((with_reducible refine gate_callee (f := 29) rfl ?_); refine goesL_ (some 13) rfl rfl Tryd.func29 (by kernel_rfl) rfl #[.slice A0 l0.length c0] rfl (by (try simp only [List.map_toArray, List.map_cons, List.map_nil]); first | done | rfl | (simp only [List.length_drop, List.length_take]; rfl)) ?_; (with_reducible refine (laws_toFunS.calls kj2 _ _ l0 t435 _ ?side1 ?side2 A6.out).mono ?_); (case side1 => repeat (first | exact (Kd.C_below HR0.out HB.out) | (with_reducible refine Kd.C_alloc ?_ _) | (with_reducible refine Kd.C_drewN ?_ _) | (with_reducible refine Kd.C_drew ?_))); (case side2 => exact HC0.out); rintro e w11 ⟨v436, rfl, ho0, hb⟩; refine ⟨_, rfl, ?_⟩; have n0_ := Aside0.mk (Kd.R_lower ho0 (below_size (by repeat (first | (with_reducible first | exact HB.out | apply below_alloc | apply pw_below_drewN | apply below_drew1) | exact HB.out)))); have n1_ := Aside0.mk (below_step (by repeat (first | (with_reducible first | exact HB.out | apply below_alloc | apply pw_below_drewN | apply below_drew1) | exact HB.out)) hb); clear HB; have HO437 := n0_; have HB := n1_; clear n0_ n1_; (try clear hb); (try clear hb2); (try clear hk); (try clear hi); (try clear ho0); obtain ⟨Ao12, co12, eo12⟩ := Kd.R_slice HO437.out; subst eo12) | ((with_reducible refine gate_callee (f := 28) rfl ?_); refine goesL_ (some 14) rfl rfl Tryd.func28 (by kernel_rfl) rfl #[.slice Ao12 t435.length co12] rfl (by (try simp only [List.map_toArray, List.map_cons, List.map_nil]); first | done | rfl | (simp only [List.length_drop, List.length_take]; rfl)) ?_; (with_reducible refine (spec_UnitText.calls kj2 _ _ t435 t438 _ ?side1 ?side2 A7.out).mono ?_); (case side1 => repeat (first | exact (Kd.R_reads' HO437.out).2.2 | (with_reducible refine Kd.C_alloc ?_ _) | (with_reducible refine Kd.C_drewN ?_ _) | (with_reducible refine Kd.C_drew ?_))); (case side2 => exact (Kd.R_reads' HO437.out).2.1); rintro e w13 ⟨rfl, hb⟩; refine ⟨_, rfl, ?_⟩; have n0_ := Aside0.mk (Kd.R_below (by (with_reducible repeat (first | apply Kd.R_alloc | apply Kd.R_drewN | apply Kd.R_drew)); exact HO437.out) hb); have n1_ := Aside0.mk (below_step (by repeat (first | (with_reducible first | exact HB.out | apply below_alloc | apply pw_below_drewN | apply below_drew1) | exact HB.out)) hb); clear HO437 HB; have HO437 := n0_; have HB := n1_; clear n0_ n1_; (try clear hb); (try clear hb2); (try clear hk); (try clear hi)) | ((with_reducible refine gate_callee (f := 29) rfl ?_); refine goesL_ (some 16) rfl rfl Tryd.func29 (by kernel_rfl) rfl #[.slice A0 l0.length c0] rfl (by (try simp only [List.map_toArray, List.map_cons, List.map_nil]); first | done | rfl | (simp only [List.length_drop, List.length_take]; rfl)) ?_; (with_reducible refine (laws_toFunS.calls kj2 _ _ l0 t439 _ ?side1 ?side2 A8.out).mono ?_); (case side1 => repeat (first | exact (Kd.C_below HR0.out HB.out) | (with_reducible refine Kd.C_alloc ?_ _) | (with_reducible refine Kd.C_drewN ?_ _) | (with_reducible refine Kd.C_drew ?_))); (case side2 => exact HC0.out); rintro e w14 ⟨v440, rfl, ho0, hb⟩; refine ⟨_, rfl, ?_⟩; have n0_ := Aside0.mk (Kd.R_elder' (by (with_reducible repeat (first | apply Kd.R_alloc | apply Kd.R_drewN | apply Kd.R_drew)); exact HO437.out) (Kd.R_base ho0) hb); have n1_ := Aside0.mk (Kd.R_lower (Kd.R_new' ho0 (Kd.R_lt (by (with_reducible repeat (first | apply Kd.R_alloc | apply Kd.R_drewN | apply Kd.R_drew)); exact HO437.out))) (below_size (by repeat (first | (with_reducible first | exact HB.out | apply below_alloc | apply pw_below_drewN | apply below_drew1) | exact HB.out)))); have n2_ := Aside0.mk (below_step (by repeat (first | (with_reducible first | exact HB.out | apply below_alloc | apply pw_below_drewN | apply below_drew1) | exact HB.out)) hb); clear HO437 HB; have HO437 := n0_; have HO441 := n1_; have HB := n2_; clear n0_ n1_ n2_; (try clear hb); (try clear hb2); (try clear hk); (try clear hi); (try clear ho0); obtain ⟨Ao15, co15, eo15⟩ := Kd.R_slice HO441.out; subst eo15) | ((with_reducible refine gate_callee (f := 26) rfl ?_); refine goesL_ (some 18) rfl rfl Tryd.func26 (by kernel_rfl) rfl #[.slice Ao15 t439.length co15] rfl (by (try simp only [List.map_toArray, List.map_cons, List.map_nil]); first | done | rfl | (simp only [List.length_drop, List.length_take]; rfl)) ?_; (with_reducible refine (impl_UnitText.calls _ _ t439 t442 _ ?side1 ?side2 A9.out ⟨?sT⟩).mono ?_); (case sT => exact (HT.out.below (by repeat (first | (with_reducible first | exact HB.out | exact Below.refl _ _ | apply below_alloc | apply pw_below_drewN | apply below_drew1) | exact HB.out | exact Below.refl _ _)))); (case side1 => repeat (first | exact (Kd.R_reads' HO441.out).2.2 | (with_reducible refine Kd.C_alloc ?_ _) | (with_reducible refine Kd.C_drewN ?_ _) | (with_reducible refine Kd.C_drew ?_))); (case side2 => exact (Kd.R_reads' HO441.out).2.1); rintro e w16 ⟨rfl, hb⟩; refine ⟨_, rfl, ?_⟩; have n0_ := Aside0.mk (Kd.R_below (by (with_reducible repeat (first | apply Kd.R_alloc | apply Kd.R_drewN | apply Kd.R_drew)); exact HO437.out) hb); have n1_ := Aside0.mk (Kd.R_below (by (with_reducible repeat (first | apply Kd.R_alloc | apply Kd.R_drewN | apply Kd.R_drew)); exact HO441.out) hb); have n2_ := Aside0.mk (below_step (by repeat (first | (with_reducible first | exact HB.out | apply below_alloc | apply pw_below_drewN | apply below_drew1) | exact HB.out)) hb); clear HO437 HO441 HB; have HO437 := n0_; have HO441 := n1_; have HB := n2_; clear n0_ n1_ n2_; (try clear hb); (try clear hb2); (try clear hk); (try clear hi)))
 (try simp only [Act.put, List.setIfInBounds_toArray, List.set_cons_zero, List.set_cons_succ])
 go_cut [] (fun wc => ∃ (kq : Nat), Aside0 (laws_FnExactUnitText.j1 kq l0 t439 = some r) ∧ Aside0 (kq ≤ kj2) ∧ Aside0 (Kd.R k41 41 wc w.heap.size (fun _ => True) (.slice Ao15 t439.length co15) t439) ∧ Aside0 (Below w.heap.size w wc))
 case first =>
  have H := HC10.out
  clear HC10
  by_cases c17 : t442.toList = t438.toList
  · rw [if_pos c17] at H
    have c17b0 : (t442.toList == t438.toList) = true := beq_iff_eq.mpr c17
    have c17b1 : (t442.toList != t438.toList) = false := bne_eq_false_iff_eq.mpr c17
    clear c17
    (first | rw [c17b0] | (simp only [i64_w, i32_w]; rw [c17b0]) | (have cn_ := c17b0; simp only [bne] at cn_; rw [cn_]; clear cn_) | skip)
    have H' := Aside0.mk H
    clear H
    go_wp2
    go_meet
    case rel => exact ⟨_, H', ⟨by have := HJ2.out; first | omega | exact Nat.le_refl _⟩, ⟨by (with_reducible repeat (first | apply Kd.R_alloc | apply Kd.R_drewN | apply Kd.R_drew)); exact Kd.R_mono HO441.out (fun _ hk => trivial)⟩, ⟨by repeat (first | (with_reducible first | exact HB.out | apply below_alloc | apply pw_below_drewN | apply below_drew1) | exact HB.out)⟩⟩
  rw [if_neg c17] at H
  have c17b0 : (t442.toList == t438.toList) = false := beq_eq_false_iff_ne.mpr c17
  have c17b1 : (t442.toList != t438.toList) = true := bne_iff_ne.mpr c17
  (first | rw [c17b0] | (simp only [i64_w, i32_w]; rw [c17b0]) | (have cn_ := c17b0; simp only [bne] at cn_; rw [cn_]; clear cn_) | skip)
  obtain rfl := Option.some.inj H
  go_wp2
  go_ret
  exact ⟨by first | rfl | (simp [errW_none, errW_some] <;> rfl) | (simp [*, errW_none, errW_some] <;> rfl), by repeat (first | (with_reducible first | exact HB.out | apply below_alloc | apply pw_below_drewN | apply below_drew1) | exact HB.out)⟩
 clear HC10; try clear c1; try clear c2; try clear p2; try clear c5; try clear c5b0; try clear c6; try clear c17; try clear c17b0; try clear c17b1; try clear p2
 obtain ⟨kq, HA, HJ9, HO_5, HB⟩ := hcut
 obtain _ | kj9 := kq
 · exact absurd HA.out (by simp [laws_FnExactUnitText.j1])
 have H := HA.out
 clear HA
 simp only [laws_FnExactUnitText.j1] at H
 replace H := Option.bind_eq_some_iff.mp H
 obtain ⟨t443, A180, H⟩ := H
 replace H : ((laws_eqFunS.f kj9 t439 t443).bind fun t446 => (if t446 = true then (some true) else (some false))) = some r := H
 have A18 := Aside0.mk A180; clear A180
 replace H := Option.bind_eq_some_iff.mp H
 obtain ⟨t446, A190, H⟩ := H
 replace H : (if t446 = true then (some true) else (some false)) = some r := H
 have A19 := Aside0.mk A190; clear A190
 by_cases c20 : t446 = true
 · subst c20
   have H1 : (some true) = some r := by rw [if_pos rfl] at H; exact H
   clear H
   have H := H1
   clear H1
   obtain rfl := Option.some.inj H
   go_wp2_with (first | ((with_reducible refine gate_callee (f := 29) rfl ?_); refine goesL_ (some 24) rfl rfl Tryd.func29 (by kernel_rfl) rfl #[.slice A0 l0.length c0] rfl (by (try simp only [List.map_toArray, List.map_cons, List.map_nil]); first | done | rfl | (simp only [List.length_drop, List.length_take]; rfl)) ?_; (with_reducible refine (laws_toFunS.calls kj9 _ _ l0 t443 _ ?side1 ?side2 A18.out).mono ?_); (case side1 => repeat (first | exact (Kd.C_below HR0.out HB.out) | (with_reducible refine Kd.C_alloc ?_ _) | (with_reducible refine Kd.C_drewN ?_ _) | (with_reducible refine Kd.C_drew ?_))); (case side2 => exact HC0.out); rintro e w21 ⟨v444, rfl, ho0, hb⟩; refine ⟨_, rfl, ?_⟩; have n0_ := Aside0.mk (Kd.R_elder' (by (with_reducible repeat (first | apply Kd.R_alloc | apply Kd.R_drewN | apply Kd.R_drew)); exact HO_5.out) (Kd.R_base ho0) hb); have n1_ := Aside0.mk (Kd.R_lower (Kd.R_new' ho0 (Kd.R_lt (by (with_reducible repeat (first | apply Kd.R_alloc | apply Kd.R_drewN | apply Kd.R_drew)); exact HO_5.out))) (below_size (by repeat (first | (with_reducible first | exact HB.out | apply below_alloc | apply pw_below_drewN | apply below_drew1) | exact HB.out)))); have n2_ := Aside0.mk (below_step (by repeat (first | (with_reducible first | exact HB.out | apply below_alloc | apply pw_below_drewN | apply below_drew1) | exact HB.out)) hb); clear HO_5 HB; have HO_5 := n0_; have HO445 := n1_; have HB := n2_; clear n0_ n1_ n2_; (try clear hb); (try clear hb2); (try clear hk); (try clear hi); (try clear ho0); obtain ⟨Ao22, co22, eo22⟩ := Kd.R_slice HO445.out; subst eo22) | ((with_reducible refine gate_callee (f := 30) rfl ?_); refine goesL_ (some 25) rfl rfl Tryd.func30 (by kernel_rfl) rfl #[.slice Ao15 t439.length co15, .slice Ao22 t443.length co22] rfl (by (try simp only [List.map_toArray, List.map_cons, List.map_nil]); first | done | rfl | (simp only [List.length_drop, List.length_take]; rfl)) ?_; (with_reducible refine (laws_eqFunS.calls kj9 _ _ t439 _ _ t443 true _ ?side1 ?side2 ?side3 ?side4 A19.out).mono ?_); (case side1 => repeat (first | exact (Kd.R_reads' HO_5.out).2.2 | (with_reducible refine Kd.C_alloc ?_ _) | (with_reducible refine Kd.C_drewN ?_ _) | (with_reducible refine Kd.C_drew ?_))); (case side2 => exact (Kd.R_reads' HO_5.out).2.1); (case side3 => repeat (first | exact (Kd.R_reads' HO445.out).2.2 | (with_reducible refine Kd.C_alloc ?_ _) | (with_reducible refine Kd.C_drewN ?_ _) | (with_reducible refine Kd.C_drew ?_))); (case side4 => exact (Kd.R_reads' HO445.out).2.1); rintro e w23 ⟨rfl, hb⟩; refine ⟨_, rfl, ?_⟩; have n0_ := Aside0.mk (Kd.R_below (by (with_reducible repeat (first | apply Kd.R_alloc | apply Kd.R_drewN | apply Kd.R_drew)); exact HO_5.out) hb); have n1_ := Aside0.mk (Kd.R_below (by (with_reducible repeat (first | apply Kd.R_alloc | apply Kd.R_drewN | apply Kd.R_drew)); exact HO445.out) hb); have n2_ := Aside0.mk (below_step (by repeat (first | (with_reducible first | exact HB.out | apply below_alloc | apply pw_below_drewN | apply below_drew1) | exact HB.out)) hb); clear HO_5 HO445 HB; have HO_5 := n0_; have HO445 := n1_; have HB := n2_; clear n0_ n1_ n2_; (try clear hb); (try clear hb2); (try clear hk); (try clear hi)))
   go_ret
   exact ⟨by first | rfl | (simp [errW_none, errW_some] <;> rfl) | (simp [*, errW_none, errW_some] <;> rfl), by repeat (first | (with_reducible first | exact HB.out | apply below_alloc | apply pw_below_drewN | apply below_drew1) | exact HB.out)⟩
 replace c20 := Bool.eq_false_iff.mpr c20
 subst c20
 have H1 : (some false) = some r := by rw [if_neg (show ¬ (false = true) by decide)] at H; exact H
 clear H
 have H := H1
 clear H1
 obtain rfl := Option.some.inj H
 go_wp2_with (first | ((with_reducible refine gate_callee (f := 29) rfl ?_); refine goesL_ (some 24) rfl rfl Tryd.func29 (by kernel_rfl) rfl #[.slice A0 l0.length c0] rfl (by (try simp only [List.map_toArray, List.map_cons, List.map_nil]); first | done | rfl | (simp only [List.length_drop, List.length_take]; rfl)) ?_; (with_reducible refine (laws_toFunS.calls kj9 _ _ l0 t443 _ ?side1 ?side2 A18.out).mono ?_); (case side1 => repeat (first | exact (Kd.C_below HR0.out HB.out) | (with_reducible refine Kd.C_alloc ?_ _) | (with_reducible refine Kd.C_drewN ?_ _) | (with_reducible refine Kd.C_drew ?_))); (case side2 => exact HC0.out); rintro e w24 ⟨v444, rfl, ho0, hb⟩; refine ⟨_, rfl, ?_⟩; have n0_ := Aside0.mk (Kd.R_elder' (by (with_reducible repeat (first | apply Kd.R_alloc | apply Kd.R_drewN | apply Kd.R_drew)); exact HO_5.out) (Kd.R_base ho0) hb); have n1_ := Aside0.mk (Kd.R_lower (Kd.R_new' ho0 (Kd.R_lt (by (with_reducible repeat (first | apply Kd.R_alloc | apply Kd.R_drewN | apply Kd.R_drew)); exact HO_5.out))) (below_size (by repeat (first | (with_reducible first | exact HB.out | apply below_alloc | apply pw_below_drewN | apply below_drew1) | exact HB.out)))); have n2_ := Aside0.mk (below_step (by repeat (first | (with_reducible first | exact HB.out | apply below_alloc | apply pw_below_drewN | apply below_drew1) | exact HB.out)) hb); clear HO_5 HB; have HO_5 := n0_; have HO445 := n1_; have HB := n2_; clear n0_ n1_ n2_; (try clear hb); (try clear hb2); (try clear hk); (try clear hi); (try clear ho0); obtain ⟨Ao25, co25, eo25⟩ := Kd.R_slice HO445.out; subst eo25) | ((with_reducible refine gate_callee (f := 30) rfl ?_); refine goesL_ (some 25) rfl rfl Tryd.func30 (by kernel_rfl) rfl #[.slice Ao15 t439.length co15, .slice Ao25 t443.length co25] rfl (by (try simp only [List.map_toArray, List.map_cons, List.map_nil]); first | done | rfl | (simp only [List.length_drop, List.length_take]; rfl)) ?_; (with_reducible refine (laws_eqFunS.calls kj9 _ _ t439 _ _ t443 false _ ?side1 ?side2 ?side3 ?side4 A19.out).mono ?_); (case side1 => repeat (first | exact (Kd.R_reads' HO_5.out).2.2 | (with_reducible refine Kd.C_alloc ?_ _) | (with_reducible refine Kd.C_drewN ?_ _) | (with_reducible refine Kd.C_drew ?_))); (case side2 => exact (Kd.R_reads' HO_5.out).2.1); (case side3 => repeat (first | exact (Kd.R_reads' HO445.out).2.2 | (with_reducible refine Kd.C_alloc ?_ _) | (with_reducible refine Kd.C_drewN ?_ _) | (with_reducible refine Kd.C_drew ?_))); (case side4 => exact (Kd.R_reads' HO445.out).2.1); rintro e w26 ⟨rfl, hb⟩; refine ⟨_, rfl, ?_⟩; have n0_ := Aside0.mk (Kd.R_below (by (with_reducible repeat (first | apply Kd.R_alloc | apply Kd.R_drewN | apply Kd.R_drew)); exact HO_5.out) hb); have n1_ := Aside0.mk (Kd.R_below (by (with_reducible repeat (first | apply Kd.R_alloc | apply Kd.R_drewN | apply Kd.R_drew)); exact HO445.out) hb); have n2_ := Aside0.mk (below_step (by repeat (first | (with_reducible first | exact HB.out | apply below_alloc | apply pw_below_drewN | apply below_drew1) | exact HB.out)) hb); clear HO_5 HO445 HB; have HO_5 := n0_; have HO445 := n1_; have HB := n2_; clear n0_ n1_ n2_; (try clear hb); (try clear hb2); (try clear hk); (try clear hi)))
 go_ret
 exact ⟨by first | rfl | (simp [errW_none, errW_some] <;> rfl) | (simp [*, errW_none, errW_some] <;> rfl), by repeat (first | (with_reducible first | exact HB.out | apply below_alloc | apply pw_below_drewN | apply below_drew1) | exact HB.out)⟩

end Go.Proofs.YtajhjdhkeahlpaaDoor.P

namespace Go.Proofs.YtajhjdhkeahlpaaDoor.P
open Go.RowKit
/-- THE ONE PURE STATEMENT of laws_FnExactUnitText. -/
def laws_FnExactUnitText.Pure : Prop := ∀ (x0 : List (S74)), (x0.length * 48 ≤ 140737488351232 ∧ ∀ y1 ∈ x0, Ok74 y1) → ∃ k, laws_FnExactUnitText.f k x0 = some true
end Go.Proofs.YtajhjdhkeahlpaaDoor.P

/- What the comparisons compute: two lists alike, place by place. -/
namespace Go.Proofs.YtajhjdhkeahlpaaDoor.L
open Go.RowKit Go.Proofs.YtajhjdhkeahlpaaDoorW.PrintWords Go.Proofs.YtajhjdhkeahlpaaDoorW.PrintLast Go.Proofs.YtajhjdhkeahlpaaDoorW.PrintMore Go.Proofs.YtajhjdhkeahlpaaDoor.P
set_option linter.unusedVariables false
set_option linter.unusedSimpArgs false

def insSame (x y : S26) : Bool := (x.f0 == y.f0) && ((x.f1 == y.f1) && (x.f2.toList == y.f2.toList))
def funSame (x y : S41) : Bool := (x.f0.toList == y.f0.toList) && ((x.f1 == y.f1) && all2 insSame x.f2 y.f2)
def unitSame (l m : List S41) : Bool := all2 funSame l m
theorem insSame_refl (x : S26) : insSame x x = true := by simp [insSame]
theorem funSame_refl (x : S41) : funSame x x = true := by simp [funSame, all2_refl insSame _ (fun y _ => insSame_refl y)]
theorem unitSame_refl (l : List S41) : unitSame l l = true := all2_refl _ _ (fun x _ => funSame_refl x)
end Go.Proofs.YtajhjdhkeahlpaaDoor.L
namespace Go.Proofs.YtajhjdhkeahlpaaDoor.L
open Go.RowKit Go.Proofs.YtajhjdhkeahlpaaDoorW.PrintWords Go.Proofs.YtajhjdhkeahlpaaDoorW.PrintLast Go.Proofs.YtajhjdhkeahlpaaDoorW.PrintMore Go.Proofs.YtajhjdhkeahlpaaDoor.P
set_option linter.unusedVariables false
set_option linter.unusedSimpArgs false

/-- What is left of a bound behind a list. -/
def szL {α : Type} (g : α → Int → Int) (l : List α) (s : Int) : Int := if s < l.length then -1 else szFold g l (s - l.length)
theorem szL_le {α : Type} (g : α → Int → Int) (h : ∀ x s, 0 ≤ s → -1 ≤ g x s ∧ g x s ≤ s) (l : List α) (s : Int) (hs : 0 ≤ s) : -1 ≤ szL g l s ∧ szL g l s ≤ s := by
  unfold szL
  split
  · omega
  · have := szFold_le g h l (s - l.length) (by omega)
    omega
/-- What is left behind a text. -/
def szS (a : ByteArray) (s : Int) : Int := if s < a.size then -1 else s - a.size
theorem szS_le (a : ByteArray) (s : Int) (hs : 0 ≤ s) : -1 ≤ szS a s ∧ szS a s ≤ s := by
  unfold szS
  split <;> omega
/-- How far a text may go. -/
abbrev Fits (s : ByteArray) : Prop := s.size ≤ 140737488351232
theorem szS_wrap (a : ByteArray) (s : Int) (ha : Fits a) (h0 : 0 ≤ s) (h1 : s ≤ 1048576) : (if (wrap64 (s - (a.size : Int))) < 0 then (-1 : Int) else (wrap64 (s - (a.size : Int)))) = szS a s := by
  rw [wrap_id (by omega) (by omega)]
  unfold szS
  by_cases h : s < a.size
  · rw [if_pos (by omega), if_pos h]
  · rw [if_neg (by omega), if_neg h]
theorem len_wrap {s : Int} {n : Nat} (hn : n ≤ 140737488351232) (h0 : 0 ≤ s) (h1 : s ≤ 1048576) : wrap64 (s - (n : Int)) = s - n := wrap_id (by omega) (by omega)
def gIns (x : S23) (s : Int) : Int := szS x.f2 s
theorem gIns_le (x : S23) (s : Int) (h : 0 ≤ s) : -1 ≤ gIns x s ∧ gIns x s ≤ s := szS_le _ _ h
def FitsIns (x : S23) : Prop := Fits x.f2
theorem laws_szIns_g (x : S23) (hx : FitsIns x) (s : Int) (h0 : 0 ≤ s) (h1 : s ≤ 1048576) : laws_szIns.f x.f0 x.f1 x.f2 s = some (gIns x s) := by
  unfold laws_szIns.f gIns
  rw [← szS_wrap x.f2 s hx h0 h1]
  split <;> rfl
theorem laws_szInsS_f (l : List S23) (hn : l.length ≤ 140737488351232) (hx : ∀ x ∈ l, FitsIns x) (s : Int) (h0 : 0 ≤ s) (h1 : s ≤ 1048576) (k : Nat) (hk : l.length < k) : laws_szInsS.f k l s = some (szL gIns l s) := by
  unfold laws_szInsS.f szL
  rw [len_wrap hn h0 h1]
  by_cases h : s < l.length
  · rw [if_pos (by omega), if_pos h]
  · rw [if_neg (by omega), if_neg h]
    refine loop_sz l z23 gIns gIns_le (by omega) (fun k s i => laws_szInsS.l0 k l s i) 0 ?_ ?_ (s - l.length) (by omega) (by omega) k (by omega)
    · intro k i s _ hi h0 h1
      simp only [laws_szInsS.l0]
      rw [if_pos (by omega), if_pos (by omega), laws_szIns_g (rd_T23 l (i : Int)) (hx _ (getD_mem hi)) s h0 h1]
      rfl
    · intro k s _
      simp only [laws_szInsS.l0]
      rw [if_neg (by omega)]
def gFun (x : S74) (s : Int) : Int := if szS x.f0 s < 0 then -1 else szL gIns x.f2 (szS x.f0 s)
theorem gFun_le (x : S74) (s : Int) (h : 0 ≤ s) : -1 ≤ gFun x s ∧ gFun x s ≤ s := by
  unfold gFun
  have := szS_le x.f0 s h
  split
  · omega
  · have := szL_le gIns gIns_le x.f2 (szS x.f0 s) (by omega)
    omega
def FitsFun (x : S74) : Prop := Fits x.f0 ∧ x.f2.length ≤ 140737488351232 ∧ ∀ y ∈ x.f2, FitsIns y
theorem laws_szFun_g (x : S74) (hx : FitsFun x) (s : Int) (h0 : 0 ≤ s) (h1 : s ≤ 1048576) (k : Nat) (hk : x.f2.length < k) : laws_szFun.f k x.f0 x.f1 x.f2 s = some (gFun x s) := by
  unfold laws_szFun.f gFun
  have e := szS_wrap x.f0 s hx.1 h0 h1
  have hb := szS_le x.f0 s h0
  have hs := hx.1
  have w : wrap64 (s - (x.f0.size : Int)) = s - x.f0.size := wrap_id (by have : x.f0.size ≤ 140737488351232 := hs; omega) (by omega)
  rw [w] at e ⊢
  by_cases h : s - (x.f0.size : Int) < 0
  · rw [if_pos h] at e ⊢
    rw [← e, if_pos (by omega)]
  · rw [if_neg h] at e ⊢
    rw [← e, if_neg h, laws_szInsS_f x.f2 hx.2.1 hx.2.2 _ (by omega) (by omega) k hk]
    simp only [Option.bind_some]
    have := szL_le gIns gIns_le x.f2 (s - x.f0.size) (by omega)
    split
    · congr 1; omega
    · rfl
theorem laws_szFunS_f (l : List S74) (hn : l.length ≤ 140737488351232) (hx : ∀ x ∈ l, FitsFun x) (B : Nat) (hB : ∀ x ∈ l, x.f2.length < B) (s : Int) (h0 : 0 ≤ s) (h1 : s ≤ 1048576) (k : Nat) (hk : B + l.length < k) : laws_szFunS.f k l s = some (szL gFun l s) := by
  unfold laws_szFunS.f szL
  rw [len_wrap hn h0 h1]
  by_cases h : s < l.length
  · rw [if_pos (by omega), if_pos h]
  · rw [if_neg (by omega), if_neg h]
    refine loop_sz l z74 gFun gFun_le (by omega) (fun k s i => laws_szFunS.l0 k l s i) B ?_ ?_ (s - l.length) (by omega) (by omega) k (by omega)
    · intro k i s hK hi h0 h1
      simp only [laws_szFunS.l0]
      rw [if_pos (by omega), if_pos (by omega), laws_szFun_g (rd_T74 l (i : Int)) (hx _ (getD_mem hi)) s h0 h1 k (by have := hB _ (getD_mem (d := z74) hi); exact Nat.lt_of_lt_of_le this hK)]
      rfl
    · intro k s _
      simp only [laws_szFunS.l0]
      rw [if_neg (by omega)]
def gFunS (l : List S74) (s : Int) : Int := szL gFun l s
theorem gFunS_le (l : List S74) (s : Int) (h : 0 ≤ s) : -1 ≤ gFunS l s ∧ gFunS l s ≤ s := szL_le _ gFun_le _ _ h
def FitsUnit (B : Nat) (u : List S74) : Prop := u.length ≤ 140737488351232 ∧ (∀ x ∈ u, FitsFun x) ∧ ∀ x ∈ u, x.f2.length < B
theorem laws_szFunS_g (B : Nat) (l : List S74) (hl : FitsUnit B l) (s : Int) (h0 : 0 ≤ s) (h1 : s ≤ 1048576) (k : Nat) (hk : B + l.length < k) : laws_szFunS.f k l s = some (gFunS l s) := laws_szFunS_f l hl.1 hl.2.1 B hl.2.2 s h0 h1 k hk
def cvIns (x : S23) : S26 := ⟨x.f0, x.f1, x.f2⟩
theorem laws_toIns_c (x : S23) : laws_toIns.f x.f0 x.f1 x.f2 = some (x.f0, x.f1, x.f2) := rfl
theorem laws_toInsS_f (l : List S23) (hn : l.length ≤ 8796093022208) (k : Nat) (hk : l.length < k) : laws_toInsS.f k l = some (l.map cvIns) := by
  unfold laws_toInsS.f
  rw [if_pos (by omega), if_pos (by omega)]
  refine loop_fill l z23 z26 cvIns (by omega) (fun k acc i => laws_toInsS.l0 k l acc i) 0 ?_ ?_ k (by omega)
  · intro k i acc hK hi ha
    simp only [laws_toInsS.l0]
    rw [if_pos (by omega), if_pos (by omega), laws_toIns_c (rd_T23 l (i : Int))]
    simp only [Option.bind_some]
    rw [if_pos (by omega)]
    rfl
  · intro k acc _
    simp only [laws_toInsS.l0]
    rw [if_neg (by omega)]
def cvFun (x : S74) : S41 := ⟨x.f0, x.f1, x.f2.map cvIns⟩
theorem laws_toFun_c (x : S74) (hn : x.f2.length ≤ 8796093022208) (k : Nat) (hk : x.f2.length < k) : laws_toFun.f k x.f0 x.f1 x.f2 = some (x.f0, x.f1, x.f2.map cvIns) := by
  unfold laws_toFun.f
  rw [laws_toInsS_f x.f2 hn k hk]
  rfl
theorem laws_toFunS_f (l : List S74) (hn : l.length ≤ 5864062014805) (hx : ∀ x ∈ l, x.f2.length ≤ 8796093022208) (B : Nat) (hB : ∀ x ∈ l, x.f2.length < B) (k : Nat) (hk : B + l.length < k) : laws_toFunS.f k l = some (l.map cvFun) := by
  unfold laws_toFunS.f
  rw [if_pos (by omega), if_pos (by omega)]
  refine loop_fill l z74 z41 cvFun (by omega) (fun k acc i => laws_toFunS.l0 k l acc i) B ?_ ?_ k (by omega)
  · intro k i acc hK hi ha
    simp only [laws_toFunS.l0]
    rw [if_pos (by omega), if_pos (by omega), laws_toFun_c (rd_T74 l (i : Int)) (hx _ (getD_mem hi)) k (by have := hB _ (getD_mem (d := z74) hi); exact Nat.lt_of_lt_of_le this hK)]
    simp only [Option.bind_some]
    rw [if_pos (by omega)]
    rfl
  · intro k acc _
    simp only [laws_toFunS.l0]
    rw [if_neg (by omega)]
def FitsMake (B : Nat) (u : List S74) : Prop := u.length ≤ 5864062014805 ∧ (∀ x ∈ u, x.f2.length ≤ 8796093022208) ∧ ∀ x ∈ u, x.f2.length < B
theorem laws_toFunS_c (B : Nat) (l : List S74) (hl : FitsMake B l) (k : Nat) (hk : B + l.length < k) : laws_toFunS.f k l = some (l.map cvFun) := laws_toFunS_f l hl.1 hl.2.1 B hl.2.2 k hk
theorem laws_eqIns_f (x y : S26) : laws_eqIns.f x.f0 x.f1 x.f2 y.f0 y.f1 y.f2 = some (insSame x y) := by
  unfold laws_eqIns.f insSame
  by_cases h0 : x.f0 = y.f0
  · rw [if_pos h0, beq_iff_eq.mpr h0]
    by_cases h1 : x.f1 = y.f1
    · rw [if_pos h1, beq_iff_eq.mpr h1]
      by_cases h2 : x.f2.toList = y.f2.toList
      · rw [if_pos h2, beq_iff_eq.mpr h2]; rfl
      · rw [if_neg h2, beq_eq_false_iff_ne.mpr h2]; rfl
    · rw [if_neg h1, beq_eq_false_iff_ne.mpr h1]; rfl
  · rw [if_neg h0, beq_eq_false_iff_ne.mpr h0]; rfl
theorem laws_eqInsS_f (l m : List S26) (hn : l.length ≤ 9223372036854775807) (k : Nat) (hk : l.length < k) : laws_eqInsS.f k l m = some (all2 insSame l m) := by
  unfold laws_eqInsS.f
  by_cases hl : l.length = m.length
  · rw [if_pos (by omega)]
    refine loop_all2 insSame z26 z26 l m hl hn (fun k i => laws_eqInsS.l0 k l m i) 0 ?_ ?_ ?_ k (by omega)
    · intro k i hK hi hq
      have hi' : i < m.length := by omega
      simp only [laws_eqInsS.l0]
      rw [if_pos (by omega), if_pos (by omega), if_pos (by omega)]
      have e := laws_eqIns_f (rd_T26 l (i : Int)) (rd_T26 m (i : Int))
      rw [show insSame (rd_T26 l (i : Int)) (rd_T26 m (i : Int)) = true from hq] at e
      rw [e]
      rfl
    · intro k i hK hi hq
      have hi' : i < m.length := by omega
      simp only [laws_eqInsS.l0]
      rw [if_pos (by omega), if_pos (by omega), if_pos (by omega)]
      have e := laws_eqIns_f (rd_T26 l (i : Int)) (rd_T26 m (i : Int))
      rw [show insSame (rd_T26 l (i : Int)) (rd_T26 m (i : Int)) = false from hq] at e
      rw [e]
      rfl
    · intro k hK
      simp only [laws_eqInsS.l0]
      rw [if_neg (by omega)]
  · rw [if_neg (by omega), all2_len _ _ _ hl]
theorem laws_eqFun_f (x y : S41) (hn : x.f2.length ≤ 9223372036854775807) (k : Nat) (hk : x.f2.length < k) : laws_eqFun.f k x.f0 x.f1 x.f2 y.f0 y.f1 y.f2 = some (funSame x y) := by
  unfold laws_eqFun.f
  rw [laws_eqInsS_f x.f2 y.f2 hn k hk]
  by_cases h : x.f0.toList = y.f0.toList
  · rw [if_pos h]
    cases h2 : (x.f1 == y.f1) with
    | true =>
      rw [if_neg (by simp only [bne, h2]; decide)]
      cases h3 : all2 insSame x.f2 y.f2 <;> simp [funSame, h, h2, h3]
    | false =>
      rw [if_pos (by simp only [bne, h2]; decide)]
      simp [funSame, h, h2]
  · rw [if_neg h]
    simp [funSame, beq_eq_false_iff_ne.mpr h]
theorem laws_eqFunS_f (l m : List S41) (hn : l.length ≤ 9223372036854775807) (B : Nat) (hB : B ≤ 9223372036854775807) (hb : ∀ x ∈ l, x.f2.length < B) (k : Nat) (hk : B + l.length < k) : laws_eqFunS.f k l m = some (all2 funSame l m) := by
  unfold laws_eqFunS.f
  by_cases hl : l.length = m.length
  · rw [if_pos (by omega)]
    refine loop_all2 funSame z41 z41 l m hl hn (fun k i => laws_eqFunS.l0 k l m i) B ?_ ?_ ?_ k (by omega)
    · intro k i hK hi hq
      have hi' : i < m.length := by omega
      simp only [laws_eqFunS.l0]
      rw [if_pos (by omega), if_pos (by omega), if_pos (by omega)]
      have e := laws_eqFun_f (rd_T41 l (i : Int)) (rd_T41 m (i : Int)) (by have := hb _ (getD_mem (d := z41) hi); have e0 : rd_T41 l (i : Int) = l.getD i z41 := rfl; rw [e0]; omega) k (by have := hb _ (getD_mem (d := z41) hi); have e0 : rd_T41 l (i : Int) = l.getD i z41 := rfl; rw [e0]; omega)
      rw [show funSame (rd_T41 l (i : Int)) (rd_T41 m (i : Int)) = true from hq] at e
      rw [e]
      rfl
    · intro k i hK hi hq
      have hi' : i < m.length := by omega
      simp only [laws_eqFunS.l0]
      rw [if_pos (by omega), if_pos (by omega), if_pos (by omega)]
      have e := laws_eqFun_f (rd_T41 l (i : Int)) (rd_T41 m (i : Int)) (by have := hb _ (getD_mem (d := z41) hi); have e0 : rd_T41 l (i : Int) = l.getD i z41 := rfl; rw [e0]; omega) k (by have := hb _ (getD_mem (d := z41) hi); have e0 : rd_T41 l (i : Int) = l.getD i z41 := rfl; rw [e0]; omega)
      rw [show funSame (rd_T41 l (i : Int)) (rd_T41 m (i : Int)) = false from hq] at e
      rw [e]
      rfl
    · intro k hK
      simp only [laws_eqFunS.l0]
      rw [if_neg (by omega)]
  · rw [if_neg (by omega), all2_len _ _ _ hl]
end Go.Proofs.YtajhjdhkeahlpaaDoor.L
namespace Go.Proofs.YtajhjdhkeahlpaaDoor.L
open Go.RowKit Go.Proofs.YtajhjdhkeahlpaaDoorW.PrintWords Go.Proofs.YtajhjdhkeahlpaaDoorW.PrintLast Go.Proofs.YtajhjdhkeahlpaaDoorW.PrintMore Go.Proofs.YtajhjdhkeahlpaaDoor.P
set_option linter.unusedVariables false
set_option linter.unusedSimpArgs false
theorem ok_fits {x : S74} (h : Ok74 x) : FitsFun x := ⟨h.1, by have := h.2.2.1; omega, fun y hy => (h.2.2.2 y hy).2.2⟩
theorem ok_len {x : S74} (h : Ok74 x) : x.f2.length ≤ 4398046511104 := by have := h.2.2.1; omega
def OkU (l : List S74) : Prop := l.length * 48 ≤ 140737488351232 ∧ ∀ x ∈ l, Ok74 x
theorem OkU.len {l : List S74} (h : OkU l) : l.length ≤ 2932031007402 := by have := h.1; omega
theorem OkU.fits {l : List S74} (h : OkU l) : FitsUnit 4398046511105 l := ⟨by have := h.len; omega, fun x hx => ok_fits (h.2 x hx), fun x hx => by have := ok_len (h.2 x hx); omega⟩
theorem OkU.make {l : List S74} (h : OkU l) : FitsMake 4398046511105 l := ⟨by have := h.len; omega, fun x hx => by have := ok_len (h.2 x hx); omega, fun x hx => by have := ok_len (h.2 x hx); omega⟩
theorem a_szFunS {l : List S74} (h : OkU l) (s : Int) (h0 : 0 ≤ s) (h1 : s ≤ 1048576) (k : Nat) (hk : 10000000000000000 ≤ k) : laws_szFunS.f k l s = some (gFunS l s) :=
  laws_szFunS_g _ l h.fits s h0 h1 k (by have := h.len; omega)
theorem a_toFunS {l : List S74} (h : OkU l) (k : Nat) (hk : 10000000000000000 ≤ k) : laws_toFunS.f k l = some (l.map cvFun) :=
  laws_toFunS_c _ l h.make k (by have := h.len; omega)
theorem cv_len {l : List S74} (h : OkU l) : ∀ x ∈ l.map cvFun, x.f2.length < 4398046511105 := by
  intro x hx
  obtain ⟨y, hy, rfl⟩ := List.mem_map.1 hx
  simp only [cvFun, List.length_map]
  have := ok_len (h.2 y hy)
  omega
theorem a_eqFunS {l : List S74} (h : OkU l) (k : Nat) (hk : 10000000000000000 ≤ k) : laws_eqFunS.f k (l.map cvFun) (l.map cvFun) = some true := by
  rw [laws_eqFunS_f _ _ (by simp only [List.length_map]; have := h.len; omega) 4398046511105 (by decide) (cv_len h) k (by simp only [List.length_map]; have := h.len; omega)]
  exact congrArg some (unitSame_refl _)
end Go.Proofs.YtajhjdhkeahlpaaDoor.L
namespace Go.Proofs.YtajhjdhkeahlpaaDoor.L
open Go.RowKit Go.Proofs.YtajhjdhkeahlpaaDoorW.PrintWords Go.Proofs.YtajhjdhkeahlpaaDoorW.PrintLast Go.Proofs.YtajhjdhkeahlpaaDoorW.PrintMore Go.Proofs.YtajhjdhkeahlpaaDoor.P
theorem fit_cv {x : S74} (h : Ok74 x) : FitF (cvFun x) := by
  refine ⟨h.1, ?_, fun y hy => ?_⟩
  · simp only [cvFun, List.length_map]
    have := ok_len h
    omega
  · obtain ⟨z, hz, rfl⟩ := List.mem_map.1 hy
    exact (h.2.2.2 z hz).2.2
theorem fits_cv {l : List S74} (h : OkU l) : ∀ x ∈ l.map cvFun, FitF x := by
  intro x hx
  obtain ⟨y, hy, rfl⟩ := List.mem_map.1 hx
  exact fit_cv (h.2 y hy)
end Go.Proofs.YtajhjdhkeahlpaaDoor.L

/- What spec.UnitText computes. -/
namespace Go.Proofs.YtajhjdhkeahlpaaDoor.L
open Go.RowKit Go.Proofs.YtajhjdhkeahlpaaDoor.P Go.Proofs.YtajhjdhkeahlpaaDoorW.PrintWords
set_option linter.unusedVariables false
set_option linter.unusedSimpArgs false
def bs (l : List UInt8) : ByteArray := ⟨l.toArray⟩
theorem bs_size (l : List UInt8) : (bs l).size = l.length := by
  show l.toArray.size = _
  simp
theorem app_bs (x : ByteArray) (l m : List UInt8) : (x ++ bs l) ++ bs m = x ++ bs (l ++ m) := by
  apply ByteArray.ext
  simp [bs]
theorem app_nil (x : ByteArray) : x ++ bs [] = x := by
  apply ByteArray.ext
  simp [bs]
theorem body_in (l : List S41) (i : Nat) (hi : i < l.length) (hm : ShortF (l.getD i z41)) :
    ∀ (n j k : Nat) (out : ByteArray), j + n = (l.getD i z41).f2.length → 3010 + n < k → out.size + 1021 * n ≤ 1000000000 →
      spec_UnitText.l1 k l out (i : Int) (j : Int) = spec_UnitText.l0 (k - n - 1) l (out ++ bs (bodyB ((l.getD i z41).f2.drop j))) (wrap64 ((i : Int) + 1)) := by
  have e0 : rd_T41 l (i : Int) = l.getD i z41 := rfl
  have hlen := hm.len
  intro n
  induction n with
  | zero =>
    intro j k out hj hk hs
    obtain ⟨k, rfl, hk⟩ := succ_of hk
    simp only [spec_UnitText.l1]
    rw [e0, if_pos (by omega), if_pos (by omega), if_neg (by omega), List.drop_eq_nil_of_le (by omega)]
    show _ = spec_UnitText.l0 (k + 1 - 0 - 1) l (out ++ bs []) _
    rw [app_nil]
    rfl
  | succ n ih =>
    intro j k out hj hk hs
    obtain ⟨k, rfl, hk⟩ := succ_of hk
    simp only [spec_UnitText.l1]
    have e1 : rd_T26 (l.getD i z41).f2 (j : Int) = (l.getD i z41).f2.getD j z26 := rfl
    have hy := hm.ins _ (getD_mem (d := z26) (show j < (l.getD i z41).f2.length by omega))
    rw [e0, if_pos (by omega), if_pos (by omega), if_pos (by omega), if_pos (by omega), e1]
    rw [drop_getD _ z26 j (by omega)]
    generalize hyy : (l.getD i z41).f2.getD j z26 = y at *
    rw [spec_InsText_f y.f0 y.f1 y.f2 (by omega) k (by omega)]
    simp only [Option.bind_some]
    have hz : (textV y.f0 y.f1 y.f2).size ≤ 1020 := hy.2
    have e2 : (out ++ textV y.f0 y.f1 y.f2).size = out.size + (textV y.f0 y.f1 y.f2).size := ByteArray.size_append
    have e3 : ((out ++ textV y.f0 y.f1 y.f2) ++ (⟨#[10]⟩ : ByteArray)).size = out.size + (textV y.f0 y.f1 y.f2).size + 1 := by rw [ByteArray.size_append, e2]; rfl
    rw [if_pos (by omega), if_pos (by omega), wrap_id (by omega) (by omega)]
    have h4 := ih (j + 1) k ((out ++ textV y.f0 y.f1 y.f2) ++ (⟨#[10]⟩ : ByteArray)) (by omega) (by omega) (by omega)
    rw [show ((j : Int) + 1) = ((j + 1 : Nat) : Int) by omega, h4, show k + 1 - (n + 1) - 1 = k - n - 1 by omega]
    congr 1
    apply ByteArray.ext
    apply Array.toList_inj.mp
    simp [bs, bodyB, insT]
theorem text_out (l : List S41) (hn : l.length ≤ 5) (hx : ∀ x ∈ l, ShortF x) :
    ∀ (n i k : Nat) (out : ByteArray), i + n = l.length → 4000 + 20 * n < k → out.size + 20000 * n ≤ 1000000 →
      spec_UnitText.l0 k l out (i : Int) = some (out ++ bs (unitB (l.drop i))) := by
  intro n
  induction n with
  | zero =>
    intro i k out hi hk hs
    obtain ⟨k, rfl, hk⟩ := succ_of hk
    simp only [spec_UnitText.l0]
    rw [if_neg (by omega), List.drop_eq_nil_of_le (by omega)]
    show _ = some (out ++ bs [])
    rw [app_nil]
  | succ n ih =>
    intro i k out hi hk hs
    obtain ⟨k, rfl, hk⟩ := succ_of hk
    simp only [spec_UnitText.l0]
    have e0 : rd_T41 l (i : Int) = l.getD i z41 := rfl
    have hm := hx _ (getD_mem (d := z41) (show i < l.length by omega))
    have hb := bodyB_len (l.getD i z41).f2 (fun y hy => (hm.ins y hy).2)
    have hlen := hm.len
    have hname := hm.name
    have go : ∀ (k : Nat) (o2 : ByteArray), 4000 + 20 * n + 18 ≤ k → o2 = out ++ bs (headB (l.getD i z41)) → spec_UnitText.j1 k l o2 (i : Int) = some (out ++ bs (unitB (l.drop i))) := by
      intro k o2 hk ho
      have hh := headB_len hm
      have hs2 : o2.size ≤ out.size + 12 := by rw [ho, ByteArray.size_append, bs_size]; omega
      obtain ⟨k, rfl, hk⟩ := succ_of hk
      simp only [spec_UnitText.j1]
      have h1 := body_in l i (by omega) hm (l.getD i z41).f2.length 0 k o2 (by omega) (by omega) (by omega)
      rw [show ((0 : Nat) : Int) = 0 from rfl] at h1
      rw [h1, wrap_id (by omega) (by omega), show ((i : Int) + 1) = ((i + 1 : Nat) : Int) by omega, List.drop_zero]
      rw [ih (i + 1) _ _ (by omega) (by omega) (by rw [ByteArray.size_append, bs_size]; omega), ho, app_bs, app_bs]
      rw [drop_getD l z41 i (by omega)]
      unfold unitB
      rw [List.flatMap_cons]
      unfold funB
      rw [List.append_assoc]
    rw [e0, if_pos (by omega), if_pos (by omega)]
    generalize l.getD i z41 = x at *
    have e5 : (out ++ (⟨#[119, 101, 97, 107, 32]⟩ : ByteArray)).size = out.size + 5 := by rw [ByteArray.size_append]; rfl
    have e6 : (out ++ (⟨#[102, 117, 110, 32]⟩ : ByteArray)).size = out.size + 4 := by rw [ByteArray.size_append]; rfl
    have e7 : ((out ++ (⟨#[119, 101, 97, 107, 32]⟩ : ByteArray)) ++ x.f0).size = out.size + 5 + x.f0.size := by rw [ByteArray.size_append, e5]
    have e8 : ((out ++ (⟨#[102, 117, 110, 32]⟩ : ByteArray)) ++ x.f0).size = out.size + 4 + x.f0.size := by rw [ByteArray.size_append, e6]
    by_cases hw : x.f1 = true
    · rw [if_pos hw, if_pos (by omega), if_pos (by omega), if_pos (by omega)]
      refine go k _ (by omega) ?_
      unfold headB
      rw [if_pos hw]
      apply ByteArray.ext
      apply Array.toList_inj.mp
      simp [bs]
    · rw [if_neg hw, if_pos (by omega), if_pos (by omega), if_pos (by omega)]
      refine go k _ (by omega) ?_
      unfold headB
      rw [if_neg hw]
      apply ByteArray.ext
      apply Array.toList_inj.mp
      simp [bs]
theorem spec_UnitText_f (l : List S41) (hn : l.length ≤ 140737488351232) (hx : ∀ x ∈ l, FitF x) (k : Nat) (hk : 500000000000000 ≤ k) : spec_UnitText.f k l = some (unitTextV l) := by
  unfold spec_UnitText.f unitTextV
  rw [spec_UnitOk_f l hn hx k hk]
  simp only [Option.bind_some]
  cases h : unitOkB l with
  | false => rw [if_neg (by decide), if_neg (by decide)]
  | true =>
    rw [if_pos rfl, if_pos rfl]
    obtain ⟨h1, h2⟩ := ok_short h
    have h3 := text_out l h1 h2 l.length 0 k (⟨#[]⟩ : ByteArray) (by omega) (by omega) (by show 0 + _ ≤ _; omega)
    rw [show ((0 : Nat) : Int) = 0 from rfl] at h3
    rw [h3, List.drop_zero]
    refine congrArg some (ByteArray.ext (Array.toList_inj.mp ?_))
    simp [bs]
end Go.Proofs.YtajhjdhkeahlpaaDoor.L

/- The program's UnitText returns what the reference's returns, for all arguments. -/
namespace Go.Proofs.YtajhjdhkeahlpaaDoor.Pure
open Go.RowKit Go.Proofs.YtajhjdhkeahlpaaDoor.P Go.Proofs.YtajhjdhkeahlpaaDoor.L Go.Proofs.YtajhjdhkeahlpaaDoorW.PrintWords
set_option linter.unusedVariables false
theorem FnExactUnitText : laws_FnExactUnitText.Pure := by
  intro x h_x
  replace h_x : OkU x := h_x
  obtain ⟨K, hK⟩ : ∃ K : Nat, 100000000000000000 ≤ K := ⟨_, Nat.le_refl _⟩
  refine ⟨K + 12, ?_⟩
  unfold laws_FnExactUnitText.f
  rw [a_szFunS h_x 1048576 (by decide) (by decide) _ (by omega)]
  simp only [Option.bind_some]
  have b_x := gFunS_le x 1048576 (by decide)
  by_cases c_x : gFunS x 1048576 < 0
  · rw [if_pos c_x]
  rw [if_neg c_x]
  simp only [laws_FnExactUnitText.j0]
  rw [a_toFunS h_x _ (by omega)]
  simp only [Option.bind_some]
  have hl : (x.map cvFun).length ≤ 2932031007402 := by rw [List.length_map]; exact h_x.len
  have hf := fits_cv h_x
  have hi : impl_UnitText.f (x.map cvFun) = some (unitTextV (x.map cvFun)) := by
    unfold impl_UnitText.f
    refine if_pos ⟨by omega, fun y hy => ?_⟩
    have h1 := hf y hy
    exact ⟨h1.1, h1.2.1, h1.2.2⟩
  rw [spec_UnitText_f (x.map cvFun) (by omega) hf _ (by omega)]
  simp only [Option.bind_some]
  rw [hi]
  simp only [Option.bind_some, if_true]
  simp only [laws_FnExactUnitText.j1]
  rw [a_toFunS h_x _ (by omega)]
  simp only [Option.bind_some]
  rw [a_eqFunS h_x _ (by omega)]
  simp only [Option.bind_some, if_true]
end Go.Proofs.YtajhjdhkeahlpaaDoor.Pure
