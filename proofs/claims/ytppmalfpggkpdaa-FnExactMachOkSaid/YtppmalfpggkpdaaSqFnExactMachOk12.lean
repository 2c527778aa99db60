-- PxlawsFnExactMachOk, PutsFnExactMachOk, LAllX, LMachOk, PureFnExactMachOk: put together by squash.py
import Derived.Test.YtppmalfpggkpdaaSqFnExactMachOk3
import Derived.Test.YtppmalfpggkpdaaSqFnExactMachOk8
import Derived.Test.YtppmalfpggkpdaaSqFnExactMachOk9
import Derived.Test.YtppmalfpggkpdaaSqFnExactMachOk10
import Derived.Test.YtppmalfpggkpdaaSqFnExactMachOk5
import Derived.Test.YtppmalfpggkpdaaSqFnExactMachOk7
import Derived.Test.YtppmalfpggkpdaaSqFnExactMachOk11
import Derived.Test.YtppmalfpggkpdaaSqFnExactMachOk4
import Derived.Test.YtppmalfpggkpdaaSqFnExactMachOk6

-- made by printx.py (own driver over the kit's print); Lean checks it
namespace Go.Proofs.Ytppmalfpggkpdaa.P
open Go.RowKit Go.Proofs.YtppmalfpggkpdaaW.PrintWords Go.Proofs.YtppmalfpggkpdaaW.PrintLast Go.Proofs.YtppmalfpggkpdaaW.PrintMore
attribute [local go_sem] max2_int min2_int max_two min_two max_three min_three max_four min_four   -- for this text's walks alone
set_option linter.unusedVariables false
set_option linter.unusedSimpArgs false

/-! ### laws_FnExactMachOk: function 12 -/
mutual
def laws_FnExactMachOk.j0 : Nat → List (S95) → Int → Int → Int → Int → List (S61) → List Int → Int → Option (Bool)
  | 0, _, _, _, _, _, _, _, _ => none
  | k + 1, x0, x5, x1225000, x1225001, x1225002, x1225003, x1225004, x1225005 => (laws_szMach.f x1225000 x1225001 x1225002 x1225003 x1225004 x1225005 x5).bind fun t1226 => (if t1226 < 0 then (some true) else (laws_FnExactMachOk.j1 k x0 x1225000 x1225001 x1225002 x1225003 x1225004 x1225005))
def laws_FnExactMachOk.j1 : Nat → List (S95) → Int → Int → Int → List (S61) → List Int → Int → Option (Bool)
  | 0, _, _, _, _, _, _, _ => none
  | k + 1, x0, x1225000, x1225001, x1225002, x1225003, x1225004, x1225005 => (laws_toFunS.f k x0).bind fun t1227 => ((laws_toMach.f k x1225000 x1225001 x1225002 x1225003 x1225004 x1225005).bind fun bt1230 => ((spec_MachOk.f k t1227 bt1230.1 bt1230.2.1 bt1230.2.2.1 bt1230.2.2.2.1 bt1230.2.2.2.2.1 bt1230.2.2.2.2.2).bind fun t1240 => ((laws_toFunS.f k x0).bind fun t1241 => ((laws_toMach.f k x1225000 x1225001 x1225002 x1225003 x1225004 x1225005).bind fun bt1244 => ((impl_MachOk.f t1241 bt1244.1 bt1244.2.1 bt1244.2.2.1 bt1244.2.2.2.1 bt1244.2.2.2.2.1 bt1244.2.2.2.2.2).bind fun t1255 => (if (t1255 != t1240) = true then (some false) else (laws_FnExactMachOk.j2 k x0 t1241 x1225000 x1225001 x1225002 x1225003 x1225004 x1225005 bt1244.1 bt1244.2.1 bt1244.2.2.1 bt1244.2.2.2.1 bt1244.2.2.2.2.1 bt1244.2.2.2.2.2)))))))
def laws_FnExactMachOk.j2 : Nat → List (S95) → List (S52) → Int → Int → Int → List (S61) → List Int → Int → Int → Int → Int → List (S68) → List Int → Int → Option (Bool)
  | 0, _, _, _, _, _, _, _, _, _, _, _, _, _, _ => none
  | k + 1, x0, x7, x1225000, x1225001, x1225002, x1225003, x1225004, x1225005, x1255000, x1255001, x1255002, x1255003, x1255004, x1255005 => (laws_toFunS.f k x0).bind fun t1256 => ((laws_eqFunS.f k x7 t1256).bind fun t1259 => (if t1259 = true then (laws_FnExactMachOk.j3 k x1225000 x1225001 x1225002 x1225003 x1225004 x1225005 x1255000 x1255001 x1255002 x1255003 x1255004 x1255005) else (some false)))
def laws_FnExactMachOk.j3 : Nat → Int → Int → Int → List (S61) → List Int → Int → Int → Int → Int → List (S68) → List Int → Int → Option (Bool)
  | 0, _, _, _, _, _, _, _, _, _, _, _, _ => none
  | k + 1, x1225000, x1225001, x1225002, x1225003, x1225004, x1225005, x1255000, x1255001, x1255002, x1255003, x1255004, x1255005 => (laws_toMach.f k x1225000 x1225001 x1225002 x1225003 x1225004 x1225005).bind fun bt1260 => ((laws_eqMach.f k x1255000 x1255001 x1255002 x1255003 x1255004 x1255005 bt1260.1 bt1260.2.1 bt1260.2.2.1 bt1260.2.2.2.1 bt1260.2.2.2.2.1 bt1260.2.2.2.2.2).bind fun t1270 => (if t1270 = true then (some true) else (some false)))
end
def laws_FnExactMachOk.f (k : Nat) (l0 : List (S95)) (a1_0 : Int) (a1_1 : Int) (a1_2 : Int) (l1_3 : List (S61)) (l1_4 : List Int) (a1_5 : Int) : Option (Bool) := (laws_szFunS.f k l0 1048576).bind fun t1225 => (if t1225 < 0 then (some true) else (laws_FnExactMachOk.j0 k l0 t1225 a1_0 a1_1 a1_2 l1_3 l1_4 a1_5))
set_option maxHeartbeats 8000000 in
set_option maxRecDepth 100000 in
theorem laws_FnExactMachOk.calls (k : Nat) (A0 : Option Addr) (c0 : Nat) (l0 : List (S95)) (a1_0 : Int) (a1_1 : Int) (a1_2 : Int) (A1_3 : Option Addr) (c1_3 : Nat) (l1_3 : List (S61)) (A1_4 : Option Addr) (c1_4 : Nat) (l1_4 : List Int) (a1_5 : Int) (r : Bool) (w : World) (hr0 : Kd.C k95 w A0 l0.length l0) (hc0 : l0.length ≤ c0) (hr1_3 : Kd.C k61 w A1_3 l1_3.length l1_3) (hc1_3 : l1_3.length ≤ c1_3) (hr1_4 : Kd.C (Kd.int .i64) w A1_4 l1_4.length l1_4) (hc1_4 : l1_4.length ≤ c1_4) (h : laws_FnExactMachOk.f k l0 a1_0 a1_1 a1_2 l1_3 l1_4 a1_5 = some r) :
    Calls Try.prog 12 #[.slice A0 l0.length c0, .agg #[.int .i64 a1_0, .int .i64 a1_1, .int .i64 a1_2, .slice A1_3 l1_3.length c1_3, .slice A1_4 l1_4.length c1_4, .int .i64 a1_5]] w fun e w' => e = .returned (.bool r) ∧ Below w.heap.size w w' := by
 have hu65 := Try.underlying65
 have hu71 := Try.underlying71
 have HR0 := Aside0.mk hr0; have HC0 := Aside0.mk hc0; clear hr0 hc0; have HR1_3 := Aside0.mk hr1_3; have HC1_3 := Aside0.mk hc1_3; clear hr1_3 hc1_3; have HR1_4 := Aside0.mk hr1_4; have HC1_4 := Aside0.mk hc1_4; clear hr1_4 hc1_4
 have HB := Aside0.mk (Below.refl w.heap.size w)
 have H : ((laws_szFunS.f k l0 1048576).bind fun t1225 => (if t1225 < 0 then (some true) else (laws_FnExactMachOk.j0 k l0 t1225 a1_0 a1_1 a1_2 l1_3 l1_4 a1_5))) = some r := h
 clear h
 replace H := Option.bind_eq_some_iff.mp H
 obtain ⟨t1225, A30, H⟩ := H
 replace H : (if t1225 < 0 then (some true) else (laws_FnExactMachOk.j0 k l0 t1225 a1_0 a1_1 a1_2 l1_3 l1_4 a1_5)) = some r := H
 have A3 := Aside0.mk A30; clear A30; have HC4 := Aside0.mk H; clear H
 go_enter Try.func12, Try.ntmps12
 go_upto_if 14 with (first | ((with_reducible refine gate_dst (N := 3) rfl ?_); refine box_event ?hg (N := 3) ?hd (cs := #[.int .i64 a1_0, .int .i64 a1_1, .int .i64 a1_2, .slice A1_3 l1_3.length c1_3, .slice A1_4 l1_4.length c1_4, .int .i64 a1_5]) (t := 65) ?hr ?_; (case hd => rfl); (case hg => rfl); (case hr => first | (go_simp; done) | (go_simp; rfl)); intro gb1224 hg w5 hbox hb; have n0_ := Aside0.mk (below_step (by repeat (first | (with_reducible first | exact HB.out | apply below_alloc | apply pw_below_drewN | apply below_drew1) | exact HB.out)) hb); have n1_ := Aside0.mk (hbox); have n2_ := Aside0.mk ((by rw [hg]; exact (below_size (by repeat (first | (with_reducible first | exact HB.out | apply below_alloc | apply pw_below_drewN | apply below_drew1) | exact HB.out))) : w.heap.size ≤ gb1224)); have n3_ := Aside0.mk ((by rw [hg]; exact (below_size (by repeat (first | (with_reducible first | exact HB.out | apply below_alloc | apply pw_below_drewN | apply below_drew1) | exact HB.out))) : w.heap.size ≤ gb1224)); clear HB; have HB := n0_; have BK1224 := n1_; have GW1224 := n2_; have GE1224 := n3_; clear n0_ n1_ n2_ n3_ hb hbox hg) | ((with_reducible refine gate_callee (f := 29) rfl ?_); refine goesL_ (some 12) rfl rfl Try.func29 (by kernel_rfl) rfl #[.slice A0 l0.length c0, .int .i64 1048576] rfl (by (try simp only [List.map_toArray, List.map_cons, List.map_nil]); first | done | rfl | (simp only [List.length_drop, List.length_take]; rfl)) ?_; (with_reducible refine (laws_szFunS.calls k _ _ l0 1048576 t1225 _ ?side1 ?side2 A3.out).mono ?_); (case side1 => repeat (first | exact (Kd.C_below HR0.out HB.out) | (with_reducible refine Kd.C_alloc ?_ _) | (with_reducible refine Kd.C_drewN ?_ _) | (with_reducible refine Kd.C_drew ?_))); (case side2 => exact HC0.out); rintro e w6 ⟨rfl, hb⟩; refine ⟨_, rfl, ?_⟩; have n0_ := Aside0.mk (blk_below (g := gb1224) (o := .cells #[.int .i64 a1_0, .int .i64 a1_1, .int .i64 a1_2, .slice A1_3 l1_3.length c1_3, .slice A1_4 l1_4.length c1_4, .int .i64 a1_5] 65 (0, 0)) (by (with_reducible repeat (first | refine blk_drewN ?_ _ | refine blk_drew ?_ | refine blk_alloc ?_ _)); exact BK1224.out) hb); have n1_ := Aside0.mk (below_step (by repeat (first | (with_reducible first | exact HB.out | apply below_alloc | apply pw_below_drewN | apply below_drew1 | refine below_set ?_ GE1224.out) | exact HB.out)) hb); clear BK1224 HB; have BK1224 := n0_; have HB := n1_; clear n0_ n1_; (try clear hb); (try clear hb2); (try clear hk); (try clear hi)))
 (try simp only [Act.put, List.setIfInBounds_toArray, List.set_cons_zero, List.set_cons_succ])
 go_cut [] (fun wc => ∃ (kq : Nat), Aside0 (laws_FnExactMachOk.j0 kq l0 t1225 a1_0 a1_1 a1_2 l1_3 l1_4 a1_5 = some r) ∧ Aside0 (kq ≤ k) ∧ Aside0 (wc.heap[gb1224]? = some (.cells #[.int .i64 a1_0, .int .i64 a1_1, .int .i64 a1_2, (.slice A1_3 l1_3.length c1_3), (.slice A1_4 l1_4.length c1_4), .int .i64 a1_5] 65 (0, 0))) ∧ Aside0 (Below w.heap.size w wc))
 case first =>
  have H := HC4.out
  clear HC4
  by_cases c7 : t1225 < 0
  · rw [if_pos c7] at H
    have c7b0 : decide (t1225 < 0) = true := decide_eq_true c7
    clear c7
    (first | rw [c7b0] | (simp only [i64_w, i32_w]; rw [c7b0]) | (have cn_ := c7b0; simp only [bne] at cn_; rw [cn_]; clear cn_) | skip)
    obtain rfl := Option.some.inj H
    go_wp2
    go_ret
    exact ⟨by first | rfl | (simp [errW_none, errW_some] <;> rfl) | (simp [*, errW_none, errW_some] <;> rfl), by repeat (first | (with_reducible first | exact HB.out | apply below_alloc | apply pw_below_drewN | apply below_drew1 | refine below_set ?_ GE1224.out) | exact HB.out)⟩
  rw [if_neg c7] at H
  have c7b0 : decide (t1225 < 0) = false := decide_eq_false c7
  clear c7
  (first | rw [c7b0] | (simp only [i64_w, i32_w]; rw [c7b0]) | (have cn_ := c7b0; simp only [bne] at cn_; rw [cn_]; clear cn_) | skip)
  have H' := Aside0.mk H
  clear H
  go_wp2
  go_meet
  case rel => exact ⟨_, H', ⟨by first | omega | exact Nat.le_refl _⟩, ⟨by (with_reducible repeat (first | refine blk_drewN ?_ _ | refine blk_drew ?_ | refine blk_alloc ?_ _)); exact BK1224.out⟩, ⟨by repeat (first | (with_reducible first | exact HB.out | apply below_alloc | apply pw_below_drewN | apply below_drew1 | refine below_set ?_ GE1224.out) | exact HB.out)⟩⟩
 clear HC4; try clear c1; try clear c2; try clear p2; try clear c7; try clear c7b0
 obtain ⟨kq, HA, HJ3, BK1224, HB⟩ := hcut
 obtain _ | kj3 := kq
 · exact absurd HA.out (by simp [laws_FnExactMachOk.j0])
 have H := HA.out
 clear HA
 simp only [laws_FnExactMachOk.j0] at H
 replace H := Option.bind_eq_some_iff.mp H
 obtain ⟨t1226, A80, H⟩ := H
 replace H : (if t1226 < 0 then (some true) else (laws_FnExactMachOk.j1 kj3 l0 a1_0 a1_1 a1_2 l1_3 l1_4 a1_5)) = some r := H
 have A8 := Aside0.mk A80; clear A80; have HC9 := Aside0.mk H; clear H
 have hcz10_0 : wc.cell? ⟨gb1224, 0, none⟩ = some (.int .i64 a1_0) := (blk_cell BK1224.out 0).trans rfl
 have hcz10_1 : wc.cell? ⟨gb1224, 1, none⟩ = some (.int .i64 a1_1) := (blk_cell BK1224.out 1).trans rfl
 have hcz10_2 : wc.cell? ⟨gb1224, 2, none⟩ = some (.int .i64 a1_2) := (blk_cell BK1224.out 2).trans rfl
 have hcz10_3 : wc.cell? ⟨gb1224, 3, none⟩ = some (.slice A1_3 l1_3.length c1_3) := (blk_cell BK1224.out 3).trans rfl
 have hcz10_4 : wc.cell? ⟨gb1224, 4, none⟩ = some (.slice A1_4 l1_4.length c1_4) := (blk_cell BK1224.out 4).trans rfl
 have hcz10_5 : wc.cell? ⟨gb1224, 5, none⟩ = some (.int .i64 a1_5) := (blk_cell BK1224.out 5).trans rfl
 have hfz10_0 := blk_frozen BK1224.out 0
 have hfz10_1 := blk_frozen BK1224.out 1
 have hfz10_2 := blk_frozen BK1224.out 2
 have hfz10_3 := blk_frozen BK1224.out 3
 have hfz10_4 := blk_frozen BK1224.out 4
 have hfz10_5 := blk_frozen BK1224.out 5
 go_upto_if 19 with (first | ((with_reducible refine gate_callee (f := 47) rfl ?_); refine goesL_ (some 17) rfl rfl Try.func47 (by kernel_rfl) rfl #[.agg #[.int .i64 a1_0, .int .i64 a1_1, .int .i64 a1_2, .slice A1_3 l1_3.length c1_3, .slice A1_4 l1_4.length c1_4, .int .i64 a1_5], .int .i64 t1225] rfl (by (try simp only [List.map_toArray, List.map_cons, List.map_nil]); first | done | rfl | (simp only [List.length_drop, List.length_take]; rfl)) ?_; (with_reducible refine (laws_szMach.calls a1_0 a1_1 a1_2 _ _ l1_3 _ _ l1_4 a1_5 t1225 t1226 _ ?side1 ?side2 ?side3 ?side4 A8.out).mono ?_); (case side1 => repeat (first | exact (Kd.C_below HR1_3.out HB.out) | (with_reducible refine Kd.C_alloc ?_ _) | (with_reducible refine Kd.C_drewN ?_ _) | (with_reducible refine Kd.C_drew ?_))); (case side2 => exact HC1_3.out); (case side3 => repeat (first | exact (Kd.C_below HR1_4.out HB.out) | (with_reducible refine Kd.C_alloc ?_ _) | (with_reducible refine Kd.C_drewN ?_ _) | (with_reducible refine Kd.C_drew ?_))); (case side4 => exact HC1_4.out); rintro e w11 ⟨rfl, hb⟩; refine ⟨_, rfl, ?_⟩; have n0_ := Aside0.mk (blk_below (g := gb1224) (o := .cells #[.int .i64 a1_0, .int .i64 a1_1, .int .i64 a1_2, .slice A1_3 l1_3.length c1_3, .slice A1_4 l1_4.length c1_4, .int .i64 a1_5] 65 (0, 0)) (by (with_reducible repeat (first | refine blk_drewN ?_ _ | refine blk_drew ?_ | refine blk_alloc ?_ _)); exact BK1224.out) hb); have n1_ := Aside0.mk (below_step (by repeat (first | (with_reducible first | exact HB.out | apply below_alloc | apply pw_below_drewN | apply below_drew1 | refine below_set ?_ GE1224.out) | exact HB.out)) hb); clear BK1224 HB; have BK1224 := n0_; have HB := n1_; clear n0_ n1_; (try clear hb); (try clear hb2); (try clear hk); (try clear hi)))
 (try simp only [Act.put, List.setIfInBounds_toArray, List.set_cons_zero, List.set_cons_succ])
 go_cut [] (fun wc => ∃ (kq : Nat), Aside0 (laws_FnExactMachOk.j1 kq l0 a1_0 a1_1 a1_2 l1_3 l1_4 a1_5 = some r) ∧ Aside0 (kq ≤ kj3) ∧ Aside0 (wc.heap[gb1224]? = some (.cells #[.int .i64 a1_0, .int .i64 a1_1, .int .i64 a1_2, (.slice A1_3 l1_3.length c1_3), (.slice A1_4 l1_4.length c1_4), .int .i64 a1_5] 65 (0, 0))) ∧ Aside0 (Below w.heap.size w wc))
 case first =>
  have H := HC9.out
  clear HC9
  by_cases c12 : t1226 < 0
  · rw [if_pos c12] at H
    have c12b0 : decide (t1226 < 0) = true := decide_eq_true c12
    clear c12
    (first | rw [c12b0] | (simp only [i64_w, i32_w]; rw [c12b0]) | (have cn_ := c12b0; simp only [bne] at cn_; rw [cn_]; clear cn_) | skip)
    obtain rfl := Option.some.inj H
    go_wp2
    go_ret
    exact ⟨by first | rfl | (simp [errW_none, errW_some] <;> rfl) | (simp [*, errW_none, errW_some] <;> rfl), by repeat (first | (with_reducible first | exact HB.out | apply below_alloc | apply pw_below_drewN | apply below_drew1 | refine below_set ?_ GE1224.out) | exact HB.out)⟩
  rw [if_neg c12] at H
  have c12b0 : decide (t1226 < 0) = false := decide_eq_false c12
  clear c12
  (first | rw [c12b0] | (simp only [i64_w, i32_w]; rw [c12b0]) | (have cn_ := c12b0; simp only [bne] at cn_; rw [cn_]; clear cn_) | skip)
  have H' := Aside0.mk H
  clear H
  go_wp2
  go_meet
  case rel => exact ⟨_, H', ⟨by have := HJ3.out; first | omega | exact Nat.le_refl _⟩, ⟨by (with_reducible repeat (first | refine blk_drewN ?_ _ | refine blk_drew ?_ | refine blk_alloc ?_ _)); exact BK1224.out⟩, ⟨by repeat (first | (with_reducible first | exact HB.out | apply below_alloc | apply pw_below_drewN | apply below_drew1 | refine below_set ?_ GE1224.out) | exact HB.out)⟩⟩
 clear HC9; try clear c1; try clear c2; try clear p2; try clear c4; try clear c7; try clear c7b0; try clear c12; try clear c12b0; try clear hcz10_0; try clear hcz10_1; try clear hcz10_2; try clear hcz10_3; try clear hcz10_4; try clear hcz10_5; try clear hfz10_0; try clear hfz10_1; try clear hfz10_2; try clear hfz10_3; try clear hfz10_4; try clear hfz10_5; try clear p2
 obtain ⟨kq, HA, HJ8, BK1224, HB⟩ := hcut
 obtain _ | kj8 := kq
 · exact absurd HA.out (by simp [laws_FnExactMachOk.j1])
 have H := HA.out
 clear HA
 simp only [laws_FnExactMachOk.j1] at H
 replace H := Option.bind_eq_some_iff.mp H
 obtain ⟨t1227, A130, H⟩ := H
 replace H : ((laws_toMach.f kj8 a1_0 a1_1 a1_2 l1_3 l1_4 a1_5).bind fun bt1230 => ((spec_MachOk.f kj8 t1227 bt1230.1 bt1230.2.1 bt1230.2.2.1 bt1230.2.2.2.1 bt1230.2.2.2.2.1 bt1230.2.2.2.2.2).bind fun t1240 => ((laws_toFunS.f kj8 l0).bind fun t1241 => ((laws_toMach.f kj8 a1_0 a1_1 a1_2 l1_3 l1_4 a1_5).bind fun bt1244 => ((impl_MachOk.f t1241 bt1244.1 bt1244.2.1 bt1244.2.2.1 bt1244.2.2.2.1 bt1244.2.2.2.2.1 bt1244.2.2.2.2.2).bind fun t1255 => (if (t1255 != t1240) = true then (some false) else (laws_FnExactMachOk.j2 kj8 l0 t1241 a1_0 a1_1 a1_2 l1_3 l1_4 a1_5 bt1244.1 bt1244.2.1 bt1244.2.2.1 bt1244.2.2.2.1 bt1244.2.2.2.2.1 bt1244.2.2.2.2.2))))))) = some r := H
 have A13 := Aside0.mk A130; clear A130
 replace H := Option.bind_eq_some_iff.mp H
 obtain ⟨⟨t1230, t1231, t1232, t1233, t1236, t1239⟩, A140, H⟩ := H
 replace H : ((spec_MachOk.f kj8 t1227 t1230 t1231 t1232 t1233 t1236 t1239).bind fun t1240 => ((laws_toFunS.f kj8 l0).bind fun t1241 => ((laws_toMach.f kj8 a1_0 a1_1 a1_2 l1_3 l1_4 a1_5).bind fun bt1244 => ((impl_MachOk.f t1241 bt1244.1 bt1244.2.1 bt1244.2.2.1 bt1244.2.2.2.1 bt1244.2.2.2.2.1 bt1244.2.2.2.2.2).bind fun t1255 => (if (t1255 != t1240) = true then (some false) else (laws_FnExactMachOk.j2 kj8 l0 t1241 a1_0 a1_1 a1_2 l1_3 l1_4 a1_5 bt1244.1 bt1244.2.1 bt1244.2.2.1 bt1244.2.2.2.1 bt1244.2.2.2.2.1 bt1244.2.2.2.2.2)))))) = some r := H
 have A14 := Aside0.mk A140; clear A140
 replace H := Option.bind_eq_some_iff.mp H
 obtain ⟨t1240, A150, H⟩ := H
 replace H : ((laws_toFunS.f kj8 l0).bind fun t1241 => ((laws_toMach.f kj8 a1_0 a1_1 a1_2 l1_3 l1_4 a1_5).bind fun bt1244 => ((impl_MachOk.f t1241 bt1244.1 bt1244.2.1 bt1244.2.2.1 bt1244.2.2.2.1 bt1244.2.2.2.2.1 bt1244.2.2.2.2.2).bind fun t1255 => (if (t1255 != t1240) = true then (some false) else (laws_FnExactMachOk.j2 kj8 l0 t1241 a1_0 a1_1 a1_2 l1_3 l1_4 a1_5 bt1244.1 bt1244.2.1 bt1244.2.2.1 bt1244.2.2.2.1 bt1244.2.2.2.2.1 bt1244.2.2.2.2.2))))) = some r := H
 have A15 := Aside0.mk A150; clear A150
 replace H := Option.bind_eq_some_iff.mp H
 obtain ⟨t1241, A160, H⟩ := H
 replace H : ((laws_toMach.f kj8 a1_0 a1_1 a1_2 l1_3 l1_4 a1_5).bind fun bt1244 => ((impl_MachOk.f t1241 bt1244.1 bt1244.2.1 bt1244.2.2.1 bt1244.2.2.2.1 bt1244.2.2.2.2.1 bt1244.2.2.2.2.2).bind fun t1255 => (if (t1255 != t1240) = true then (some false) else (laws_FnExactMachOk.j2 kj8 l0 t1241 a1_0 a1_1 a1_2 l1_3 l1_4 a1_5 bt1244.1 bt1244.2.1 bt1244.2.2.1 bt1244.2.2.2.1 bt1244.2.2.2.2.1 bt1244.2.2.2.2.2)))) = some r := H
 have A16 := Aside0.mk A160; clear A160
 replace H := Option.bind_eq_some_iff.mp H
 obtain ⟨⟨t1244, t1245, t1246, t1247, t1250, t1253⟩, A170, H⟩ := H
 replace H : ((impl_MachOk.f t1241 t1244 t1245 t1246 t1247 t1250 t1253).bind fun t1255 => (if (t1255 != t1240) = true then (some false) else (laws_FnExactMachOk.j2 kj8 l0 t1241 a1_0 a1_1 a1_2 l1_3 l1_4 a1_5 t1244 t1245 t1246 t1247 t1250 t1253))) = some r := H
 have A17 := Aside0.mk A170; clear A170
 replace H := Option.bind_eq_some_iff.mp H
 obtain ⟨t1255, A180, H⟩ := H
 replace H : (if (t1255 != t1240) = true then (some false) else (laws_FnExactMachOk.j2 kj8 l0 t1241 a1_0 a1_1 a1_2 l1_3 l1_4 a1_5 t1244 t1245 t1246 t1247 t1250 t1253)) = some r := H
 have A18 := Aside0.mk A180; clear A180; have HC19 := Aside0.mk H; clear H
 try go_wp2
 have n0_ := Aside0.mk (blk_drew BK1224.out)
 have n1_ := Aside0.mk (below_drew1 HB.out)
 clear BK1224 HB
 have BK1224 := n0_
 have HB := n1_
 clear n0_ n1_
 refine start_ (n := 6) (S := fun w' => w'.cell? ⟨gb1224, 0, none⟩ = some (.int .i64 a1_0) ∧ w'.cell? ⟨gb1224, 1, none⟩ = some (.int .i64 a1_1) ∧ w'.cell? ⟨gb1224, 2, none⟩ = some (.int .i64 a1_2) ∧ w'.cell? ⟨gb1224, 3, none⟩ = some (.slice A1_3 l1_3.length c1_3) ∧ w'.cell? ⟨gb1224, 4, none⟩ = some (.slice A1_4 l1_4.length c1_4) ∧ w'.cell? ⟨gb1224, 5, none⟩ = some (.int .i64 a1_5)) (ds := []) #[false, false, false, false, false, false] (by kernel_rfl) rfl rfl ⟨(blk_cell BK1224.out 0).trans rfl, (blk_cell BK1224.out 1).trans rfl, (blk_cell BK1224.out 2).trans rfl, (blk_cell BK1224.out 3).trans rfl, (blk_cell BK1224.out 4).trans rfl, (blk_cell BK1224.out 5).trans rfl⟩ (fun hHeld => ?_)
 generalize wc.drew = w20 at BK1224 HB hHeld ⊢
 refine pure_ (i := 0) (N := some 20) (v := ?_) (a' := ?_) #[true, false, false, false, false, false] rfl rfl (by kernel_rfl) (fun _ _ _ h => h) (Or.inl ⟨by rfl, ?_⟩) ?_ ?_
 rotate_left
 · intro w'
   go_simp
   with_reducible rfl
 rotate_left
 · simp only [Act.put, List.setIfInBounds_toArray, List.set_cons_zero, List.set_cons_succ, i64_w, i32_w]
   rfl
 refine take_ (i := 2) (N := some 22) (v := ?_) (a' := ?_) #[true, false, true, false, false, false] rfl rfl (by kernel_rfl) (fun _ _ _ h => h) (Or.inl ⟨by rfl, ?_⟩) hHeld ?_ ?_
 rotate_left
 · rintro w' ⟨s0, s1, s2, s3, s4, s5⟩
   go_simp
   with_reducible rfl
 rotate_left
 · simp only [Act.put, List.setIfInBounds_toArray, List.set_cons_zero, List.set_cons_succ, i64_w, i32_w]
   rfl
 refine one_ (i := 1) (N := some 21) #[true, true, true, false, false, false] rfl rfl (by kernel_rfl) (by decide) (fun K hK => ?_)
 refine goes_ Try.func31 (by kernel_rfl) rfl #[.slice A0 l0.length c0] (by rfl) rfl rfl (by (try simp only [List.map_toArray, List.map_cons, List.map_nil]); first | done | rfl | (simp only [List.length_drop, List.length_take]; rfl)) ?_
 with_reducible refine (laws_toFunS.calls kj8 _ _ l0 t1227 _ ?side1 ?side2 A13.out).mono ?_
 (case side1 => repeat (first | exact (Kd.C_below HR0.out HB.out) | (with_reducible refine Kd.C_alloc ?_ _) | (with_reducible refine Kd.C_drewN ?_ _) | (with_reducible refine Kd.C_drew ?_)))
 (case side2 => exact HC0.out)
 rintro e w21 ⟨v1228, rfl, ho0, hb⟩
 refine ⟨_, rfl, ?_⟩
 have n0_ := Aside0.mk (Kd.R_lower ho0 (below_size (by repeat (first | (with_reducible first | exact HB.out | apply below_alloc | apply pw_below_drewN | apply below_drew1 | refine below_set ?_ GE1224.out) | exact HB.out))))
 have n1_ := Aside0.mk (blk_below (g := gb1224) (o := .cells #[.int .i64 a1_0, .int .i64 a1_1, .int .i64 a1_2, .slice A1_3 l1_3.length c1_3, .slice A1_4 l1_4.length c1_4, .int .i64 a1_5] 65 (0, 0)) (by (with_reducible repeat (first | refine blk_drewN ?_ _ | refine blk_drew ?_ | refine blk_alloc ?_ _)); exact BK1224.out) hb)
 have n2_ := Aside0.mk (below_step (by repeat (first | (with_reducible first | exact HB.out | apply below_alloc | apply pw_below_drewN | apply below_drew1 | refine below_set ?_ GE1224.out) | exact HB.out)) hb)
 clear BK1224 HB
 have HO1229 := n0_
 have BK1224 := n1_
 have HB := n2_
 clear n0_ n1_ n2_
 (try clear hb)
 (try clear hb2)
 (try clear hk)
 (try clear hi)
 (try clear ho0)
 refine hK.out _ _ ⟨(blk_cell BK1224.out 0).trans rfl, (blk_cell BK1224.out 1).trans rfl, (blk_cell BK1224.out 2).trans rfl, (blk_cell BK1224.out 3).trans rfl, (blk_cell BK1224.out 4).trans rfl, (blk_cell BK1224.out 5).trans rfl⟩ (fun hHeld => ?_)
 clear hK K
 refine norm_ (a' := ?_) ?_ ?_
 rotate_left
 · show Act.put _ (some 21) _ = _
   simp only [Act.put, List.setIfInBounds_toArray, List.set_cons_zero, List.set_cons_succ, i64_w, i32_w]
   rfl
 refine one_ (i := 3) (N := some 23) #[true, true, true, true, false, false] rfl rfl (by kernel_rfl) (by decide) (fun K hK => ?_)
 refine goes_ Try.func49 (by kernel_rfl) rfl #[.agg #[.int .i64 a1_0, .int .i64 a1_1, .int .i64 a1_2, .slice A1_3 l1_3.length c1_3, .slice A1_4 l1_4.length c1_4, .int .i64 a1_5]] (by rfl) rfl rfl (by (try simp only [List.map_toArray, List.map_cons, List.map_nil]); first | done | rfl | (simp only [List.length_drop, List.length_take]; rfl)) ?_
 with_reducible refine (laws_toMach.calls kj8 a1_0 a1_1 a1_2 _ _ l1_3 _ _ l1_4 a1_5 t1230 t1231 t1232 t1233 t1236 t1239 _ ?side1 ?side2 ?side3 ?side4 A14.out).mono ?_
 (case side1 => repeat (first | exact (Kd.C_below HR1_3.out HB.out) | (with_reducible refine Kd.C_alloc ?_ _) | (with_reducible refine Kd.C_drewN ?_ _) | (with_reducible refine Kd.C_drew ?_)))
 (case side2 => exact HC1_3.out)
 (case side3 => repeat (first | exact (Kd.C_below HR1_4.out HB.out) | (with_reducible refine Kd.C_alloc ?_ _) | (with_reducible refine Kd.C_drewN ?_ _) | (with_reducible refine Kd.C_drew ?_)))
 (case side4 => exact HC1_4.out)
 rintro e w22 ⟨v1234, v1237, rfl, ho0, ho1, hb⟩
 refine ⟨_, rfl, ?_⟩
 have n0_ := Aside0.mk (Kd.R_below (by (with_reducible repeat (first | apply Kd.R_alloc | apply Kd.R_drewN | apply Kd.R_drew)); exact HO1229.out) hb)
 have n1_ := Aside0.mk (Kd.R_lower ho0 (below_size (by repeat (first | (with_reducible first | exact HB.out | apply below_alloc | apply pw_below_drewN | apply below_drew1 | refine below_set ?_ GE1224.out) | exact HB.out))))
 have n2_ := Aside0.mk (Kd.R_lower ho1 (below_size (by repeat (first | (with_reducible first | exact HB.out | apply below_alloc | apply pw_below_drewN | apply below_drew1 | refine below_set ?_ GE1224.out) | exact HB.out))))
 have n3_ := Aside0.mk (blk_below (g := gb1224) (o := .cells #[.int .i64 a1_0, .int .i64 a1_1, .int .i64 a1_2, .slice A1_3 l1_3.length c1_3, .slice A1_4 l1_4.length c1_4, .int .i64 a1_5] 65 (0, 0)) (by (with_reducible repeat (first | refine blk_drewN ?_ _ | refine blk_drew ?_ | refine blk_alloc ?_ _)); exact BK1224.out) hb)
 have n4_ := Aside0.mk (below_step (by repeat (first | (with_reducible first | exact HB.out | apply below_alloc | apply pw_below_drewN | apply below_drew1 | refine below_set ?_ GE1224.out) | exact HB.out)) hb)
 clear HO1229 BK1224 HB
 have HO1229 := n0_
 have HO1235 := n1_
 have HO1238 := n2_
 have BK1224 := n3_
 have HB := n4_
 clear n0_ n1_ n2_ n3_ n4_
 (try clear hb)
 (try clear hb2)
 (try clear hk)
 (try clear hi)
 (try clear ho0)
 (try clear ho1)
 obtain ⟨Ao23, co23, eo23⟩ := Kd.R_slice HO1229.out
 (first | subst eo23 | (injection eo23 with f1_ f2_ f3_; have f4_ := f1_.symm; have f5_ := f3_.symm; clear f1_ f2_ f3_; subst f4_; subst f5_))
 obtain ⟨Ao24, co24, eo24⟩ := Kd.R_slice HO1235.out
 (first | subst eo24 | (injection eo24 with f1_ f2_ f3_; have f4_ := f1_.symm; have f5_ := f3_.symm; clear f1_ f2_ f3_; subst f4_; subst f5_))
 obtain ⟨Ao25, co25, eo25⟩ := Kd.R_slice HO1238.out
 (first | subst eo25 | (injection eo25 with f1_ f2_ f3_; have f4_ := f1_.symm; have f5_ := f3_.symm; clear f1_ f2_ f3_; subst f4_; subst f5_))
 refine hK.out _ _ ⟨(blk_cell BK1224.out 0).trans rfl, (blk_cell BK1224.out 1).trans rfl, (blk_cell BK1224.out 2).trans rfl, (blk_cell BK1224.out 3).trans rfl, (blk_cell BK1224.out 4).trans rfl, (blk_cell BK1224.out 5).trans rfl⟩ (fun hHeld => ?_)
 clear hK K
 refine norm_ (a' := ?_) ?_ ?_
 rotate_left
 · show Act.put _ (some 23) _ = _
   simp only [Act.put, List.setIfInBounds_toArray, List.set_cons_zero, List.set_cons_succ, i64_w, i32_w]
   rfl
 refine one_ (i := 4) (N := some 24) #[true, true, true, true, true, false] rfl rfl (by kernel_rfl) (by decide) (fun K hK => ?_)
 refine goes_ Try.func48 (by kernel_rfl) rfl #[.slice Ao23 t1227.length co23, .agg #[.int .i64 t1230, .int .i64 t1231, .int .i64 t1232, .slice Ao24 t1233.length co24, .slice Ao25 t1236.length co25, .int .i64 t1239]] (by rfl) rfl rfl (by (try simp only [List.map_toArray, List.map_cons, List.map_nil]); first | done | rfl | (simp only [List.length_drop, List.length_take]; rfl)) ?_
 with_reducible refine (spec_MachOk.calls kj8 _ _ t1227 t1230 t1231 t1232 _ _ t1233 _ _ t1236 t1239 t1240 _ ?side1 ?side2 ?side3 ?side4 ?side5 ?side6 A15.out).mono ?_
 (case side1 => repeat (first | exact (Kd.R_reads' HO1229.out).2.2 | (with_reducible refine Kd.C_alloc ?_ _) | (with_reducible refine Kd.C_drewN ?_ _) | (with_reducible refine Kd.C_drew ?_)))
 (case side2 => exact (Kd.R_reads' HO1229.out).2.1)
 (case side3 => repeat (first | exact (Kd.R_reads' HO1235.out).2.2 | (with_reducible refine Kd.C_alloc ?_ _) | (with_reducible refine Kd.C_drewN ?_ _) | (with_reducible refine Kd.C_drew ?_)))
 (case side4 => exact (Kd.R_reads' HO1235.out).2.1)
 (case side5 => repeat (first | exact (Kd.R_reads' HO1238.out).2.2 | (with_reducible refine Kd.C_alloc ?_ _) | (with_reducible refine Kd.C_drewN ?_ _) | (with_reducible refine Kd.C_drew ?_)))
 (case side6 => exact (Kd.R_reads' HO1238.out).2.1)
 rintro e w26 ⟨rfl, hb⟩
 refine ⟨_, rfl, ?_⟩
 have n0_ := Aside0.mk (Kd.R_below (by (with_reducible repeat (first | apply Kd.R_alloc | apply Kd.R_drewN | apply Kd.R_drew)); exact HO1229.out) hb)
 have n1_ := Aside0.mk (Kd.R_below (by (with_reducible repeat (first | apply Kd.R_alloc | apply Kd.R_drewN | apply Kd.R_drew)); exact HO1235.out) hb)
 have n2_ := Aside0.mk (Kd.R_below (by (with_reducible repeat (first | apply Kd.R_alloc | apply Kd.R_drewN | apply Kd.R_drew)); exact HO1238.out) hb)
 have n3_ := Aside0.mk (blk_below (g := gb1224) (o := .cells #[.int .i64 a1_0, .int .i64 a1_1, .int .i64 a1_2, .slice A1_3 l1_3.length c1_3, .slice A1_4 l1_4.length c1_4, .int .i64 a1_5] 65 (0, 0)) (by (with_reducible repeat (first | refine blk_drewN ?_ _ | refine blk_drew ?_ | refine blk_alloc ?_ _)); exact BK1224.out) hb)
 have n4_ := Aside0.mk (below_step (by repeat (first | (with_reducible first | exact HB.out | apply below_alloc | apply pw_below_drewN | apply below_drew1 | refine below_set ?_ GE1224.out) | exact HB.out)) hb)
 clear HO1229 HO1235 HO1238 BK1224 HB
 have HO1229 := n0_
 have HO1235 := n1_
 have HO1238 := n2_
 have BK1224 := n3_
 have HB := n4_
 clear n0_ n1_ n2_ n3_ n4_
 (try clear hb)
 (try clear hb2)
 (try clear hk)
 (try clear hi)
 refine hK.out _ _ ⟨(blk_cell BK1224.out 0).trans rfl, (blk_cell BK1224.out 1).trans rfl, (blk_cell BK1224.out 2).trans rfl, (blk_cell BK1224.out 3).trans rfl, (blk_cell BK1224.out 4).trans rfl, (blk_cell BK1224.out 5).trans rfl⟩ (fun hHeld => ?_)
 clear hK K
 refine norm_ (a' := ?_) ?_ ?_
 rotate_left
 · show Act.put _ (some 24) _ = _
   simp only [Act.put, List.setIfInBounds_toArray, List.set_cons_zero, List.set_cons_succ, i64_w, i32_w]
   rfl
 refine pure_ (i := 5) (N := some 6) (v := ?_) (a' := ?_) #[true, true, true, true, true, true] rfl rfl (by kernel_rfl) (fun _ _ _ h => h) (Or.inl ⟨by rfl, ?_⟩) ?_ ?_
 rotate_left
 · intro w'
   go_simp
   with_reducible rfl
 rotate_left
 · simp only [Act.put, List.setIfInBounds_toArray, List.set_cons_zero, List.set_cons_succ, i64_w, i32_w]
   rfl
 refine done_ (by kernel_rfl) ?_
 go_upto_if 34 with (first | ((with_reducible refine gate_callee (f := 31) rfl ?_); refine goesL_ (some 26) rfl rfl Try.func31 (by kernel_rfl) rfl #[.slice A0 l0.length c0] rfl (by (try simp only [List.map_toArray, List.map_cons, List.map_nil]); first | done | rfl | (simp only [List.length_drop, List.length_take]; rfl)) ?_; (with_reducible refine (laws_toFunS.calls kj8 _ _ l0 t1241 _ ?side1 ?side2 A16.out).mono ?_); (case side1 => repeat (first | exact (Kd.C_below HR0.out HB.out) | (with_reducible refine Kd.C_alloc ?_ _) | (with_reducible refine Kd.C_drewN ?_ _) | (with_reducible refine Kd.C_drew ?_))); (case side2 => exact HC0.out); rintro e w27 ⟨v1242, rfl, ho0, hb⟩; refine ⟨_, rfl, ?_⟩; have n0_ := Aside0.mk (Kd.R_elder' (by (with_reducible repeat (first | apply Kd.R_alloc | apply Kd.R_drewN | apply Kd.R_drew)); exact HO1229.out) (Kd.R_base ho0) hb); have n1_ := Aside0.mk (Kd.R_below (by (with_reducible repeat (first | apply Kd.R_alloc | apply Kd.R_drewN | apply Kd.R_drew)); exact HO1235.out) hb); have n2_ := Aside0.mk (Kd.R_below (by (with_reducible repeat (first | apply Kd.R_alloc | apply Kd.R_drewN | apply Kd.R_drew)); exact HO1238.out) hb); have n3_ := Aside0.mk (Kd.R_lower (Kd.R_new' ho0 (Kd.R_lt (by (with_reducible repeat (first | apply Kd.R_alloc | apply Kd.R_drewN | apply Kd.R_drew)); exact HO1229.out))) (below_size (by repeat (first | (with_reducible first | exact HB.out | apply below_alloc | apply pw_below_drewN | apply below_drew1 | refine below_set ?_ GE1224.out) | exact HB.out)))); have n4_ := Aside0.mk (blk_below (g := gb1224) (o := .cells #[.int .i64 a1_0, .int .i64 a1_1, .int .i64 a1_2, .slice A1_3 l1_3.length c1_3, .slice A1_4 l1_4.length c1_4, .int .i64 a1_5] 65 (0, 0)) (by (with_reducible repeat (first | refine blk_drewN ?_ _ | refine blk_drew ?_ | refine blk_alloc ?_ _)); exact BK1224.out) hb); have n5_ := Aside0.mk (below_step (by repeat (first | (with_reducible first | exact HB.out | apply below_alloc | apply pw_below_drewN | apply below_drew1 | refine below_set ?_ GE1224.out) | exact HB.out)) hb); clear HO1229 HO1235 HO1238 BK1224 HB; have HO1229 := n0_; have HO1235 := n1_; have HO1238 := n2_; have HO1243 := n3_; have BK1224 := n4_; have HB := n5_; clear n0_ n1_ n2_ n3_ n4_ n5_; (try clear hb); (try clear hb2); (try clear hk); (try clear hi); (try clear ho0); have hcz28_0 : w27.cell? ⟨gb1224, 0, none⟩ = some (.int .i64 a1_0) := (blk_cell BK1224.out 0).trans rfl; have hcz28_1 : w27.cell? ⟨gb1224, 1, none⟩ = some (.int .i64 a1_1) := (blk_cell BK1224.out 1).trans rfl; have hcz28_2 : w27.cell? ⟨gb1224, 2, none⟩ = some (.int .i64 a1_2) := (blk_cell BK1224.out 2).trans rfl; have hcz28_3 : w27.cell? ⟨gb1224, 3, none⟩ = some (.slice A1_3 l1_3.length c1_3) := (blk_cell BK1224.out 3).trans rfl; have hcz28_4 : w27.cell? ⟨gb1224, 4, none⟩ = some (.slice A1_4 l1_4.length c1_4) := (blk_cell BK1224.out 4).trans rfl; have hcz28_5 : w27.cell? ⟨gb1224, 5, none⟩ = some (.int .i64 a1_5) := (blk_cell BK1224.out 5).trans rfl; have hfz28_0 := blk_frozen BK1224.out 0; have hfz28_1 := blk_frozen BK1224.out 1; have hfz28_2 := blk_frozen BK1224.out 2; have hfz28_3 := blk_frozen BK1224.out 3; have hfz28_4 := blk_frozen BK1224.out 4; have hfz28_5 := blk_frozen BK1224.out 5) | ((with_reducible refine gate_callee (f := 49) rfl ?_); refine goesL_ (some 28) rfl rfl Try.func49 (by kernel_rfl) rfl #[.agg #[.int .i64 a1_0, .int .i64 a1_1, .int .i64 a1_2, .slice A1_3 l1_3.length c1_3, .slice A1_4 l1_4.length c1_4, .int .i64 a1_5]] rfl (by (try simp only [List.map_toArray, List.map_cons, List.map_nil]); first | done | rfl | (simp only [List.length_drop, List.length_take]; rfl)) ?_; (with_reducible refine (laws_toMach.calls kj8 a1_0 a1_1 a1_2 _ _ l1_3 _ _ l1_4 a1_5 t1244 t1245 t1246 t1247 t1250 t1253 _ ?side1 ?side2 ?side3 ?side4 A17.out).mono ?_); (case side1 => repeat (first | exact (Kd.C_below HR1_3.out HB.out) | (with_reducible refine Kd.C_alloc ?_ _) | (with_reducible refine Kd.C_drewN ?_ _) | (with_reducible refine Kd.C_drew ?_))); (case side2 => exact HC1_3.out); (case side3 => repeat (first | exact (Kd.C_below HR1_4.out HB.out) | (with_reducible refine Kd.C_alloc ?_ _) | (with_reducible refine Kd.C_drewN ?_ _) | (with_reducible refine Kd.C_drew ?_))); (case side4 => exact HC1_4.out); rintro e w29 ⟨v1248, v1251, rfl, ho0, ho1, hb⟩; refine ⟨_, rfl, ?_⟩; have n0_ := Aside0.mk (Kd.R_below (by (with_reducible repeat (first | apply Kd.R_alloc | apply Kd.R_drewN | apply Kd.R_drew)); exact HO1229.out) hb); have n1_ := Aside0.mk (Kd.R_elder' (by (with_reducible repeat (first | apply Kd.R_alloc | apply Kd.R_drewN | apply Kd.R_drew)); exact HO1235.out) (Kd.R_base ho0) hb); have n2_ := Aside0.mk (Kd.R_elder' (by (with_reducible repeat (first | apply Kd.R_alloc | apply Kd.R_drewN | apply Kd.R_drew)); exact HO1238.out) (Kd.R_base ho1) hb); have n3_ := Aside0.mk (Kd.R_below (by (with_reducible repeat (first | apply Kd.R_alloc | apply Kd.R_drewN | apply Kd.R_drew)); exact HO1243.out) hb); have n4_ := Aside0.mk (Kd.R_lower (Kd.R_new' ho0 (Kd.R_lt (by (with_reducible repeat (first | apply Kd.R_alloc | apply Kd.R_drewN | apply Kd.R_drew)); exact HO1235.out))) (below_size (by repeat (first | (with_reducible first | exact HB.out | apply below_alloc | apply pw_below_drewN | apply below_drew1 | refine below_set ?_ GE1224.out) | exact HB.out)))); have n5_ := Aside0.mk (Kd.R_lower (Kd.R_new' ho1 (Kd.R_lt (by (with_reducible repeat (first | apply Kd.R_alloc | apply Kd.R_drewN | apply Kd.R_drew)); exact HO1238.out))) (below_size (by repeat (first | (with_reducible first | exact HB.out | apply below_alloc | apply pw_below_drewN | apply below_drew1 | refine below_set ?_ GE1224.out) | exact HB.out)))); have n6_ := Aside0.mk (blk_below (g := gb1224) (o := .cells #[.int .i64 a1_0, .int .i64 a1_1, .int .i64 a1_2, .slice A1_3 l1_3.length c1_3, .slice A1_4 l1_4.length c1_4, .int .i64 a1_5] 65 (0, 0)) (by (with_reducible repeat (first | refine blk_drewN ?_ _ | refine blk_drew ?_ | refine blk_alloc ?_ _)); exact BK1224.out) hb); have n7_ := Aside0.mk (below_step (by repeat (first | (with_reducible first | exact HB.out | apply below_alloc | apply pw_below_drewN | apply below_drew1 | refine below_set ?_ GE1224.out) | exact HB.out)) hb); clear HO1229 HO1235 HO1238 HO1243 BK1224 HB; have HO1229 := n0_; have HO1235 := n1_; have HO1238 := n2_; have HO1243 := n3_; have HO1249 := n4_; have HO1252 := n5_; have BK1224 := n6_; have HB := n7_; clear n0_ n1_ n2_ n3_ n4_ n5_ n6_ n7_; (try clear hb); (try clear hb2); (try clear hk); (try clear hi); (try clear ho0); (try clear ho1)) | ((with_reducible refine gate_dst (N := 8) rfl ?_); refine box_event ?hg (N := 8) ?hd (cs := #[.int .i64 0, .int .i64 0, .int .i64 0, .slice none 0 0, .slice none 0 0, .int .i64 0]) (t := 71) ?hr ?_; (case hd => rfl); (case hg => rfl); (case hr => first | (go_simp; done) | (go_simp; rfl)); intro gb1254 hg w30 hbox hb; have n0_ := Aside0.mk (Kd.R_below (by (with_reducible repeat (first | apply Kd.R_alloc | apply Kd.R_drewN | apply Kd.R_drew)); exact HO1229.out) hb); have n1_ := Aside0.mk (Kd.R_below (by (with_reducible repeat (first | apply Kd.R_alloc | apply Kd.R_drewN | apply Kd.R_drew)); exact HO1235.out) hb); have n2_ := Aside0.mk (Kd.R_below (by (with_reducible repeat (first | apply Kd.R_alloc | apply Kd.R_drewN | apply Kd.R_drew)); exact HO1238.out) hb); have n3_ := Aside0.mk (Kd.R_below (by (with_reducible repeat (first | apply Kd.R_alloc | apply Kd.R_drewN | apply Kd.R_drew)); exact HO1243.out) hb); have n4_ := Aside0.mk (Kd.R_below (by (with_reducible repeat (first | apply Kd.R_alloc | apply Kd.R_drewN | apply Kd.R_drew)); exact HO1249.out) hb); have n5_ := Aside0.mk (Kd.R_below (by (with_reducible repeat (first | apply Kd.R_alloc | apply Kd.R_drewN | apply Kd.R_drew)); exact HO1252.out) hb); have n6_ := Aside0.mk (blk_below (g := gb1224) (o := .cells #[.int .i64 a1_0, .int .i64 a1_1, .int .i64 a1_2, .slice A1_3 l1_3.length c1_3, .slice A1_4 l1_4.length c1_4, .int .i64 a1_5] 65 (0, 0)) (by (with_reducible repeat (first | refine blk_drewN ?_ _ | refine blk_drew ?_ | refine blk_alloc ?_ _)); exact BK1224.out) hb); have n7_ := Aside0.mk (below_step (by repeat (first | (with_reducible first | exact HB.out | apply below_alloc | apply pw_below_drewN | apply below_drew1 | refine below_set ?_ GE1224.out) | exact HB.out)) hb); have n8_ := Aside0.mk (hbox); have n9_ := Aside0.mk ((by rw [hg]; exact (below_size (by repeat (first | (with_reducible first | exact HB.out | apply below_alloc | apply pw_below_drewN | apply below_drew1 | refine below_set ?_ GE1224.out) | exact HB.out))) : w.heap.size ≤ gb1254)); have n10_ := Aside0.mk ((by rw [hg]; exact (below_size (by repeat (first | (with_reducible first | exact HB.out | apply below_alloc | apply pw_below_drewN | apply below_drew1 | refine below_set ?_ GE1224.out) | exact HB.out))) : w.heap.size ≤ gb1254)); have n11_ := Aside0.mk ((by rw [hg]; exact Nat.ne_of_lt (blk_lt (g := gb1224) (o := .cells #[.int .i64 a1_0, .int .i64 a1_1, .int .i64 a1_2, .slice A1_3 l1_3.length c1_3, .slice A1_4 l1_4.length c1_4, .int .i64 a1_5] 65 (0, 0)) (by (with_reducible repeat (first | refine blk_drewN ?_ _ | refine blk_drew ?_ | refine blk_alloc ?_ _)); exact BK1224.out)) : gb1224 ≠ gb1254)); have n12_ := Aside0.mk ((by rw [hg]; exact Nat.ne_of_gt (blk_lt (g := gb1224) (o := .cells #[.int .i64 a1_0, .int .i64 a1_1, .int .i64 a1_2, .slice A1_3 l1_3.length c1_3, .slice A1_4 l1_4.length c1_4, .int .i64 a1_5] 65 (0, 0)) (by (with_reducible repeat (first | refine blk_drewN ?_ _ | refine blk_drew ?_ | refine blk_alloc ?_ _)); exact BK1224.out)) : gb1254 ≠ gb1224)); clear HO1229 HO1235 HO1238 HO1243 HO1249 HO1252 BK1224 HB; have HO1229 := n0_; have HO1235 := n1_; have HO1238 := n2_; have HO1243 := n3_; have HO1249 := n4_; have HO1252 := n5_; have BK1224 := n6_; have HB := n7_; have BK1254 := n8_; have GW1254 := n9_; have GE1254 := n10_; have NB1224_1254 := n11_; have NB1254_1224 := n12_; clear n0_ n1_ n2_ n3_ n4_ n5_ n6_ n7_ n8_ n9_ n10_ n11_ n12_ hb hbox hg; have hnb31 := NB1254_1224.out; have hnc31 := NB1224_1254.out; have hcz32_0 : w30.cell? ⟨gb1254, 0, none⟩ = some (.int .i64 0) := (blk_cell BK1254.out 0).trans rfl; have hcz32_1 : w30.cell? ⟨gb1254, 1, none⟩ = some (.int .i64 0) := (blk_cell BK1254.out 1).trans rfl; have hcz32_2 : w30.cell? ⟨gb1254, 2, none⟩ = some (.int .i64 0) := (blk_cell BK1254.out 2).trans rfl; have hcz32_3 : w30.cell? ⟨gb1254, 3, none⟩ = some (.slice none 0 0) := (blk_cell BK1254.out 3).trans rfl; have hcz32_4 : w30.cell? ⟨gb1254, 4, none⟩ = some (.slice none 0 0) := (blk_cell BK1254.out 4).trans rfl; have hcz32_5 : w30.cell? ⟨gb1254, 5, none⟩ = some (.int .i64 0) := (blk_cell BK1254.out 5).trans rfl; have hfz32_0 := blk_frozen BK1254.out 0; have hfz32_1 := blk_frozen BK1254.out 1; have hfz32_2 := blk_frozen BK1254.out 2; have hfz32_3 := blk_frozen BK1254.out 3; have hfz32_4 := blk_frozen BK1254.out 4; have hfz32_5 := blk_frozen BK1254.out 5; obtain ⟨Ao33, co33, eo33⟩ := Kd.R_slice HO1249.out; subst eo33; obtain ⟨Ao34, co34, eo34⟩ := Kd.R_slice HO1252.out; subst eo34; obtain ⟨Ao35, co35, eo35⟩ := Kd.R_slice HO1243.out; subst eo35) | ((with_reducible refine gate_callee (f := 50) rfl ?_); refine goesL_ (some 31) rfl rfl Try.func50 (by kernel_rfl) rfl #[.slice Ao35 t1241.length co35, .agg #[.int .i64 t1244, .int .i64 t1245, .int .i64 t1246, .slice Ao33 t1247.length co33, .slice Ao34 t1250.length co34, .int .i64 t1253]] rfl (by (try simp only [List.map_toArray, List.map_cons, List.map_nil]); first | done | rfl | (simp only [List.length_drop, List.length_take]; rfl)) ?_; (with_reducible refine (impl_MachOk.calls _ _ t1241 t1244 t1245 t1246 _ _ t1247 _ _ t1250 t1253 t1255 _ ?side1 ?side2 ?side3 ?side4 ?side5 ?side6 A18.out).mono ?_); (case side1 => refine (Kd.R_reads' (e := 52) (base := w.heap.size) (ok := fun k_ => (True ∧ some k_ ≠ (.slice Ao23 t1227.length co23 : Value).ownBlock)) (n := t1241.length) (c := co35) ?_).2.2; exact (by (with_reducible repeat (first | apply Kd.R_alloc | apply Kd.R_drewN | apply Kd.R_drew)); exact (Kd.R_mono (Kd.R_far (p := ⟨gb1254, 5, none⟩) (Kd.R_far (p := ⟨gb1254, 4, none⟩) (Kd.R_far (p := ⟨gb1254, 3, none⟩) (Kd.R_far (p := ⟨gb1254, 2, none⟩) (Kd.R_far (p := ⟨gb1254, 1, none⟩) (Kd.R_far (p := ⟨gb1254, 0, none⟩) (Kd.R_types HO1243.out BK1254.out (by decide)) (fun _ hk => hk.2) (.int .i64 t1244)) (fun _ hk => hk.2) (.int .i64 t1245)) (fun _ hk => hk.2) (.int .i64 t1246)) (fun _ hk => hk.2) (.slice Ao33 t1247.length co33)) (fun _ hk => hk.2) (.slice Ao34 t1250.length co34)) (fun _ hk => hk.2) (.int .i64 t1253)) (fun _ h_ => h_.1)))); (case side2 => exact (Kd.R_reads' HO1243.out).2.1); (case side3 => refine (Kd.R_reads' (e := 68) (base := w.heap.size) (ok := fun k_ => (True ∧ some k_ ≠ (.slice Ao24 t1233.length co24 : Value).ownBlock)) (n := t1247.length) (c := co33) ?_).2.2; exact (by (with_reducible repeat (first | apply Kd.R_alloc | apply Kd.R_drewN | apply Kd.R_drew)); exact (Kd.R_mono (Kd.R_far (p := ⟨gb1254, 5, none⟩) (Kd.R_far (p := ⟨gb1254, 4, none⟩) (Kd.R_far (p := ⟨gb1254, 3, none⟩) (Kd.R_far (p := ⟨gb1254, 2, none⟩) (Kd.R_far (p := ⟨gb1254, 1, none⟩) (Kd.R_far (p := ⟨gb1254, 0, none⟩) (Kd.R_types HO1249.out BK1254.out (by decide)) (fun _ hk => hk.2) (.int .i64 t1244)) (fun _ hk => hk.2) (.int .i64 t1245)) (fun _ hk => hk.2) (.int .i64 t1246)) (fun _ hk => hk.2) (.slice Ao33 t1247.length co33)) (fun _ hk => hk.2) (.slice Ao34 t1250.length co34)) (fun _ hk => hk.2) (.int .i64 t1253)) (fun _ h_ => h_.1)))); (case side4 => exact (Kd.R_reads' HO1249.out).2.1); (case side5 => refine (Kd.R_reads' (e := 3) (base := w.heap.size) (ok := fun k_ => (True ∧ some k_ ≠ (.slice Ao25 t1236.length co25 : Value).ownBlock)) (n := t1250.length) (c := co34) ?_).2.2; exact (by (with_reducible repeat (first | apply Kd.R_alloc | apply Kd.R_drewN | apply Kd.R_drew)); exact (Kd.R_mono (Kd.R_far (p := ⟨gb1254, 5, none⟩) (Kd.R_far (p := ⟨gb1254, 4, none⟩) (Kd.R_far (p := ⟨gb1254, 3, none⟩) (Kd.R_far (p := ⟨gb1254, 2, none⟩) (Kd.R_far (p := ⟨gb1254, 1, none⟩) (Kd.R_far (p := ⟨gb1254, 0, none⟩) (Kd.R_types HO1252.out BK1254.out (by decide)) (fun _ hk => hk.2) (.int .i64 t1244)) (fun _ hk => hk.2) (.int .i64 t1245)) (fun _ hk => hk.2) (.int .i64 t1246)) (fun _ hk => hk.2) (.slice Ao33 t1247.length co33)) (fun _ hk => hk.2) (.slice Ao34 t1250.length co34)) (fun _ hk => hk.2) (.int .i64 t1253)) (fun _ h_ => h_.1)))); (case side6 => exact (Kd.R_reads' HO1252.out).2.1); rintro e w36 ⟨rfl, hb⟩; refine ⟨_, rfl, ?_⟩; have n0_ := Aside0.mk (Kd.R_below (by (with_reducible repeat (first | apply Kd.R_alloc | apply Kd.R_drewN | apply Kd.R_drew)); exact (Kd.R_mono (Kd.R_far (p := ⟨gb1254, 5, none⟩) (Kd.R_far (p := ⟨gb1254, 4, none⟩) (Kd.R_far (p := ⟨gb1254, 3, none⟩) (Kd.R_far (p := ⟨gb1254, 2, none⟩) (Kd.R_far (p := ⟨gb1254, 1, none⟩) (Kd.R_far (p := ⟨gb1254, 0, none⟩) (Kd.R_types HO1229.out BK1254.out (by decide)) (fun _ hk => hk.2) (.int .i64 t1244)) (fun _ hk => hk.2) (.int .i64 t1245)) (fun _ hk => hk.2) (.int .i64 t1246)) (fun _ hk => hk.2) (.slice Ao33 t1247.length co33)) (fun _ hk => hk.2) (.slice Ao34 t1250.length co34)) (fun _ hk => hk.2) (.int .i64 t1253)) (fun _ h_ => h_.1))) hb); have n1_ := Aside0.mk (Kd.R_below (by (with_reducible repeat (first | apply Kd.R_alloc | apply Kd.R_drewN | apply Kd.R_drew)); exact (Kd.R_mono (Kd.R_far (p := ⟨gb1254, 5, none⟩) (Kd.R_far (p := ⟨gb1254, 4, none⟩) (Kd.R_far (p := ⟨gb1254, 3, none⟩) (Kd.R_far (p := ⟨gb1254, 2, none⟩) (Kd.R_far (p := ⟨gb1254, 1, none⟩) (Kd.R_far (p := ⟨gb1254, 0, none⟩) (Kd.R_types HO1235.out BK1254.out (by decide)) (fun _ hk => hk.2) (.int .i64 t1244)) (fun _ hk => hk.2) (.int .i64 t1245)) (fun _ hk => hk.2) (.int .i64 t1246)) (fun _ hk => hk.2) (.slice Ao33 t1247.length co33)) (fun _ hk => hk.2) (.slice Ao34 t1250.length co34)) (fun _ hk => hk.2) (.int .i64 t1253)) (fun _ h_ => h_.1))) hb); have n2_ := Aside0.mk (Kd.R_below (by (with_reducible repeat (first | apply Kd.R_alloc | apply Kd.R_drewN | apply Kd.R_drew)); exact (Kd.R_mono (Kd.R_far (p := ⟨gb1254, 5, none⟩) (Kd.R_far (p := ⟨gb1254, 4, none⟩) (Kd.R_far (p := ⟨gb1254, 3, none⟩) (Kd.R_far (p := ⟨gb1254, 2, none⟩) (Kd.R_far (p := ⟨gb1254, 1, none⟩) (Kd.R_far (p := ⟨gb1254, 0, none⟩) (Kd.R_types HO1238.out BK1254.out (by decide)) (fun _ hk => hk.2) (.int .i64 t1244)) (fun _ hk => hk.2) (.int .i64 t1245)) (fun _ hk => hk.2) (.int .i64 t1246)) (fun _ hk => hk.2) (.slice Ao33 t1247.length co33)) (fun _ hk => hk.2) (.slice Ao34 t1250.length co34)) (fun _ hk => hk.2) (.int .i64 t1253)) (fun _ h_ => h_.1))) hb); have n3_ := Aside0.mk (Kd.R_below (by (with_reducible repeat (first | apply Kd.R_alloc | apply Kd.R_drewN | apply Kd.R_drew)); exact (Kd.R_mono (Kd.R_far (p := ⟨gb1254, 5, none⟩) (Kd.R_far (p := ⟨gb1254, 4, none⟩) (Kd.R_far (p := ⟨gb1254, 3, none⟩) (Kd.R_far (p := ⟨gb1254, 2, none⟩) (Kd.R_far (p := ⟨gb1254, 1, none⟩) (Kd.R_far (p := ⟨gb1254, 0, none⟩) (Kd.R_types HO1243.out BK1254.out (by decide)) (fun _ hk => hk.2) (.int .i64 t1244)) (fun _ hk => hk.2) (.int .i64 t1245)) (fun _ hk => hk.2) (.int .i64 t1246)) (fun _ hk => hk.2) (.slice Ao33 t1247.length co33)) (fun _ hk => hk.2) (.slice Ao34 t1250.length co34)) (fun _ hk => hk.2) (.int .i64 t1253)) (fun _ h_ => h_.1))) hb); have n4_ := Aside0.mk (Kd.R_below (by (with_reducible repeat (first | apply Kd.R_alloc | apply Kd.R_drewN | apply Kd.R_drew)); exact (Kd.R_mono (Kd.R_far (p := ⟨gb1254, 5, none⟩) (Kd.R_far (p := ⟨gb1254, 4, none⟩) (Kd.R_far (p := ⟨gb1254, 3, none⟩) (Kd.R_far (p := ⟨gb1254, 2, none⟩) (Kd.R_far (p := ⟨gb1254, 1, none⟩) (Kd.R_far (p := ⟨gb1254, 0, none⟩) (Kd.R_types HO1249.out BK1254.out (by decide)) (fun _ hk => hk.2) (.int .i64 t1244)) (fun _ hk => hk.2) (.int .i64 t1245)) (fun _ hk => hk.2) (.int .i64 t1246)) (fun _ hk => hk.2) (.slice Ao33 t1247.length co33)) (fun _ hk => hk.2) (.slice Ao34 t1250.length co34)) (fun _ hk => hk.2) (.int .i64 t1253)) (fun _ h_ => h_.1))) hb); have n5_ := Aside0.mk (Kd.R_below (by (with_reducible repeat (first | apply Kd.R_alloc | apply Kd.R_drewN | apply Kd.R_drew)); exact (Kd.R_mono (Kd.R_far (p := ⟨gb1254, 5, none⟩) (Kd.R_far (p := ⟨gb1254, 4, none⟩) (Kd.R_far (p := ⟨gb1254, 3, none⟩) (Kd.R_far (p := ⟨gb1254, 2, none⟩) (Kd.R_far (p := ⟨gb1254, 1, none⟩) (Kd.R_far (p := ⟨gb1254, 0, none⟩) (Kd.R_types HO1252.out BK1254.out (by decide)) (fun _ hk => hk.2) (.int .i64 t1244)) (fun _ hk => hk.2) (.int .i64 t1245)) (fun _ hk => hk.2) (.int .i64 t1246)) (fun _ hk => hk.2) (.slice Ao33 t1247.length co33)) (fun _ hk => hk.2) (.slice Ao34 t1250.length co34)) (fun _ hk => hk.2) (.int .i64 t1253)) (fun _ h_ => h_.1))) hb); have n6_ := Aside0.mk (blk_below (g := gb1224) (o := .cells #[.int .i64 a1_0, .int .i64 a1_1, .int .i64 a1_2, .slice A1_3 l1_3.length c1_3, .slice A1_4 l1_4.length c1_4, .int .i64 a1_5] 65 (0, 0)) (by (with_reducible repeat (first | refine blk_drewN ?_ _ | refine blk_drew ?_ | refine blk_alloc ?_ _)); refine blk_far ?_ NB1224_1254.out _; (with_reducible repeat (first | refine blk_drewN ?_ _ | refine blk_drew ?_ | refine blk_alloc ?_ _)); refine blk_far ?_ NB1224_1254.out _; (with_reducible repeat (first | refine blk_drewN ?_ _ | refine blk_drew ?_ | refine blk_alloc ?_ _)); refine blk_far ?_ NB1224_1254.out _; (with_reducible repeat (first | refine blk_drewN ?_ _ | refine blk_drew ?_ | refine blk_alloc ?_ _)); refine blk_far ?_ NB1224_1254.out _; (with_reducible repeat (first | refine blk_drewN ?_ _ | refine blk_drew ?_ | refine blk_alloc ?_ _)); refine blk_far ?_ NB1224_1254.out _; (with_reducible repeat (first | refine blk_drewN ?_ _ | refine blk_drew ?_ | refine blk_alloc ?_ _)); refine blk_far ?_ NB1224_1254.out _; (with_reducible repeat (first | refine blk_drewN ?_ _ | refine blk_drew ?_ | refine blk_alloc ?_ _)); exact BK1224.out) hb); have n7_ := Aside0.mk (blk_below (g := gb1254) (o := .cells #[.int .i64 t1244, .int .i64 t1245, .int .i64 t1246, .slice Ao33 t1247.length co33, .slice Ao34 t1250.length co34, .int .i64 t1253] 71 (0, 0)) (by (with_reducible repeat (first | refine blk_drewN ?_ _ | refine blk_drew ?_ | refine blk_alloc ?_ _)); refine blk_put (cs := #[.int .i64 t1244, .int .i64 t1245, .int .i64 t1246, .slice Ao33 t1247.length co33, .slice Ao34 t1250.length co34, .int .i64 0]) ?_ 5 _ rfl; (with_reducible repeat (first | refine blk_drewN ?_ _ | refine blk_drew ?_ | refine blk_alloc ?_ _)); refine blk_put (cs := #[.int .i64 t1244, .int .i64 t1245, .int .i64 t1246, .slice Ao33 t1247.length co33, .slice none 0 0, .int .i64 0]) ?_ 4 _ rfl; (with_reducible repeat (first | refine blk_drewN ?_ _ | refine blk_drew ?_ | refine blk_alloc ?_ _)); refine blk_put (cs := #[.int .i64 t1244, .int .i64 t1245, .int .i64 t1246, .slice none 0 0, .slice none 0 0, .int .i64 0]) ?_ 3 _ rfl; (with_reducible repeat (first | refine blk_drewN ?_ _ | refine blk_drew ?_ | refine blk_alloc ?_ _)); refine blk_put (cs := #[.int .i64 t1244, .int .i64 t1245, .int .i64 0, .slice none 0 0, .slice none 0 0, .int .i64 0]) ?_ 2 _ rfl; (with_reducible repeat (first | refine blk_drewN ?_ _ | refine blk_drew ?_ | refine blk_alloc ?_ _)); refine blk_put (cs := #[.int .i64 t1244, .int .i64 0, .int .i64 0, .slice none 0 0, .slice none 0 0, .int .i64 0]) ?_ 1 _ rfl; (with_reducible repeat (first | refine blk_drewN ?_ _ | refine blk_drew ?_ | refine blk_alloc ?_ _)); refine blk_put (cs := #[.int .i64 0, .int .i64 0, .int .i64 0, .slice none 0 0, .slice none 0 0, .int .i64 0]) ?_ 0 _ rfl; (with_reducible repeat (first | refine blk_drewN ?_ _ | refine blk_drew ?_ | refine blk_alloc ?_ _)); exact BK1254.out) hb); have n8_ := Aside0.mk (below_step (by repeat (first | (with_reducible first | exact HB.out | apply below_alloc | apply pw_below_drewN | apply below_drew1 | refine below_set ?_ GE1224.out | refine below_set ?_ GE1254.out) | exact HB.out)) hb); clear HO1229 HO1235 HO1238 HO1243 HO1249 HO1252 BK1224 BK1254 HB; have HO1229 := n0_; have HO1235 := n1_; have HO1238 := n2_; have HO1243 := n3_; have HO1249 := n4_; have HO1252 := n5_; have BK1224 := n6_; have BK1254 := n7_; have HB := n8_; clear n0_ n1_ n2_ n3_ n4_ n5_ n6_ n7_ n8_; (try clear hb); (try clear hb2); (try clear hk); (try clear hi)))
 (try simp only [Act.put, List.setIfInBounds_toArray, List.set_cons_zero, List.set_cons_succ])
 go_cut [] (fun wc => ∃ (kq : Nat), Aside0 (laws_FnExactMachOk.j2 kq l0 t1241 a1_0 a1_1 a1_2 l1_3 l1_4 a1_5 t1244 t1245 t1246 t1247 t1250 t1253 = some r) ∧ Aside0 (kq ≤ kj8) ∧ Aside0 (Kd.R k52 52 wc w.heap.size (fun _ => True) (.slice Ao35 t1241.length co35) t1241) ∧ Aside0 (Kd.R k68 68 wc w.heap.size (fun _ => True) (.slice Ao33 t1247.length co33) t1247) ∧ Aside0 (Kd.R (Kd.int .i64) 3 wc w.heap.size (fun _ => True) (.slice Ao34 t1250.length co34) t1250) ∧ Aside0 (wc.heap[gb1224]? = some (.cells #[.int .i64 a1_0, .int .i64 a1_1, .int .i64 a1_2, (.slice A1_3 l1_3.length c1_3), (.slice A1_4 l1_4.length c1_4), .int .i64 a1_5] 65 (0, 0))) ∧ Aside0 (wc.heap[gb1254]? = some (.cells #[.int .i64 t1244, .int .i64 t1245, .int .i64 t1246, (.slice Ao33 t1247.length co33), (.slice Ao34 t1250.length co34), .int .i64 t1253] 71 (0, 0))) ∧ Aside0 (Below w.heap.size w wc))
 case first =>
  have H := HC19.out
  clear HC19
  by_cases c37 : (t1255 != t1240) = true
  · rw [if_pos c37] at H
    have c37b0 : (t1255 != t1240) = true := c37
    (try (have c37b1 : decide (t1255 = t1240) = false := by simpa using c37))
    (try (have c37b2 : (t1255 == t1240) = false := by simpa using c37))
    (try (have c37b3 : ¬ (t1255 = t1240) := by simpa using c37))
    clear c37
    (first | rw [c37b0] | (simp only [i64_w, i32_w]; rw [c37b0]) | (have cn_ := c37b0; simp only [bne] at cn_; rw [cn_]; clear cn_) | skip)
    obtain rfl := Option.some.inj H
    go_wp2
    go_ret
    exact ⟨by first | rfl | (simp [errW_none, errW_some] <;> rfl) | (simp [*, errW_none, errW_some] <;> rfl), by repeat (first | (with_reducible first | exact HB.out | apply below_alloc | apply pw_below_drewN | apply below_drew1 | refine below_set ?_ GE1224.out | refine below_set ?_ GE1254.out) | exact HB.out)⟩
  rw [if_neg c37] at H
  have c37b0 : (t1255 != t1240) = false := by simpa using c37
  (try (have c37b1 : decide (t1255 = t1240) = true := by simpa using c37))
  (try (have c37b2 : (t1255 == t1240) = true := by simpa using c37))
  clear c37
  (first | rw [c37b0] | (simp only [i64_w, i32_w]; rw [c37b0]) | (have cn_ := c37b0; simp only [bne] at cn_; rw [cn_]; clear cn_) | skip)
  have H' := Aside0.mk H
  clear H
  go_wp2
  go_meet
  case rel => exact ⟨_, H', ⟨by have := HJ3.out; have := HJ8.out; first | omega | exact Nat.le_refl _⟩, ⟨by (with_reducible repeat (first | apply Kd.R_alloc | apply Kd.R_drewN | apply Kd.R_drew)); exact Kd.R_mono HO1243.out (fun _ hk => trivial)⟩, ⟨by (with_reducible repeat (first | apply Kd.R_alloc | apply Kd.R_drewN | apply Kd.R_drew)); exact Kd.R_mono HO1249.out (fun _ hk => trivial)⟩, ⟨by (with_reducible repeat (first | apply Kd.R_alloc | apply Kd.R_drewN | apply Kd.R_drew)); exact Kd.R_mono HO1252.out (fun _ hk => trivial)⟩, ⟨by (with_reducible repeat (first | refine blk_drewN ?_ _ | refine blk_drew ?_ | refine blk_alloc ?_ _)); exact BK1224.out⟩, ⟨by (with_reducible repeat (first | refine blk_drewN ?_ _ | refine blk_drew ?_ | refine blk_alloc ?_ _)); exact BK1254.out⟩, ⟨by repeat (first | (with_reducible first | exact HB.out | apply below_alloc | apply pw_below_drewN | apply below_drew1 | refine below_set ?_ GE1224.out | refine below_set ?_ GE1254.out) | exact HB.out)⟩⟩
 clear HC19; try clear c1; try clear c2; try clear p2; try clear c3; try clear c4; try clear c5; try clear c7; try clear c7b0; try clear c12; try clear c12b0; try clear c29; try clear c31; try clear c37; try clear c37b0; try clear c37b1; try clear c37b2; try clear hcz10_0; try clear hcz10_1; try clear hcz10_2; try clear hcz10_3; try clear hcz10_4; try clear hcz10_5; try clear hcz28_0; try clear hcz28_1; try clear hcz28_2; try clear hcz28_3; try clear hcz28_4; try clear hcz28_5; try clear hcz32_0; try clear hcz32_1; try clear hcz32_2; try clear hcz32_3; try clear hcz32_4; try clear hcz32_5; try clear hfz10_0; try clear hfz10_1; try clear hfz10_2; try clear hfz10_3; try clear hfz10_4; try clear hfz10_5; try clear hfz28_0; try clear hfz28_1; try clear hfz28_2; try clear hfz28_3; try clear hfz28_4; try clear hfz28_5; try clear hfz32_0; try clear hfz32_1; try clear hfz32_2; try clear hfz32_3; try clear hfz32_4; try clear hfz32_5; try clear p2
 obtain ⟨kq, HA, HJ18, HO_7, HO_1255003, HO_1255004, BK1224, BK1254, HB⟩ := hcut
 obtain _ | kj18 := kq
 · exact absurd HA.out (by simp [laws_FnExactMachOk.j2])
 have H := HA.out
 clear HA
 simp only [laws_FnExactMachOk.j2] at H
 replace H := Option.bind_eq_some_iff.mp H
 obtain ⟨t1256, A380, H⟩ := H
 replace H : ((laws_eqFunS.f kj18 t1241 t1256).bind fun t1259 => (if t1259 = true then (laws_FnExactMachOk.j3 kj18 a1_0 a1_1 a1_2 l1_3 l1_4 a1_5 t1244 t1245 t1246 t1247 t1250 t1253) else (some false))) = some r := H
 have A38 := Aside0.mk A380; clear A380
 replace H := Option.bind_eq_some_iff.mp H
 obtain ⟨t1259, A390, H⟩ := H
 replace H : (if t1259 = true then (laws_FnExactMachOk.j3 kj18 a1_0 a1_1 a1_2 l1_3 l1_4 a1_5 t1244 t1245 t1246 t1247 t1250 t1253) else (some false)) = some r := H
 have A39 := Aside0.mk A390; clear A390; have HC40 := Aside0.mk H; clear H
 go_upto_if 39 with (first | ((with_reducible refine gate_callee (f := 31) rfl ?_); refine goesL_ (some 37) rfl rfl Try.func31 (by kernel_rfl) rfl #[.slice A0 l0.length c0] rfl (by (try simp only [List.map_toArray, List.map_cons, List.map_nil]); first | done | rfl | (simp only [List.length_drop, List.length_take]; rfl)) ?_; (with_reducible refine (laws_toFunS.calls kj18 _ _ l0 t1256 _ ?side1 ?side2 A38.out).mono ?_); (case side1 => repeat (first | exact (Kd.C_below HR0.out HB.out) | (with_reducible refine Kd.C_alloc ?_ _) | (with_reducible refine Kd.C_drewN ?_ _) | (with_reducible refine Kd.C_drew ?_))); (case side2 => exact HC0.out); rintro e w41 ⟨v1257, rfl, ho0, hb⟩; refine ⟨_, rfl, ?_⟩; have n0_ := Aside0.mk (Kd.R_elder' (by (with_reducible repeat (first | apply Kd.R_alloc | apply Kd.R_drewN | apply Kd.R_drew)); exact HO_7.out) (Kd.R_base ho0) hb); have n1_ := Aside0.mk (Kd.R_below (by (with_reducible repeat (first | apply Kd.R_alloc | apply Kd.R_drewN | apply Kd.R_drew)); exact HO_1255003.out) hb); have n2_ := Aside0.mk (Kd.R_below (by (with_reducible repeat (first | apply Kd.R_alloc | apply Kd.R_drewN | apply Kd.R_drew)); exact HO_1255004.out) hb); have n3_ := Aside0.mk (Kd.R_lower (Kd.R_new' ho0 (Kd.R_lt (by (with_reducible repeat (first | apply Kd.R_alloc | apply Kd.R_drewN | apply Kd.R_drew)); exact HO_7.out))) (below_size (by repeat (first | (with_reducible first | exact HB.out | apply below_alloc | apply pw_below_drewN | apply below_drew1 | refine below_set ?_ GE1224.out | refine below_set ?_ GE1254.out) | exact HB.out)))); have n4_ := Aside0.mk (blk_below (g := gb1224) (o := .cells #[.int .i64 a1_0, .int .i64 a1_1, .int .i64 a1_2, .slice A1_3 l1_3.length c1_3, .slice A1_4 l1_4.length c1_4, .int .i64 a1_5] 65 (0, 0)) (by (with_reducible repeat (first | refine blk_drewN ?_ _ | refine blk_drew ?_ | refine blk_alloc ?_ _)); exact BK1224.out) hb); have n5_ := Aside0.mk (blk_below (g := gb1254) (o := .cells #[.int .i64 t1244, .int .i64 t1245, .int .i64 t1246, .slice Ao33 t1247.length co33, .slice Ao34 t1250.length co34, .int .i64 t1253] 71 (0, 0)) (by (with_reducible repeat (first | refine blk_drewN ?_ _ | refine blk_drew ?_ | refine blk_alloc ?_ _)); exact BK1254.out) hb); have n6_ := Aside0.mk (below_step (by repeat (first | (with_reducible first | exact HB.out | apply below_alloc | apply pw_below_drewN | apply below_drew1 | refine below_set ?_ GE1224.out | refine below_set ?_ GE1254.out) | exact HB.out)) hb); clear HO_7 HO_1255003 HO_1255004 BK1224 BK1254 HB; have HO_7 := n0_; have HO_1255003 := n1_; have HO_1255004 := n2_; have HO1258 := n3_; have BK1224 := n4_; have BK1254 := n5_; have HB := n6_; clear n0_ n1_ n2_ n3_ n4_ n5_ n6_; (try clear hb); (try clear hb2); (try clear hk); (try clear hi); (try clear ho0); obtain ⟨Ao42, co42, eo42⟩ := Kd.R_slice HO1258.out; subst eo42) | ((with_reducible refine gate_callee (f := 33) rfl ?_); refine goesL_ (some 38) rfl rfl Try.func33 (by kernel_rfl) rfl #[.slice Ao35 t1241.length co35, .slice Ao42 t1256.length co42] rfl (by (try simp only [List.map_toArray, List.map_cons, List.map_nil]); first | done | rfl | (simp only [List.length_drop, List.length_take]; rfl)) ?_; (with_reducible refine (laws_eqFunS.calls kj18 _ _ t1241 _ _ t1256 t1259 _ ?side1 ?side2 ?side3 ?side4 A39.out).mono ?_); (case side1 => repeat (first | exact (Kd.R_reads' HO_7.out).2.2 | (with_reducible refine Kd.C_alloc ?_ _) | (with_reducible refine Kd.C_drewN ?_ _) | (with_reducible refine Kd.C_drew ?_))); (case side2 => exact (Kd.R_reads' HO_7.out).2.1); (case side3 => repeat (first | exact (Kd.R_reads' HO1258.out).2.2 | (with_reducible refine Kd.C_alloc ?_ _) | (with_reducible refine Kd.C_drewN ?_ _) | (with_reducible refine Kd.C_drew ?_))); (case side4 => exact (Kd.R_reads' HO1258.out).2.1); rintro e w43 ⟨rfl, hb⟩; refine ⟨_, rfl, ?_⟩; have n0_ := Aside0.mk (Kd.R_below (by (with_reducible repeat (first | apply Kd.R_alloc | apply Kd.R_drewN | apply Kd.R_drew)); exact HO_7.out) hb); have n1_ := Aside0.mk (Kd.R_below (by (with_reducible repeat (first | apply Kd.R_alloc | apply Kd.R_drewN | apply Kd.R_drew)); exact HO_1255003.out) hb); have n2_ := Aside0.mk (Kd.R_below (by (with_reducible repeat (first | apply Kd.R_alloc | apply Kd.R_drewN | apply Kd.R_drew)); exact HO_1255004.out) hb); have n3_ := Aside0.mk (Kd.R_below (by (with_reducible repeat (first | apply Kd.R_alloc | apply Kd.R_drewN | apply Kd.R_drew)); exact HO1258.out) hb); have n4_ := Aside0.mk (blk_below (g := gb1224) (o := .cells #[.int .i64 a1_0, .int .i64 a1_1, .int .i64 a1_2, .slice A1_3 l1_3.length c1_3, .slice A1_4 l1_4.length c1_4, .int .i64 a1_5] 65 (0, 0)) (by (with_reducible repeat (first | refine blk_drewN ?_ _ | refine blk_drew ?_ | refine blk_alloc ?_ _)); exact BK1224.out) hb); have n5_ := Aside0.mk (blk_below (g := gb1254) (o := .cells #[.int .i64 t1244, .int .i64 t1245, .int .i64 t1246, .slice Ao33 t1247.length co33, .slice Ao34 t1250.length co34, .int .i64 t1253] 71 (0, 0)) (by (with_reducible repeat (first | refine blk_drewN ?_ _ | refine blk_drew ?_ | refine blk_alloc ?_ _)); exact BK1254.out) hb); have n6_ := Aside0.mk (below_step (by repeat (first | (with_reducible first | exact HB.out | apply below_alloc | apply pw_below_drewN | apply below_drew1 | refine below_set ?_ GE1224.out | refine below_set ?_ GE1254.out) | exact HB.out)) hb); clear HO_7 HO_1255003 HO_1255004 HO1258 BK1224 BK1254 HB; have HO_7 := n0_; have HO_1255003 := n1_; have HO_1255004 := n2_; have HO1258 := n3_; have BK1224 := n4_; have BK1254 := n5_; have HB := n6_; clear n0_ n1_ n2_ n3_ n4_ n5_ n6_; (try clear hb); (try clear hb2); (try clear hk); (try clear hi)))
 (try simp only [Act.put, List.setIfInBounds_toArray, List.set_cons_zero, List.set_cons_succ])
 go_cut [] (fun wc => ∃ (kq : Nat), Aside0 (laws_FnExactMachOk.j3 kq a1_0 a1_1 a1_2 l1_3 l1_4 a1_5 t1244 t1245 t1246 t1247 t1250 t1253 = some r) ∧ Aside0 (kq ≤ kj18) ∧ Aside0 (Kd.R k68 68 wc w.heap.size (fun _ => True) (.slice Ao33 t1247.length co33) t1247) ∧ Aside0 (Kd.R (Kd.int .i64) 3 wc w.heap.size (fun _ => True) (.slice Ao34 t1250.length co34) t1250) ∧ Aside0 (wc.heap[gb1224]? = some (.cells #[.int .i64 a1_0, .int .i64 a1_1, .int .i64 a1_2, (.slice A1_3 l1_3.length c1_3), (.slice A1_4 l1_4.length c1_4), .int .i64 a1_5] 65 (0, 0))) ∧ Aside0 (wc.heap[gb1254]? = some (.cells #[.int .i64 t1244, .int .i64 t1245, .int .i64 t1246, (.slice Ao33 t1247.length co33), (.slice Ao34 t1250.length co34), .int .i64 t1253] 71 (0, 0))) ∧ Aside0 (Below w.heap.size w wc))
 case first =>
  have H := HC40.out
  clear HC40
  by_cases c44 : t1259 = true
  · subst c44
    have H1 : (laws_FnExactMachOk.j3 kj18 a1_0 a1_1 a1_2 l1_3 l1_4 a1_5 t1244 t1245 t1246 t1247 t1250 t1253) = some r := by rw [if_pos rfl] at H; exact H
    clear H
    have H := H1
    clear H1
    have H' := Aside0.mk H
    clear H
    go_wp2
    go_meet
    case rel => exact ⟨_, H', ⟨by have := HJ3.out; have := HJ8.out; have := HJ18.out; first | omega | exact Nat.le_refl _⟩, ⟨by (with_reducible repeat (first | apply Kd.R_alloc | apply Kd.R_drewN | apply Kd.R_drew)); exact HO_1255003.out⟩, ⟨by (with_reducible repeat (first | apply Kd.R_alloc | apply Kd.R_drewN | apply Kd.R_drew)); exact HO_1255004.out⟩, ⟨by (with_reducible repeat (first | refine blk_drewN ?_ _ | refine blk_drew ?_ | refine blk_alloc ?_ _)); exact BK1224.out⟩, ⟨by (with_reducible repeat (first | refine blk_drewN ?_ _ | refine blk_drew ?_ | refine blk_alloc ?_ _)); exact BK1254.out⟩, ⟨by repeat (first | (with_reducible first | exact HB.out | apply below_alloc | apply pw_below_drewN | apply below_drew1 | refine below_set ?_ GE1224.out | refine below_set ?_ GE1254.out) | exact HB.out)⟩⟩
  replace c44 := Bool.eq_false_iff.mpr c44
  subst c44
  have H1 : (some false) = some r := by rw [if_neg (show ¬ (false = true) by decide)] at H; exact H
  clear H
  have H := H1
  clear H1
  obtain rfl := Option.some.inj H
  go_wp2
  go_ret
  exact ⟨by first | rfl | (simp [errW_none, errW_some] <;> rfl) | (simp [*, errW_none, errW_some] <;> rfl), by repeat (first | (with_reducible first | exact HB.out | apply below_alloc | apply pw_below_drewN | apply below_drew1 | refine below_set ?_ GE1224.out | refine below_set ?_ GE1254.out) | exact HB.out)⟩
 clear HC40; try clear c1; try clear c2; try clear p2; try clear c3; try clear c4; try clear c5; try clear c7; try clear c7b0; try clear c12; try clear c12b0; try clear c29; try clear c31; try clear c33; try clear c37; try clear c37b0; try clear c37b1; try clear c37b2; try clear c44; try clear hcz10_0; try clear hcz10_1; try clear hcz10_2; try clear hcz10_3; try clear hcz10_4; try clear hcz10_5; try clear hcz28_0; try clear hcz28_1; try clear hcz28_2; try clear hcz28_3; try clear hcz28_4; try clear hcz28_5; try clear hcz32_0; try clear hcz32_1; try clear hcz32_2; try clear hcz32_3; try clear hcz32_4; try clear hcz32_5; try clear hfz10_0; try clear hfz10_1; try clear hfz10_2; try clear hfz10_3; try clear hfz10_4; try clear hfz10_5; try clear hfz28_0; try clear hfz28_1; try clear hfz28_2; try clear hfz28_3; try clear hfz28_4; try clear hfz28_5; try clear hfz32_0; try clear hfz32_1; try clear hfz32_2; try clear hfz32_3; try clear hfz32_4; try clear hfz32_5; try clear p2
 obtain ⟨kq, HA, HJ39, HO_1255003, HO_1255004, BK1224, BK1254, HB⟩ := hcut
 obtain _ | kj39 := kq
 · exact absurd HA.out (by simp [laws_FnExactMachOk.j3])
 have H := HA.out
 clear HA
 simp only [laws_FnExactMachOk.j3] at H
 replace H := Option.bind_eq_some_iff.mp H
 obtain ⟨⟨t1260, t1261, t1262, t1263, t1266, t1269⟩, A450, H⟩ := H
 replace H : ((laws_eqMach.f kj39 t1244 t1245 t1246 t1247 t1250 t1253 t1260 t1261 t1262 t1263 t1266 t1269).bind fun t1270 => (if t1270 = true then (some true) else (some false))) = some r := H
 have A45 := Aside0.mk A450; clear A450
 replace H := Option.bind_eq_some_iff.mp H
 obtain ⟨t1270, A460, H⟩ := H
 replace H : (if t1270 = true then (some true) else (some false)) = some r := H
 have A46 := Aside0.mk A460; clear A460
 by_cases c47 : t1270 = true
 · subst c47
   have H1 : (some true) = some r := by rw [if_pos rfl] at H; exact H
   clear H
   have H := H1
   clear H1
   obtain rfl := Option.some.inj H
   try go_wp2
   have n0_ := Aside0.mk (Kd.R_drew HO_1255003.out)
   have n1_ := Aside0.mk (Kd.R_drew HO_1255004.out)
   have n2_ := Aside0.mk (blk_drew BK1224.out)
   have n3_ := Aside0.mk (blk_drew BK1254.out)
   have n4_ := Aside0.mk (below_drew1 HB.out)
   clear HO_1255003 HO_1255004 BK1224 BK1254; clear HB
   have HO_1255003 := n0_
   have HO_1255004 := n1_
   have BK1224 := n2_
   have BK1254 := n3_
   have HB := n4_
   clear n0_ n1_ n2_ n3_ n4_
   refine start_ (n := 5) (S := fun w' => w'.cell? ⟨gb1254, 0, none⟩ = some (.int .i64 t1244) ∧ w'.cell? ⟨gb1254, 1, none⟩ = some (.int .i64 t1245) ∧ w'.cell? ⟨gb1254, 2, none⟩ = some (.int .i64 t1246) ∧ w'.cell? ⟨gb1254, 3, none⟩ = some (.slice Ao33 t1247.length co33) ∧ w'.cell? ⟨gb1254, 4, none⟩ = some (.slice Ao34 t1250.length co34) ∧ w'.cell? ⟨gb1254, 5, none⟩ = some (.int .i64 t1253) ∧ w'.cell? ⟨gb1224, 0, none⟩ = some (.int .i64 a1_0) ∧ w'.cell? ⟨gb1224, 1, none⟩ = some (.int .i64 a1_1) ∧ w'.cell? ⟨gb1224, 2, none⟩ = some (.int .i64 a1_2) ∧ w'.cell? ⟨gb1224, 3, none⟩ = some (.slice A1_3 l1_3.length c1_3) ∧ w'.cell? ⟨gb1224, 4, none⟩ = some (.slice A1_4 l1_4.length c1_4) ∧ w'.cell? ⟨gb1224, 5, none⟩ = some (.int .i64 a1_5)) (ds := []) #[false, false, false, false, false] (by kernel_rfl) rfl rfl ⟨(blk_cell BK1254.out 0).trans rfl, (blk_cell BK1254.out 1).trans rfl, (blk_cell BK1254.out 2).trans rfl, (blk_cell BK1254.out 3).trans rfl, (blk_cell BK1254.out 4).trans rfl, (blk_cell BK1254.out 5).trans rfl, (blk_cell BK1224.out 0).trans rfl, (blk_cell BK1224.out 1).trans rfl, (blk_cell BK1224.out 2).trans rfl, (blk_cell BK1224.out 3).trans rfl, (blk_cell BK1224.out 4).trans rfl, (blk_cell BK1224.out 5).trans rfl⟩ (fun hHeld => ?_)
   generalize wc.drew = w48 at HO_1255003 HO_1255004 BK1224 BK1254 HB hHeld ⊢
   refine take_ (i := 0) (N := some 40) (v := ?_) (a' := ?_) #[true, false, false, false, false] rfl rfl (by kernel_rfl) (fun _ _ _ h => h) (Or.inl ⟨by rfl, ?_⟩) hHeld ?_ ?_
   rotate_left
   · rintro w' ⟨s0, s1, s2, s3, s4, s5, s6, s7, s8, s9, s10, s11⟩
     go_simp
     with_reducible rfl
   rotate_left
   · simp only [Act.put, List.setIfInBounds_toArray, List.set_cons_zero, List.set_cons_succ, i64_w, i32_w]
     rfl
   refine take_ (i := 1) (N := some 41) (v := ?_) (a' := ?_) #[true, true, false, false, false] rfl rfl (by kernel_rfl) (fun _ _ _ h => h) (Or.inl ⟨by rfl, ?_⟩) hHeld ?_ ?_
   rotate_left
   · rintro w' ⟨s0, s1, s2, s3, s4, s5, s6, s7, s8, s9, s10, s11⟩
     go_simp
     with_reducible rfl
   rotate_left
   · simp only [Act.put, List.setIfInBounds_toArray, List.set_cons_zero, List.set_cons_succ, i64_w, i32_w]
     rfl
   refine one_ (i := 2) (N := some 42) #[true, true, true, false, false] rfl rfl (by kernel_rfl) (by decide) (fun K hK => ?_)
   refine goes_ Try.func49 (by kernel_rfl) rfl #[.agg #[.int .i64 a1_0, .int .i64 a1_1, .int .i64 a1_2, .slice A1_3 l1_3.length c1_3, .slice A1_4 l1_4.length c1_4, .int .i64 a1_5]] (by rfl) rfl rfl (by (try simp only [List.map_toArray, List.map_cons, List.map_nil]); first | done | rfl | (simp only [List.length_drop, List.length_take]; rfl)) ?_
   with_reducible refine (laws_toMach.calls kj39 a1_0 a1_1 a1_2 _ _ l1_3 _ _ l1_4 a1_5 t1260 t1261 t1262 t1263 t1266 t1269 _ ?side1 ?side2 ?side3 ?side4 A45.out).mono ?_
   (case side1 => repeat (first | exact (Kd.C_below HR1_3.out HB.out) | (with_reducible refine Kd.C_alloc ?_ _) | (with_reducible refine Kd.C_drewN ?_ _) | (with_reducible refine Kd.C_drew ?_)))
   (case side2 => exact HC1_3.out)
   (case side3 => repeat (first | exact (Kd.C_below HR1_4.out HB.out) | (with_reducible refine Kd.C_alloc ?_ _) | (with_reducible refine Kd.C_drewN ?_ _) | (with_reducible refine Kd.C_drew ?_)))
   (case side4 => exact HC1_4.out)
   rintro e w49 ⟨v1264, v1267, rfl, ho0, ho1, hb⟩
   refine ⟨_, rfl, ?_⟩
   have n0_ := Aside0.mk (Kd.R_elder' (by (with_reducible repeat (first | apply Kd.R_alloc | apply Kd.R_drewN | apply Kd.R_drew)); exact HO_1255003.out) (Kd.R_base ho0) hb)
   have n1_ := Aside0.mk (Kd.R_elder' (by (with_reducible repeat (first | apply Kd.R_alloc | apply Kd.R_drewN | apply Kd.R_drew)); exact HO_1255004.out) (Kd.R_base ho1) hb)
   have n2_ := Aside0.mk (Kd.R_lower (Kd.R_new' ho0 (Kd.R_lt (by (with_reducible repeat (first | apply Kd.R_alloc | apply Kd.R_drewN | apply Kd.R_drew)); exact HO_1255003.out))) (below_size (by repeat (first | (with_reducible first | exact HB.out | apply below_alloc | apply pw_below_drewN | apply below_drew1 | refine below_set ?_ GE1224.out | refine below_set ?_ GE1254.out) | exact HB.out))))
   have n3_ := Aside0.mk (Kd.R_lower (Kd.R_new' ho1 (Kd.R_lt (by (with_reducible repeat (first | apply Kd.R_alloc | apply Kd.R_drewN | apply Kd.R_drew)); exact HO_1255004.out))) (below_size (by repeat (first | (with_reducible first | exact HB.out | apply below_alloc | apply pw_below_drewN | apply below_drew1 | refine below_set ?_ GE1224.out | refine below_set ?_ GE1254.out) | exact HB.out))))
   have n4_ := Aside0.mk (blk_below (g := gb1224) (o := .cells #[.int .i64 a1_0, .int .i64 a1_1, .int .i64 a1_2, .slice A1_3 l1_3.length c1_3, .slice A1_4 l1_4.length c1_4, .int .i64 a1_5] 65 (0, 0)) (by (with_reducible repeat (first | refine blk_drewN ?_ _ | refine blk_drew ?_ | refine blk_alloc ?_ _)); exact BK1224.out) hb)
   have n5_ := Aside0.mk (blk_below (g := gb1254) (o := .cells #[.int .i64 t1244, .int .i64 t1245, .int .i64 t1246, .slice Ao33 t1247.length co33, .slice Ao34 t1250.length co34, .int .i64 t1253] 71 (0, 0)) (by (with_reducible repeat (first | refine blk_drewN ?_ _ | refine blk_drew ?_ | refine blk_alloc ?_ _)); exact BK1254.out) hb)
   have n6_ := Aside0.mk (below_step (by repeat (first | (with_reducible first | exact HB.out | apply below_alloc | apply pw_below_drewN | apply below_drew1 | refine below_set ?_ GE1224.out | refine below_set ?_ GE1254.out) | exact HB.out)) hb)
   clear HO_1255003 HO_1255004 BK1224 BK1254; clear HB
   have HO_1255003 := n0_
   have HO_1255004 := n1_
   have HO1265 := n2_
   have HO1268 := n3_
   have BK1224 := n4_
   have BK1254 := n5_
   have HB := n6_
   clear n0_ n1_ n2_ n3_ n4_ n5_ n6_
   (try clear hb)
   (try clear hb2)
   (try clear hk)
   (try clear hi)
   (try clear ho0)
   (try clear ho1)
   obtain ⟨Ao50, co50, eo50⟩ := Kd.R_slice HO1265.out
   (first | subst eo50 | (injection eo50 with f1_ f2_ f3_; have f4_ := f1_.symm; have f5_ := f3_.symm; clear f1_ f2_ f3_; subst f4_; subst f5_))
   obtain ⟨Ao51, co51, eo51⟩ := Kd.R_slice HO1268.out
   (first | subst eo51 | (injection eo51 with f1_ f2_ f3_; have f4_ := f1_.symm; have f5_ := f3_.symm; clear f1_ f2_ f3_; subst f4_; subst f5_))
   refine hK.out _ _ ⟨(blk_cell BK1254.out 0).trans rfl, (blk_cell BK1254.out 1).trans rfl, (blk_cell BK1254.out 2).trans rfl, (blk_cell BK1254.out 3).trans rfl, (blk_cell BK1254.out 4).trans rfl, (blk_cell BK1254.out 5).trans rfl, (blk_cell BK1224.out 0).trans rfl, (blk_cell BK1224.out 1).trans rfl, (blk_cell BK1224.out 2).trans rfl, (blk_cell BK1224.out 3).trans rfl, (blk_cell BK1224.out 4).trans rfl, (blk_cell BK1224.out 5).trans rfl⟩ (fun hHeld => ?_)
   clear hK K
   refine norm_ (a' := ?_) ?_ ?_
   rotate_left
   · show Act.put _ (some 42) _ = _
     simp only [Act.put, List.setIfInBounds_toArray, List.set_cons_zero, List.set_cons_succ, i64_w, i32_w]
     rfl
   refine one_ (i := 3) (N := some 43) #[true, true, true, true, false] rfl rfl (by kernel_rfl) (by decide) (fun K hK => ?_)
   refine goes_ Try.func51 (by kernel_rfl) rfl #[.agg #[.int .i64 t1244, .int .i64 t1245, .int .i64 t1246, .slice Ao33 t1247.length co33, .slice Ao34 t1250.length co34, .int .i64 t1253], .agg #[.int .i64 t1260, .int .i64 t1261, .int .i64 t1262, .slice Ao50 t1263.length co50, .slice Ao51 t1266.length co51, .int .i64 t1269]] (by rfl) rfl rfl (by (try simp only [List.map_toArray, List.map_cons, List.map_nil]); first | done | rfl | (simp only [List.length_drop, List.length_take]; rfl)) ?_
   with_reducible refine (laws_eqMach.calls kj39 t1244 t1245 t1246 _ _ t1247 _ _ t1250 t1253 t1260 t1261 t1262 _ _ t1263 _ _ t1266 t1269 true _ ?side1 ?side2 ?side3 ?side4 ?side5 ?side6 ?side7 ?side8 A46.out).mono ?_
   (case side1 => repeat (first | exact (Kd.R_reads' HO_1255003.out).2.2 | (with_reducible refine Kd.C_alloc ?_ _) | (with_reducible refine Kd.C_drewN ?_ _) | (with_reducible refine Kd.C_drew ?_)))
   (case side2 => exact (Kd.R_reads' HO_1255003.out).2.1)
   (case side3 => repeat (first | exact (Kd.R_reads' HO_1255004.out).2.2 | (with_reducible refine Kd.C_alloc ?_ _) | (with_reducible refine Kd.C_drewN ?_ _) | (with_reducible refine Kd.C_drew ?_)))
   (case side4 => exact (Kd.R_reads' HO_1255004.out).2.1)
   (case side5 => repeat (first | exact (Kd.R_reads' HO1265.out).2.2 | (with_reducible refine Kd.C_alloc ?_ _) | (with_reducible refine Kd.C_drewN ?_ _) | (with_reducible refine Kd.C_drew ?_)))
   (case side6 => exact (Kd.R_reads' HO1265.out).2.1)
   (case side7 => repeat (first | exact (Kd.R_reads' HO1268.out).2.2 | (with_reducible refine Kd.C_alloc ?_ _) | (with_reducible refine Kd.C_drewN ?_ _) | (with_reducible refine Kd.C_drew ?_)))
   (case side8 => exact (Kd.R_reads' HO1268.out).2.1)
   rintro e w52 ⟨rfl, hb⟩
   refine ⟨_, rfl, ?_⟩
   have n0_ := Aside0.mk (Kd.R_below (by (with_reducible repeat (first | apply Kd.R_alloc | apply Kd.R_drewN | apply Kd.R_drew)); exact HO_1255003.out) hb)
   have n1_ := Aside0.mk (Kd.R_below (by (with_reducible repeat (first | apply Kd.R_alloc | apply Kd.R_drewN | apply Kd.R_drew)); exact HO_1255004.out) hb)
   have n2_ := Aside0.mk (Kd.R_below (by (with_reducible repeat (first | apply Kd.R_alloc | apply Kd.R_drewN | apply Kd.R_drew)); exact HO1265.out) hb)
   have n3_ := Aside0.mk (Kd.R_below (by (with_reducible repeat (first | apply Kd.R_alloc | apply Kd.R_drewN | apply Kd.R_drew)); exact HO1268.out) hb)
   have n4_ := Aside0.mk (blk_below (g := gb1224) (o := .cells #[.int .i64 a1_0, .int .i64 a1_1, .int .i64 a1_2, .slice A1_3 l1_3.length c1_3, .slice A1_4 l1_4.length c1_4, .int .i64 a1_5] 65 (0, 0)) (by (with_reducible repeat (first | refine blk_drewN ?_ _ | refine blk_drew ?_ | refine blk_alloc ?_ _)); exact BK1224.out) hb)
   have n5_ := Aside0.mk (blk_below (g := gb1254) (o := .cells #[.int .i64 t1244, .int .i64 t1245, .int .i64 t1246, .slice Ao33 t1247.length co33, .slice Ao34 t1250.length co34, .int .i64 t1253] 71 (0, 0)) (by (with_reducible repeat (first | refine blk_drewN ?_ _ | refine blk_drew ?_ | refine blk_alloc ?_ _)); exact BK1254.out) hb)
   have n6_ := Aside0.mk (below_step (by repeat (first | (with_reducible first | exact HB.out | apply below_alloc | apply pw_below_drewN | apply below_drew1 | refine below_set ?_ GE1224.out | refine below_set ?_ GE1254.out) | exact HB.out)) hb)
   clear HO_1255003 HO_1255004 HO1265 HO1268 BK1224 BK1254; clear HB
   have HO_1255003 := n0_
   have HO_1255004 := n1_
   have HO1265 := n2_
   have HO1268 := n3_
   have BK1224 := n4_
   have BK1254 := n5_
   have HB := n6_
   clear n0_ n1_ n2_ n3_ n4_ n5_ n6_
   (try clear hb)
   (try clear hb2)
   (try clear hk)
   (try clear hi)
   refine hK.out _ _ ⟨(blk_cell BK1254.out 0).trans rfl, (blk_cell BK1254.out 1).trans rfl, (blk_cell BK1254.out 2).trans rfl, (blk_cell BK1254.out 3).trans rfl, (blk_cell BK1254.out 4).trans rfl, (blk_cell BK1254.out 5).trans rfl, (blk_cell BK1224.out 0).trans rfl, (blk_cell BK1224.out 1).trans rfl, (blk_cell BK1224.out 2).trans rfl, (blk_cell BK1224.out 3).trans rfl, (blk_cell BK1224.out 4).trans rfl, (blk_cell BK1224.out 5).trans rfl⟩ (fun hHeld => ?_)
   clear hK K
   refine norm_ (a' := ?_) ?_ ?_
   rotate_left
   · show Act.put _ (some 43) _ = _
     simp only [Act.put, List.setIfInBounds_toArray, List.set_cons_zero, List.set_cons_succ, i64_w, i32_w]
     rfl
   refine pure_ (i := 4) (N := some 44) (v := ?_) (a' := ?_) #[true, true, true, true, true] rfl rfl (by kernel_rfl) (fun _ _ _ h => h) (Or.inl ⟨by rfl, ?_⟩) ?_ ?_
   rotate_left
   · intro w'
     go_simp
     with_reducible rfl
   rotate_left
   · simp only [Act.put, List.setIfInBounds_toArray, List.set_cons_zero, List.set_cons_succ, i64_w, i32_w]
     rfl
   refine done_ (by kernel_rfl) ?_
   try go_wp2
   go_ret
   exact ⟨by first | rfl | (simp [errW_none, errW_some] <;> rfl) | (simp [*, errW_none, errW_some] <;> rfl), by repeat (first | (with_reducible first | exact HB.out | apply below_alloc | apply pw_below_drewN | apply below_drew1 | refine below_set ?_ GE1224.out | refine below_set ?_ GE1254.out) | exact HB.out)⟩
 replace c47 := Bool.eq_false_iff.mpr c47
 subst c47
 have H1 : (some false) = some r := by rw [if_neg (show ¬ (false = true) by decide)] at H; exact H
 clear H
 have H := H1
 clear H1
 obtain rfl := Option.some.inj H
 try go_wp2
 have n0_ := Aside0.mk (Kd.R_drew HO_1255003.out)
 have n1_ := Aside0.mk (Kd.R_drew HO_1255004.out)
 have n2_ := Aside0.mk (blk_drew BK1224.out)
 have n3_ := Aside0.mk (blk_drew BK1254.out)
 have n4_ := Aside0.mk (below_drew1 HB.out)
 clear HO_1255003 HO_1255004 BK1224 BK1254 HB
 have HO_1255003 := n0_
 have HO_1255004 := n1_
 have BK1224 := n2_
 have BK1254 := n3_
 have HB := n4_
 clear n0_ n1_ n2_ n3_ n4_
 refine start_ (n := 5) (S := fun w' => w'.cell? ⟨gb1254, 0, none⟩ = some (.int .i64 t1244) ∧ w'.cell? ⟨gb1254, 1, none⟩ = some (.int .i64 t1245) ∧ w'.cell? ⟨gb1254, 2, none⟩ = some (.int .i64 t1246) ∧ w'.cell? ⟨gb1254, 3, none⟩ = some (.slice Ao33 t1247.length co33) ∧ w'.cell? ⟨gb1254, 4, none⟩ = some (.slice Ao34 t1250.length co34) ∧ w'.cell? ⟨gb1254, 5, none⟩ = some (.int .i64 t1253) ∧ w'.cell? ⟨gb1224, 0, none⟩ = some (.int .i64 a1_0) ∧ w'.cell? ⟨gb1224, 1, none⟩ = some (.int .i64 a1_1) ∧ w'.cell? ⟨gb1224, 2, none⟩ = some (.int .i64 a1_2) ∧ w'.cell? ⟨gb1224, 3, none⟩ = some (.slice A1_3 l1_3.length c1_3) ∧ w'.cell? ⟨gb1224, 4, none⟩ = some (.slice A1_4 l1_4.length c1_4) ∧ w'.cell? ⟨gb1224, 5, none⟩ = some (.int .i64 a1_5)) (ds := []) #[false, false, false, false, false] (by kernel_rfl) rfl rfl ⟨(blk_cell BK1254.out 0).trans rfl, (blk_cell BK1254.out 1).trans rfl, (blk_cell BK1254.out 2).trans rfl, (blk_cell BK1254.out 3).trans rfl, (blk_cell BK1254.out 4).trans rfl, (blk_cell BK1254.out 5).trans rfl, (blk_cell BK1224.out 0).trans rfl, (blk_cell BK1224.out 1).trans rfl, (blk_cell BK1224.out 2).trans rfl, (blk_cell BK1224.out 3).trans rfl, (blk_cell BK1224.out 4).trans rfl, (blk_cell BK1224.out 5).trans rfl⟩ (fun hHeld => ?_)
 generalize wc.drew = w53 at HO_1255003 HO_1255004 BK1224 BK1254 HB hHeld ⊢
 refine take_ (i := 0) (N := some 40) (v := ?_) (a' := ?_) #[true, false, false, false, false] rfl rfl (by kernel_rfl) (fun _ _ _ h => h) (Or.inl ⟨by rfl, ?_⟩) hHeld ?_ ?_
 rotate_left
 · rintro w' ⟨s0, s1, s2, s3, s4, s5, s6, s7, s8, s9, s10, s11⟩
   go_simp
   with_reducible rfl
 rotate_left
 · simp only [Act.put, List.setIfInBounds_toArray, List.set_cons_zero, List.set_cons_succ, i64_w, i32_w]
   rfl
 refine take_ (i := 1) (N := some 41) (v := ?_) (a' := ?_) #[true, true, false, false, false] rfl rfl (by kernel_rfl) (fun _ _ _ h => h) (Or.inl ⟨by rfl, ?_⟩) hHeld ?_ ?_
 rotate_left
 · rintro w' ⟨s0, s1, s2, s3, s4, s5, s6, s7, s8, s9, s10, s11⟩
   go_simp
   with_reducible rfl
 rotate_left
 · simp only [Act.put, List.setIfInBounds_toArray, List.set_cons_zero, List.set_cons_succ, i64_w, i32_w]
   rfl
 refine one_ (i := 2) (N := some 42) #[true, true, true, false, false] rfl rfl (by kernel_rfl) (by decide) (fun K hK => ?_)
 refine goes_ Try.func49 (by kernel_rfl) rfl #[.agg #[.int .i64 a1_0, .int .i64 a1_1, .int .i64 a1_2, .slice A1_3 l1_3.length c1_3, .slice A1_4 l1_4.length c1_4, .int .i64 a1_5]] (by rfl) rfl rfl (by (try simp only [List.map_toArray, List.map_cons, List.map_nil]); first | done | rfl | (simp only [List.length_drop, List.length_take]; rfl)) ?_
 with_reducible refine (laws_toMach.calls kj39 a1_0 a1_1 a1_2 _ _ l1_3 _ _ l1_4 a1_5 t1260 t1261 t1262 t1263 t1266 t1269 _ ?side1 ?side2 ?side3 ?side4 A45.out).mono ?_
 (case side1 => repeat (first | exact (Kd.C_below HR1_3.out HB.out) | (with_reducible refine Kd.C_alloc ?_ _) | (with_reducible refine Kd.C_drewN ?_ _) | (with_reducible refine Kd.C_drew ?_)))
 (case side2 => exact HC1_3.out)
 (case side3 => repeat (first | exact (Kd.C_below HR1_4.out HB.out) | (with_reducible refine Kd.C_alloc ?_ _) | (with_reducible refine Kd.C_drewN ?_ _) | (with_reducible refine Kd.C_drew ?_)))
 (case side4 => exact HC1_4.out)
 rintro e w54 ⟨v1264, v1267, rfl, ho0, ho1, hb⟩
 refine ⟨_, rfl, ?_⟩
 have n0_ := Aside0.mk (Kd.R_elder' (by (with_reducible repeat (first | apply Kd.R_alloc | apply Kd.R_drewN | apply Kd.R_drew)); exact HO_1255003.out) (Kd.R_base ho0) hb)
 have n1_ := Aside0.mk (Kd.R_elder' (by (with_reducible repeat (first | apply Kd.R_alloc | apply Kd.R_drewN | apply Kd.R_drew)); exact HO_1255004.out) (Kd.R_base ho1) hb)
 have n2_ := Aside0.mk (Kd.R_lower (Kd.R_new' ho0 (Kd.R_lt (by (with_reducible repeat (first | apply Kd.R_alloc | apply Kd.R_drewN | apply Kd.R_drew)); exact HO_1255003.out))) (below_size (by repeat (first | (with_reducible first | exact HB.out | apply below_alloc | apply pw_below_drewN | apply below_drew1 | refine below_set ?_ GE1224.out | refine below_set ?_ GE1254.out) | exact HB.out))))
 have n3_ := Aside0.mk (Kd.R_lower (Kd.R_new' ho1 (Kd.R_lt (by (with_reducible repeat (first | apply Kd.R_alloc | apply Kd.R_drewN | apply Kd.R_drew)); exact HO_1255004.out))) (below_size (by repeat (first | (with_reducible first | exact HB.out | apply below_alloc | apply pw_below_drewN | apply below_drew1 | refine below_set ?_ GE1224.out | refine below_set ?_ GE1254.out) | exact HB.out))))
 have n4_ := Aside0.mk (blk_below (g := gb1224) (o := .cells #[.int .i64 a1_0, .int .i64 a1_1, .int .i64 a1_2, .slice A1_3 l1_3.length c1_3, .slice A1_4 l1_4.length c1_4, .int .i64 a1_5] 65 (0, 0)) (by (with_reducible repeat (first | refine blk_drewN ?_ _ | refine blk_drew ?_ | refine blk_alloc ?_ _)); exact BK1224.out) hb)
 have n5_ := Aside0.mk (blk_below (g := gb1254) (o := .cells #[.int .i64 t1244, .int .i64 t1245, .int .i64 t1246, .slice Ao33 t1247.length co33, .slice Ao34 t1250.length co34, .int .i64 t1253] 71 (0, 0)) (by (with_reducible repeat (first | refine blk_drewN ?_ _ | refine blk_drew ?_ | refine blk_alloc ?_ _)); exact BK1254.out) hb)
 have n6_ := Aside0.mk (below_step (by repeat (first | (with_reducible first | exact HB.out | apply below_alloc | apply pw_below_drewN | apply below_drew1 | refine below_set ?_ GE1224.out | refine below_set ?_ GE1254.out) | exact HB.out)) hb)
 clear HO_1255003 HO_1255004 BK1224 BK1254 HB
 have HO_1255003 := n0_
 have HO_1255004 := n1_
 have HO1265 := n2_
 have HO1268 := n3_
 have BK1224 := n4_
 have BK1254 := n5_
 have HB := n6_
 clear n0_ n1_ n2_ n3_ n4_ n5_ n6_
 (try clear hb)
 (try clear hb2)
 (try clear hk)
 (try clear hi)
 (try clear ho0)
 (try clear ho1)
 obtain ⟨Ao55, co55, eo55⟩ := Kd.R_slice HO1265.out
 (first | subst eo55 | (injection eo55 with f1_ f2_ f3_; have f4_ := f1_.symm; have f5_ := f3_.symm; clear f1_ f2_ f3_; subst f4_; subst f5_))
 obtain ⟨Ao56, co56, eo56⟩ := Kd.R_slice HO1268.out
 (first | subst eo56 | (injection eo56 with f1_ f2_ f3_; have f4_ := f1_.symm; have f5_ := f3_.symm; clear f1_ f2_ f3_; subst f4_; subst f5_))
 refine hK.out _ _ ⟨(blk_cell BK1254.out 0).trans rfl, (blk_cell BK1254.out 1).trans rfl, (blk_cell BK1254.out 2).trans rfl, (blk_cell BK1254.out 3).trans rfl, (blk_cell BK1254.out 4).trans rfl, (blk_cell BK1254.out 5).trans rfl, (blk_cell BK1224.out 0).trans rfl, (blk_cell BK1224.out 1).trans rfl, (blk_cell BK1224.out 2).trans rfl, (blk_cell BK1224.out 3).trans rfl, (blk_cell BK1224.out 4).trans rfl, (blk_cell BK1224.out 5).trans rfl⟩ (fun hHeld => ?_)
 clear hK K
 refine norm_ (a' := ?_) ?_ ?_
 rotate_left
 · show Act.put _ (some 42) _ = _
   simp only [Act.put, List.setIfInBounds_toArray, List.set_cons_zero, List.set_cons_succ, i64_w, i32_w]
   rfl
 refine one_ (i := 3) (N := some 43) #[true, true, true, true, false] rfl rfl (by kernel_rfl) (by decide) (fun K hK => ?_)
 refine goes_ Try.func51 (by kernel_rfl) rfl #[.agg #[.int .i64 t1244, .int .i64 t1245, .int .i64 t1246, .slice Ao33 t1247.length co33, .slice Ao34 t1250.length co34, .int .i64 t1253], .agg #[.int .i64 t1260, .int .i64 t1261, .int .i64 t1262, .slice Ao55 t1263.length co55, .slice Ao56 t1266.length co56, .int .i64 t1269]] (by rfl) rfl rfl (by (try simp only [List.map_toArray, List.map_cons, List.map_nil]); first | done | rfl | (simp only [List.length_drop, List.length_take]; rfl)) ?_
 with_reducible refine (laws_eqMach.calls kj39 t1244 t1245 t1246 _ _ t1247 _ _ t1250 t1253 t1260 t1261 t1262 _ _ t1263 _ _ t1266 t1269 false _ ?side1 ?side2 ?side3 ?side4 ?side5 ?side6 ?side7 ?side8 A46.out).mono ?_
 (case side1 => repeat (first | exact (Kd.R_reads' HO_1255003.out).2.2 | (with_reducible refine Kd.C_alloc ?_ _) | (with_reducible refine Kd.C_drewN ?_ _) | (with_reducible refine Kd.C_drew ?_)))
 (case side2 => exact (Kd.R_reads' HO_1255003.out).2.1)
 (case side3 => repeat (first | exact (Kd.R_reads' HO_1255004.out).2.2 | (with_reducible refine Kd.C_alloc ?_ _) | (with_reducible refine Kd.C_drewN ?_ _) | (with_reducible refine Kd.C_drew ?_)))
 (case side4 => exact (Kd.R_reads' HO_1255004.out).2.1)
 (case side5 => repeat (first | exact (Kd.R_reads' HO1265.out).2.2 | (with_reducible refine Kd.C_alloc ?_ _) | (with_reducible refine Kd.C_drewN ?_ _) | (with_reducible refine Kd.C_drew ?_)))
 (case side6 => exact (Kd.R_reads' HO1265.out).2.1)
 (case side7 => repeat (first | exact (Kd.R_reads' HO1268.out).2.2 | (with_reducible refine Kd.C_alloc ?_ _) | (with_reducible refine Kd.C_drewN ?_ _) | (with_reducible refine Kd.C_drew ?_)))
 (case side8 => exact (Kd.R_reads' HO1268.out).2.1)
 rintro e w57 ⟨rfl, hb⟩
 refine ⟨_, rfl, ?_⟩
 have n0_ := Aside0.mk (Kd.R_below (by (with_reducible repeat (first | apply Kd.R_alloc | apply Kd.R_drewN | apply Kd.R_drew)); exact HO_1255003.out) hb)
 have n1_ := Aside0.mk (Kd.R_below (by (with_reducible repeat (first | apply Kd.R_alloc | apply Kd.R_drewN | apply Kd.R_drew)); exact HO_1255004.out) hb)
 have n2_ := Aside0.mk (Kd.R_below (by (with_reducible repeat (first | apply Kd.R_alloc | apply Kd.R_drewN | apply Kd.R_drew)); exact HO1265.out) hb)
 have n3_ := Aside0.mk (Kd.R_below (by (with_reducible repeat (first | apply Kd.R_alloc | apply Kd.R_drewN | apply Kd.R_drew)); exact HO1268.out) hb)
 have n4_ := Aside0.mk (blk_below (g := gb1224) (o := .cells #[.int .i64 a1_0, .int .i64 a1_1, .int .i64 a1_2, .slice A1_3 l1_3.length c1_3, .slice A1_4 l1_4.length c1_4, .int .i64 a1_5] 65 (0, 0)) (by (with_reducible repeat (first | refine blk_drewN ?_ _ | refine blk_drew ?_ | refine blk_alloc ?_ _)); exact BK1224.out) hb)
 have n5_ := Aside0.mk (blk_below (g := gb1254) (o := .cells #[.int .i64 t1244, .int .i64 t1245, .int .i64 t1246, .slice Ao33 t1247.length co33, .slice Ao34 t1250.length co34, .int .i64 t1253] 71 (0, 0)) (by (with_reducible repeat (first | refine blk_drewN ?_ _ | refine blk_drew ?_ | refine blk_alloc ?_ _)); exact BK1254.out) hb)
 have n6_ := Aside0.mk (below_step (by repeat (first | (with_reducible first | exact HB.out | apply below_alloc | apply pw_below_drewN | apply below_drew1 | refine below_set ?_ GE1224.out | refine below_set ?_ GE1254.out) | exact HB.out)) hb)
 clear HO_1255003 HO_1255004 HO1265 HO1268 BK1224 BK1254 HB
 have HO_1255003 := n0_
 have HO_1255004 := n1_
 have HO1265 := n2_
 have HO1268 := n3_
 have BK1224 := n4_
 have BK1254 := n5_
 have HB := n6_
 clear n0_ n1_ n2_ n3_ n4_ n5_ n6_
 (try clear hb)
 (try clear hb2)
 (try clear hk)
 (try clear hi)
 refine hK.out _ _ ⟨(blk_cell BK1254.out 0).trans rfl, (blk_cell BK1254.out 1).trans rfl, (blk_cell BK1254.out 2).trans rfl, (blk_cell BK1254.out 3).trans rfl, (blk_cell BK1254.out 4).trans rfl, (blk_cell BK1254.out 5).trans rfl, (blk_cell BK1224.out 0).trans rfl, (blk_cell BK1224.out 1).trans rfl, (blk_cell BK1224.out 2).trans rfl, (blk_cell BK1224.out 3).trans rfl, (blk_cell BK1224.out 4).trans rfl, (blk_cell BK1224.out 5).trans rfl⟩ (fun hHeld => ?_)
 clear hK K
 refine norm_ (a' := ?_) ?_ ?_
 rotate_left
 · show Act.put _ (some 43) _ = _
   simp only [Act.put, List.setIfInBounds_toArray, List.set_cons_zero, List.set_cons_succ, i64_w, i32_w]
   rfl
 refine pure_ (i := 4) (N := some 44) (v := ?_) (a' := ?_) #[true, true, true, true, true] rfl rfl (by kernel_rfl) (fun _ _ _ h => h) (Or.inl ⟨by rfl, ?_⟩) ?_ ?_
 rotate_left
 · intro w'
   go_simp
   with_reducible rfl
 rotate_left
 · simp only [Act.put, List.setIfInBounds_toArray, List.set_cons_zero, List.set_cons_succ, i64_w, i32_w]
   rfl
 refine done_ (by kernel_rfl) ?_
 try go_wp2
 go_ret
 exact ⟨by first | rfl | (simp [errW_none, errW_some] <;> rfl) | (simp [*, errW_none, errW_some] <;> rfl), by repeat (first | (with_reducible first | exact HB.out | apply below_alloc | apply pw_below_drewN | apply below_drew1 | refine below_set ?_ GE1224.out | refine below_set ?_ GE1254.out) | exact HB.out)⟩

end Go.Proofs.Ytppmalfpggkpdaa.P

namespace Go.Proofs.Ytppmalfpggkpdaa.P
open Go.RowKit
/-- THE ONE PURE STATEMENT of laws_FnExactMachOk. -/
def laws_FnExactMachOk.Pure : Prop := ∀ (x0 : List (S95)) (x1 : S65), (x0.length * 48 ≤ 140737488351232 ∧ ∀ y1 ∈ x0, Ok95 y1) → Ok65 x1 → ∃ k, laws_FnExactMachOk.f k x0 x1.f0.f0 x1.f0.f1 x1.f1 x1.f2 x1.f3 x1.f4 = some true
end Go.Proofs.Ytppmalfpggkpdaa.P

/- What the comparisons compute: two lists alike, place by place. -/
namespace Go.Proofs.Ytppmalfpggkpdaa.L
open Go.RowKit Go.Proofs.YtppmalfpggkpdaaW.PrintWords Go.Proofs.YtppmalfpggkpdaaW.PrintLast Go.Proofs.YtppmalfpggkpdaaW.PrintMore Go.Proofs.Ytppmalfpggkpdaa.P
set_option linter.unusedVariables false
set_option linter.unusedSimpArgs false

def insSame (x y : S110) : Bool := (x.f0 == y.f0) && ((x.f1 == y.f1) && (x.f2.toList == y.f2.toList))
def funSame (x y : S52) : Bool := (x.f0.toList == y.f0.toList) && ((x.f1 == y.f1) && all2 insSame x.f2 y.f2)
def unitSame (l m : List S52) : Bool := all2 funSame l m
def intSame (a b : Int) : Bool := a == b
theorem insSame_refl (x : S110) : insSame x x = true := by simp [insSame]
theorem funSame_refl (x : S52) : funSame x x = true := by simp [funSame, all2_refl insSame _ (fun y _ => insSame_refl y)]
theorem unitSame_refl (l : List S52) : unitSame l l = true := all2_refl _ _ (fun x _ => funSame_refl x)
theorem intSame_refl (a : Int) : intSame a a = true := by simp [intSame]
theorem laws_eqIntS_f (l m : List Int) (hn : l.length ≤ 9223372036854775807) (k : Nat) (hk : l.length < k) : laws_eqIntS.f k l m = some (all2 intSame l m) := by
  unfold laws_eqIntS.f
  by_cases hl : l.length = m.length
  · rw [if_pos (by omega)]
    refine loop_all2 intSame 0 0 l m hl hn (fun k i => laws_eqIntS.l0 k l m i) 0 ?_ ?_ ?_ k (by omega)
    · intro k i hK hi hq
      have hi' : i < m.length := by omega
      simp only [laws_eqIntS.l0]
      rw [if_pos (by omega), if_pos (by omega), if_pos (by omega)]
      rw [if_pos (show rd l (i : Int) = rd m (i : Int) from beq_iff_eq.mp hq)]
    · intro k i hK hi hq
      have hi' : i < m.length := by omega
      simp only [laws_eqIntS.l0]
      rw [if_pos (by omega), if_pos (by omega), if_pos (by omega)]
      rw [if_neg (show ¬ (rd l (i : Int) = rd m (i : Int)) from beq_eq_false_iff_ne.mp hq)]
    · intro k hK
      simp only [laws_eqIntS.l0]
      rw [if_neg (by omega)]
  · rw [if_neg (by omega), all2_len _ _ _ hl]
def spotSame (x y : S68) : Bool := (x.f0 == y.f0) && (x.f1 == y.f1)
theorem spotSame_refl (x : S68) : spotSame x x = true := by simp [spotSame]
end Go.Proofs.Ytppmalfpggkpdaa.L
namespace Go.Proofs.Ytppmalfpggkpdaa.L
open Go.RowKit Go.Proofs.YtppmalfpggkpdaaW.PrintWords Go.Proofs.YtppmalfpggkpdaaW.PrintLast Go.Proofs.YtppmalfpggkpdaaW.PrintMore Go.Proofs.Ytppmalfpggkpdaa.P
set_option linter.unusedVariables false
set_option linter.unusedSimpArgs false

/-- What is left of a bound behind a list. -/
def szL {α : Type} (g : α → Int → Int) (l : List α) (s : Int) : Int := if s < l.length then -1 else szFold g l (s - l.length)
theorem szL_le {α : Type} (g : α → Int → Int) (h : ∀ x s, 0 ≤ s → -1 ≤ g x s ∧ g x s ≤ s) (l : List α) (s : Int) (hs : 0 ≤ s) : -1 ≤ szL g l s ∧ szL g l s ≤ s := by
  unfold szL
  split
  · omega
  · have := szFold_le g h l (s - l.length) (by omega)
    omega
/-- What is left behind a text. -/
def szS (a : ByteArray) (s : Int) : Int := if s < a.size then -1 else s - a.size
theorem szS_le (a : ByteArray) (s : Int) (hs : 0 ≤ s) : -1 ≤ szS a s ∧ szS a s ≤ s := by
  unfold szS
  split <;> omega
/-- How far a text may go. -/
abbrev Fits (s : ByteArray) : Prop := s.size ≤ 140737488351232
theorem szS_wrap (a : ByteArray) (s : Int) (ha : Fits a) (h0 : 0 ≤ s) (h1 : s ≤ 1048576) : (if (wrap64 (s - (a.size : Int))) < 0 then (-1 : Int) else (wrap64 (s - (a.size : Int)))) = szS a s := by
  rw [wrap_id (by omega) (by omega)]
  unfold szS
  by_cases h : s < a.size
  · rw [if_pos (by omega), if_pos h]
  · rw [if_neg (by omega), if_neg h]
theorem len_wrap {s : Int} {n : Nat} (hn : n ≤ 140737488351232) (h0 : 0 ≤ s) (h1 : s ≤ 1048576) : wrap64 (s - (n : Int)) = s - n := wrap_id (by omega) (by omega)
def gIns (x : S154) (s : Int) : Int := szS x.f2 s
theorem gIns_le (x : S154) (s : Int) (h : 0 ≤ s) : -1 ≤ gIns x s ∧ gIns x s ≤ s := szS_le _ _ h
def FitsIns (x : S154) : Prop := Fits x.f2
theorem laws_szIns_g (x : S154) (hx : FitsIns x) (s : Int) (h0 : 0 ≤ s) (h1 : s ≤ 1048576) : laws_szIns.f x.f0 x.f1 x.f2 s = some (gIns x s) := by
  unfold laws_szIns.f gIns
  rw [← szS_wrap x.f2 s hx h0 h1]
  split <;> rfl
theorem laws_szInsS_f (l : List S154) (hn : l.length ≤ 140737488351232) (hx : ∀ x ∈ l, FitsIns x) (s : Int) (h0 : 0 ≤ s) (h1 : s ≤ 1048576) (k : Nat) (hk : l.length < k) : laws_szInsS.f k l s = some (szL gIns l s) := by
  unfold laws_szInsS.f szL
  rw [len_wrap hn h0 h1]
  by_cases h : s < l.length
  · rw [if_pos (by omega), if_pos h]
  · rw [if_neg (by omega), if_neg h]
    refine loop_sz l z154 gIns gIns_le (by omega) (fun k s i => laws_szInsS.l0 k l s i) 0 ?_ ?_ (s - l.length) (by omega) (by omega) k (by omega)
    · intro k i s _ hi h0 h1
      simp only [laws_szInsS.l0]
      rw [if_pos (by omega), if_pos (by omega), laws_szIns_g (rd_T154 l (i : Int)) (hx _ (getD_mem hi)) s h0 h1]
      rfl
    · intro k s _
      simp only [laws_szInsS.l0]
      rw [if_neg (by omega)]
def gFun (x : S95) (s : Int) : Int := if szS x.f0 s < 0 then -1 else szL gIns x.f2 (szS x.f0 s)
theorem gFun_le (x : S95) (s : Int) (h : 0 ≤ s) : -1 ≤ gFun x s ∧ gFun x s ≤ s := by
  unfold gFun
  have := szS_le x.f0 s h
  split
  · omega
  · have := szL_le gIns gIns_le x.f2 (szS x.f0 s) (by omega)
    omega
def FitsFun (x : S95) : Prop := Fits x.f0 ∧ x.f2.length ≤ 140737488351232 ∧ ∀ y ∈ x.f2, FitsIns y
theorem laws_szFun_g (x : S95) (hx : FitsFun x) (s : Int) (h0 : 0 ≤ s) (h1 : s ≤ 1048576) (k : Nat) (hk : x.f2.length < k) : laws_szFun.f k x.f0 x.f1 x.f2 s = some (gFun x s) := by
  unfold laws_szFun.f gFun
  have e := szS_wrap x.f0 s hx.1 h0 h1
  have hb := szS_le x.f0 s h0
  have hs := hx.1
  have w : wrap64 (s - (x.f0.size : Int)) = s - x.f0.size := wrap_id (by have : x.f0.size ≤ 140737488351232 := hs; omega) (by omega)
  rw [w] at e ⊢
  by_cases h : s - (x.f0.size : Int) < 0
  · rw [if_pos h] at e ⊢
    rw [← e, if_pos (by omega)]
  · rw [if_neg h] at e ⊢
    rw [← e, if_neg h, laws_szInsS_f x.f2 hx.2.1 hx.2.2 _ (by omega) (by omega) k hk]
    simp only [Option.bind_some]
    have := szL_le gIns gIns_le x.f2 (s - x.f0.size) (by omega)
    split
    · congr 1; omega
    · rfl
theorem laws_szFunS_f (l : List S95) (hn : l.length ≤ 140737488351232) (hx : ∀ x ∈ l, FitsFun x) (B : Nat) (hB : ∀ x ∈ l, x.f2.length < B) (s : Int) (h0 : 0 ≤ s) (h1 : s ≤ 1048576) (k : Nat) (hk : B + l.length < k) : laws_szFunS.f k l s = some (szL gFun l s) := by
  unfold laws_szFunS.f szL
  rw [len_wrap hn h0 h1]
  by_cases h : s < l.length
  · rw [if_pos (by omega), if_pos h]
  · rw [if_neg (by omega), if_neg h]
    refine loop_sz l z95 gFun gFun_le (by omega) (fun k s i => laws_szFunS.l0 k l s i) B ?_ ?_ (s - l.length) (by omega) (by omega) k (by omega)
    · intro k i s hK hi h0 h1
      simp only [laws_szFunS.l0]
      rw [if_pos (by omega), if_pos (by omega), laws_szFun_g (rd_T95 l (i : Int)) (hx _ (getD_mem hi)) s h0 h1 k (by have := hB _ (getD_mem (d := z95) hi); exact Nat.lt_of_lt_of_le this hK)]
      rfl
    · intro k s _
      simp only [laws_szFunS.l0]
      rw [if_neg (by omega)]
def gFunS (l : List S95) (s : Int) : Int := szL gFun l s
theorem gFunS_le (l : List S95) (s : Int) (h : 0 ≤ s) : -1 ≤ gFunS l s ∧ gFunS l s ≤ s := szL_le _ gFun_le _ _ h
def FitsUnit (B : Nat) (u : List S95) : Prop := u.length ≤ 140737488351232 ∧ (∀ x ∈ u, FitsFun x) ∧ ∀ x ∈ u, x.f2.length < B
theorem laws_szFunS_g (B : Nat) (l : List S95) (hl : FitsUnit B l) (s : Int) (h0 : 0 ≤ s) (h1 : s ≤ 1048576) (k : Nat) (hk : B + l.length < k) : laws_szFunS.f k l s = some (gFunS l s) := laws_szFunS_f l hl.1 hl.2.1 B hl.2.2 s h0 h1 k hk
def szN (n : Nat) (s : Int) : Int := if s < n then -1 else s - n
theorem szN_le (n : Nat) (s : Int) (hs : 0 ≤ s) : -1 ≤ szN n s ∧ szN n s ≤ s := by
  unfold szN
  split <;> omega
theorem laws_szIntS_f (l : List Int) (hn : l.length ≤ 140737488351232) (s : Int) (h0 : 0 ≤ s) (h1 : s ≤ 1048576) : laws_szIntS.f l s = some (szN l.length s) := by
  unfold laws_szIntS.f szN
  rw [len_wrap hn h0 h1]
  by_cases h : s < l.length
  · rw [if_pos (by omega), if_pos h]
  · rw [if_neg (by omega), if_neg h]
theorem laws_szSpotS_f (l : List S61) (hn : l.length ≤ 140737488351232) (s : Int) (h0 : 0 ≤ s) (h1 : s ≤ 1048576) : laws_szSpotS.f l s = some (szN l.length s) := by
  unfold laws_szSpotS.f szN
  rw [len_wrap hn h0 h1]
  by_cases h : s < l.length
  · rw [if_pos (by omega), if_pos h]
  · rw [if_neg (by omega), if_neg h]
def cvIns (x : S154) : S110 := ⟨x.f0, x.f1, x.f2⟩
theorem laws_toIns_c (x : S154) : laws_toIns.f x.f0 x.f1 x.f2 = some (x.f0, x.f1, x.f2) := rfl
theorem laws_toInsS_f (l : List S154) (hn : l.length ≤ 8796093022208) (k : Nat) (hk : l.length < k) : laws_toInsS.f k l = some (l.map cvIns) := by
  unfold laws_toInsS.f
  rw [if_pos (by omega), if_pos (by omega)]
  refine loop_fill l z154 z110 cvIns (by omega) (fun k acc i => laws_toInsS.l0 k l acc i) 0 ?_ ?_ k (by omega)
  · intro k i acc hK hi ha
    simp only [laws_toInsS.l0]
    rw [if_pos (by omega), if_pos (by omega), laws_toIns_c (rd_T154 l (i : Int))]
    simp only [Option.bind_some]
    rw [if_pos (by omega)]
    rfl
  · intro k acc _
    simp only [laws_toInsS.l0]
    rw [if_neg (by omega)]
def cvFun (x : S95) : S52 := ⟨x.f0, x.f1, x.f2.map cvIns⟩
theorem laws_toFun_c (x : S95) (hn : x.f2.length ≤ 8796093022208) (k : Nat) (hk : x.f2.length < k) : laws_toFun.f k x.f0 x.f1 x.f2 = some (x.f0, x.f1, x.f2.map cvIns) := by
  unfold laws_toFun.f
  rw [laws_toInsS_f x.f2 hn k hk]
  rfl
theorem laws_toFunS_f (l : List S95) (hn : l.length ≤ 5864062014805) (hx : ∀ x ∈ l, x.f2.length ≤ 8796093022208) (B : Nat) (hB : ∀ x ∈ l, x.f2.length < B) (k : Nat) (hk : B + l.length < k) : laws_toFunS.f k l = some (l.map cvFun) := by
  unfold laws_toFunS.f
  rw [if_pos (by omega), if_pos (by omega)]
  refine loop_fill l z95 z52 cvFun (by omega) (fun k acc i => laws_toFunS.l0 k l acc i) B ?_ ?_ k (by omega)
  · intro k i acc hK hi ha
    simp only [laws_toFunS.l0]
    rw [if_pos (by omega), if_pos (by omega), laws_toFun_c (rd_T95 l (i : Int)) (hx _ (getD_mem hi)) k (by have := hB _ (getD_mem (d := z95) hi); exact Nat.lt_of_lt_of_le this hK)]
    simp only [Option.bind_some]
    rw [if_pos (by omega)]
    rfl
  · intro k acc _
    simp only [laws_toFunS.l0]
    rw [if_neg (by omega)]
def FitsMake (B : Nat) (u : List S95) : Prop := u.length ≤ 5864062014805 ∧ (∀ x ∈ u, x.f2.length ≤ 8796093022208) ∧ ∀ x ∈ u, x.f2.length < B
theorem laws_toFunS_c (B : Nat) (l : List S95) (hl : FitsMake B l) (k : Nat) (hk : B + l.length < k) : laws_toFunS.f k l = some (l.map cvFun) := laws_toFunS_f l hl.1 hl.2.1 B hl.2.2 k hk
theorem laws_toIntS_f (l : List Int) (hn : l.length ≤ 35184372088832) (k : Nat) (hk : l.length < k) : laws_toIntS.f k l = some (l.map id) := by
  unfold laws_toIntS.f
  rw [if_pos (by omega), if_pos (by omega)]
  refine loop_fill l 0 0 id (by omega) (fun k acc i => laws_toIntS.l0 k l acc i) 0 ?_ ?_ k (by omega)
  · intro k i acc hK hi ha
    simp only [laws_toIntS.l0]
    rw [if_pos (by omega), if_pos (by omega), if_pos (by omega)]
    rfl
  · intro k acc _
    simp only [laws_toIntS.l0]
    rw [if_neg (by omega)]
def cvSpot (x : S61) : S68 := ⟨x.f0, x.f1⟩
theorem laws_toSpot_c (x : S61) : laws_toSpot.f x.f0 x.f1 = some (x.f0, x.f1) := rfl
theorem laws_toSpotS_f (l : List S61) (hn : l.length ≤ 17592186044416) (k : Nat) (hk : l.length < k) : laws_toSpotS.f k l = some (l.map cvSpot) := by
  unfold laws_toSpotS.f
  rw [if_pos (by omega), if_pos (by omega)]
  refine loop_fill l z61 z68 cvSpot (by omega) (fun k acc i => laws_toSpotS.l0 k l acc i) 0 ?_ ?_ k (by omega)
  · intro k i acc hK hi ha
    simp only [laws_toSpotS.l0]
    rw [if_pos (by omega), if_pos (by omega), laws_toSpot_c (rd_T61 l (i : Int))]
    simp only [Option.bind_some]
    rw [if_pos (by omega)]
    rfl
  · intro k acc _
    simp only [laws_toSpotS.l0]
    rw [if_neg (by omega)]
theorem laws_eqIns_f (x y : S110) : laws_eqIns.f x.f0 x.f1 x.f2 y.f0 y.f1 y.f2 = some (insSame x y) := by
  unfold laws_eqIns.f insSame
  by_cases h0 : x.f0 = y.f0
  · rw [if_pos h0, beq_iff_eq.mpr h0]
    by_cases h1 : x.f1 = y.f1
    · rw [if_pos h1, beq_iff_eq.mpr h1]
      by_cases h2 : x.f2.toList = y.f2.toList
      · rw [if_pos h2, beq_iff_eq.mpr h2]; rfl
      · rw [if_neg h2, beq_eq_false_iff_ne.mpr h2]; rfl
    · rw [if_neg h1, beq_eq_false_iff_ne.mpr h1]; rfl
  · rw [if_neg h0, beq_eq_false_iff_ne.mpr h0]; rfl
theorem laws_eqInsS_f (l m : List S110) (hn : l.length ≤ 9223372036854775807) (k : Nat) (hk : l.length < k) : laws_eqInsS.f k l m = some (all2 insSame l m) := by
  unfold laws_eqInsS.f
  by_cases hl : l.length = m.length
  · rw [if_pos (by omega)]
    refine loop_all2 insSame z110 z110 l m hl hn (fun k i => laws_eqInsS.l0 k l m i) 0 ?_ ?_ ?_ k (by omega)
    · intro k i hK hi hq
      have hi' : i < m.length := by omega
      simp only [laws_eqInsS.l0]
      rw [if_pos (by omega), if_pos (by omega), if_pos (by omega)]
      have e := laws_eqIns_f (rd_T110 l (i : Int)) (rd_T110 m (i : Int))
      rw [show insSame (rd_T110 l (i : Int)) (rd_T110 m (i : Int)) = true from hq] at e
      rw [e]
      rfl
    · intro k i hK hi hq
      have hi' : i < m.length := by omega
      simp only [laws_eqInsS.l0]
      rw [if_pos (by omega), if_pos (by omega), if_pos (by omega)]
      have e := laws_eqIns_f (rd_T110 l (i : Int)) (rd_T110 m (i : Int))
      rw [show insSame (rd_T110 l (i : Int)) (rd_T110 m (i : Int)) = false from hq] at e
      rw [e]
      rfl
    · intro k hK
      simp only [laws_eqInsS.l0]
      rw [if_neg (by omega)]
  · rw [if_neg (by omega), all2_len _ _ _ hl]
theorem laws_eqFun_f (x y : S52) (hn : x.f2.length ≤ 9223372036854775807) (k : Nat) (hk : x.f2.length < k) : laws_eqFun.f k x.f0 x.f1 x.f2 y.f0 y.f1 y.f2 = some (funSame x y) := by
  unfold laws_eqFun.f
  rw [laws_eqInsS_f x.f2 y.f2 hn k hk]
  by_cases h : x.f0.toList = y.f0.toList
  · rw [if_pos h]
    cases h2 : (x.f1 == y.f1) with
    | true =>
      rw [if_neg (by simp only [bne, h2]; decide)]
      cases h3 : all2 insSame x.f2 y.f2 <;> simp [funSame, h, h2, h3]
    | false =>
      rw [if_pos (by simp only [bne, h2]; decide)]
      simp [funSame, h, h2]
  · rw [if_neg h]
    simp [funSame, beq_eq_false_iff_ne.mpr h]
theorem laws_eqFunS_f (l m : List S52) (hn : l.length ≤ 9223372036854775807) (B : Nat) (hB : B ≤ 9223372036854775807) (hb : ∀ x ∈ l, x.f2.length < B) (k : Nat) (hk : B + l.length < k) : laws_eqFunS.f k l m = some (all2 funSame l m) := by
  unfold laws_eqFunS.f
  by_cases hl : l.length = m.length
  · rw [if_pos (by omega)]
    refine loop_all2 funSame z52 z52 l m hl hn (fun k i => laws_eqFunS.l0 k l m i) B ?_ ?_ ?_ k (by omega)
    · intro k i hK hi hq
      have hi' : i < m.length := by omega
      simp only [laws_eqFunS.l0]
      rw [if_pos (by omega), if_pos (by omega), if_pos (by omega)]
      have e := laws_eqFun_f (rd_T52 l (i : Int)) (rd_T52 m (i : Int)) (by have := hb _ (getD_mem (d := z52) hi); have e0 : rd_T52 l (i : Int) = l.getD i z52 := rfl; rw [e0]; omega) k (by have := hb _ (getD_mem (d := z52) hi); have e0 : rd_T52 l (i : Int) = l.getD i z52 := rfl; rw [e0]; omega)
      rw [show funSame (rd_T52 l (i : Int)) (rd_T52 m (i : Int)) = true from hq] at e
      rw [e]
      rfl
    · intro k i hK hi hq
      have hi' : i < m.length := by omega
      simp only [laws_eqFunS.l0]
      rw [if_pos (by omega), if_pos (by omega), if_pos (by omega)]
      have e := laws_eqFun_f (rd_T52 l (i : Int)) (rd_T52 m (i : Int)) (by have := hb _ (getD_mem (d := z52) hi); have e0 : rd_T52 l (i : Int) = l.getD i z52 := rfl; rw [e0]; omega) k (by have := hb _ (getD_mem (d := z52) hi); have e0 : rd_T52 l (i : Int) = l.getD i z52 := rfl; rw [e0]; omega)
      rw [show funSame (rd_T52 l (i : Int)) (rd_T52 m (i : Int)) = false from hq] at e
      rw [e]
      rfl
    · intro k hK
      simp only [laws_eqFunS.l0]
      rw [if_neg (by omega)]
  · rw [if_neg (by omega), all2_len _ _ _ hl]
theorem laws_eqSpot_f (x y : S68) : laws_eqSpot.f x.f0 x.f1 y.f0 y.f1 = some (spotSame x y) := by
  unfold laws_eqSpot.f spotSame
  by_cases h0 : x.f0 = y.f0
  · rw [if_pos h0, beq_iff_eq.mpr h0]
    by_cases h1 : x.f1 = y.f1
    · rw [if_pos h1, beq_iff_eq.mpr h1]; rfl
    · rw [if_neg h1, beq_eq_false_iff_ne.mpr h1]; rfl
  · rw [if_neg h0, beq_eq_false_iff_ne.mpr h0]; rfl
theorem laws_eqSpotS_f (l m : List S68) (hn : l.length ≤ 9223372036854775807) (k : Nat) (hk : l.length < k) : laws_eqSpotS.f k l m = some (all2 spotSame l m) := by
  unfold laws_eqSpotS.f
  by_cases hl : l.length = m.length
  · rw [if_pos (by omega)]
    refine loop_all2 spotSame z68 z68 l m hl hn (fun k i => laws_eqSpotS.l0 k l m i) 0 ?_ ?_ ?_ k (by omega)
    · intro k i hK hi hq
      have hi' : i < m.length := by omega
      simp only [laws_eqSpotS.l0]
      rw [if_pos (by omega), if_pos (by omega), if_pos (by omega)]
      have e := laws_eqSpot_f (rd_T68 l (i : Int)) (rd_T68 m (i : Int))
      rw [show spotSame (rd_T68 l (i : Int)) (rd_T68 m (i : Int)) = true from hq] at e
      rw [e]
      rfl
    · intro k i hK hi hq
      have hi' : i < m.length := by omega
      simp only [laws_eqSpotS.l0]
      rw [if_pos (by omega), if_pos (by omega), if_pos (by omega)]
      have e := laws_eqSpot_f (rd_T68 l (i : Int)) (rd_T68 m (i : Int))
      rw [show spotSame (rd_T68 l (i : Int)) (rd_T68 m (i : Int)) = false from hq] at e
      rw [e]
      rfl
    · intro k hK
      simp only [laws_eqSpotS.l0]
      rw [if_neg (by omega)]
  · rw [if_neg (by omega), all2_len _ _ _ hl]
end Go.Proofs.Ytppmalfpggkpdaa.L
namespace Go.Proofs.Ytppmalfpggkpdaa.L
open Go.RowKit Go.Proofs.YtppmalfpggkpdaaW.PrintWords Go.Proofs.YtppmalfpggkpdaaW.PrintLast Go.Proofs.YtppmalfpggkpdaaW.PrintMore Go.Proofs.Ytppmalfpggkpdaa.P
set_option linter.unusedVariables false
set_option linter.unusedSimpArgs false
theorem ok_fits {x : S95} (h : Ok95 x) : FitsFun x := ⟨h.1, by have := h.2.2.1; omega, fun y hy => (h.2.2.2 y hy).2.2⟩
theorem ok_len {x : S95} (h : Ok95 x) : x.f2.length ≤ 4398046511104 := by have := h.2.2.1; omega
def OkU (l : List S95) : Prop := l.length * 48 ≤ 140737488351232 ∧ ∀ x ∈ l, Ok95 x
theorem OkU.len {l : List S95} (h : OkU l) : l.length ≤ 2932031007402 := by have := h.1; omega
theorem OkU.fits {l : List S95} (h : OkU l) : FitsUnit 4398046511105 l := ⟨by have := h.len; omega, fun x hx => ok_fits (h.2 x hx), fun x hx => by have := ok_len (h.2 x hx); omega⟩
theorem OkU.make {l : List S95} (h : OkU l) : FitsMake 4398046511105 l := ⟨by have := h.len; omega, fun x hx => by have := ok_len (h.2 x hx); omega, fun x hx => by have := ok_len (h.2 x hx); omega⟩
theorem a_szFunS {l : List S95} (h : OkU l) (s : Int) (h0 : 0 ≤ s) (h1 : s ≤ 1048576) (k : Nat) (hk : 10000000000000000 ≤ k) : laws_szFunS.f k l s = some (gFunS l s) :=
  laws_szFunS_g _ l h.fits s h0 h1 k (by have := h.len; omega)
theorem a_toFunS {l : List S95} (h : OkU l) (k : Nat) (hk : 10000000000000000 ≤ k) : laws_toFunS.f k l = some (l.map cvFun) :=
  laws_toFunS_c _ l h.make k (by have := h.len; omega)
theorem cv_len {l : List S95} (h : OkU l) : ∀ x ∈ l.map cvFun, x.f2.length < 4398046511105 := by
  intro x hx
  obtain ⟨y, hy, rfl⟩ := List.mem_map.1 hx
  simp only [cvFun, List.length_map]
  have := ok_len (h.2 y hy)
  omega
theorem a_eqFunS {l : List S95} (h : OkU l) (k : Nat) (hk : 10000000000000000 ≤ k) : laws_eqFunS.f k (l.map cvFun) (l.map cvFun) = some true := by
  rw [laws_eqFunS_f _ _ (by simp only [List.length_map]; have := h.len; omega) 4398046511105 (by decide) (cv_len h) k (by simp only [List.length_map]; have := h.len; omega)]
  exact congrArg some (unitSame_refl _)
def gMach (x : S65) (s : Int) : Int := if szN x.f2.length s < 0 then -1 else szN x.f3.length (szN x.f2.length s)
theorem mach_len {x : S65} (h : Ok65 x) : x.f2.length ≤ 8796093021952 ∧ x.f3.length ≤ 17592186043904 := ⟨by have := h.2.2.1.1; omega, by have := h.2.2.2.1.1; omega⟩
theorem a_szMach {x : S65} (h : Ok65 x) (s : Int) (h0 : 0 ≤ s) (h1 : s ≤ 1048576) : laws_szMach.f x.f0.f0 x.f0.f1 x.f1 x.f2 x.f3 x.f4 s = some (gMach x s) := by
  have hl := mach_len h
  unfold laws_szMach.f gMach
  rw [laws_szSpotS_f x.f2 (by omega) s h0 h1]
  simp only [Option.bind_some]
  have b := szN_le x.f2.length s h0
  by_cases c : szN x.f2.length s < 0
  · rw [if_pos c, if_pos c]
  · rw [if_neg c, if_neg c, laws_szIntS_f x.f3 (by omega) _ (by omega) (by omega)]
    simp only [Option.bind_some]
    have := szN_le x.f3.length (szN x.f2.length s) (by omega)
    split
    · congr 1; omega
    · rfl
theorem a_toMach {x : S65} (h : Ok65 x) (k : Nat) (hk : 10000000000000000 ≤ k) : laws_toMach.f k x.f0.f0 x.f0.f1 x.f1 x.f2 x.f3 x.f4 = some (x.f0.f0, x.f0.f1, x.f1, x.f2.map cvSpot, x.f3, x.f4) := by
  have hl := mach_len h
  unfold laws_toMach.f
  rw [laws_toSpot_c x.f0, laws_toSpotS_f x.f2 (by omega) k (by omega), laws_toIntS_f x.f3 (by omega) k (by omega)]
  simp
theorem a_eqMach {x : S65} (h : Ok65 x) (k : Nat) (hk : 10000000000000000 ≤ k) : laws_eqMach.f k x.f0.f0 x.f0.f1 x.f1 (x.f2.map cvSpot) x.f3 x.f4 x.f0.f0 x.f0.f1 x.f1 (x.f2.map cvSpot) x.f3 x.f4 = some true := by
  have hl := mach_len h
  unfold laws_eqMach.f
  have e0 := laws_eqSpot_f (cvSpot x.f0) (cvSpot x.f0)
  rw [spotSame_refl] at e0
  rw [show laws_eqSpot.f x.f0.f0 x.f0.f1 x.f0.f0 x.f0.f1 = some true from e0, laws_eqSpotS_f _ _ (by simp only [List.length_map]; omega) k (by simp only [List.length_map]; omega), laws_eqIntS_f x.f3 x.f3 (by omega) k (by omega)]
  have e1 : all2 spotSame (x.f2.map cvSpot) (x.f2.map cvSpot) = true := all2_refl _ _ (fun a _ => spotSame_refl a)
  have e2 : all2 intSame x.f3 x.f3 = true := all2_refl _ _ (fun a _ => intSame_refl a)
  simp only [Option.bind_some, e1, e2, if_true]
end Go.Proofs.Ytppmalfpggkpdaa.L
namespace Go.Proofs.Ytppmalfpggkpdaa.L
open Go.RowKit Go.Proofs.YtppmalfpggkpdaaW.PrintWords Go.Proofs.YtppmalfpggkpdaaW.PrintLast Go.Proofs.YtppmalfpggkpdaaW.PrintMore Go.Proofs.Ytppmalfpggkpdaa.P
theorem fit_cv {x : S95} (h : Ok95 x) : FitF (cvFun x) := by
  refine ⟨h.1, ?_, fun y hy => ?_⟩
  · simp only [cvFun, List.length_map]
    have := ok_len h
    omega
  · obtain ⟨z, hz, rfl⟩ := List.mem_map.1 hy
    exact (h.2.2.2 z hz).2.2
theorem fits_cv {l : List S95} (h : OkU l) : ∀ x ∈ l.map cvFun, FitF x := by
  intro x hx
  obtain ⟨y, hy, rfl⟩ := List.mem_map.1 hx
  exact fit_cv (h.2 y hy)
end Go.Proofs.Ytppmalfpggkpdaa.L

/- What spec.MachOk computes. -/
namespace Go.Proofs.Ytppmalfpggkpdaa.L
open Go.RowKit Go.Proofs.Ytppmalfpggkpdaa.P Go.Proofs.YtppmalfpggkpdaaW.PrintWords
set_option linter.unusedVariables false
theorem spec_l5Spot_f (l : List S52) (a b : Int) : spec_l5Spot.f l a b = some (spotB l a b) := by
  unfold spec_l5Spot.f spotB
  by_cases h0 : 0 ≤ a
  · by_cases h1 : a < (l.length : Int)
    · by_cases h2 : 0 ≤ b
      · rw [if_pos h0, if_pos h1, if_pos h2, if_pos h0, decide_eq_true h0, decide_eq_true h1, decide_eq_true h2]; rfl
      · rw [if_pos h0, if_pos h1, if_neg h2, decide_eq_false h2, Bool.false_and, Bool.and_false]
    · rw [if_pos h0, if_neg h1, decide_eq_false h1, Bool.and_false, Bool.false_and]
  · rw [if_neg h0, decide_eq_false h0, Bool.false_and, Bool.false_and]
def cutV (a : Int) : Int := if 1000 < a then 1000 else if a < -1000 then -1000 else a
theorem spec_l1Cut_f (a : Int) : spec_l1Cut.f a = some (cutV a) := by
  unfold spec_l1Cut.f spec_l1Min.f spec_l1Max.f cutV
  by_cases h : 1000 < a
  · rw [if_pos h, if_pos h]; rfl
  · rw [if_neg h, if_neg h]
    simp only [Option.bind_some]
    by_cases h2 : a < -1000
    · rw [if_pos (by omega), if_pos h2]; rfl
    · rw [if_neg (by omega), if_neg h2]; rfl
theorem cutV_eq (a : Int) : (cutV a = a) ↔ numB a = true := by
  unfold cutV numB
  rw [Bool.and_eq_true, decide_eq_true_eq, decide_eq_true_eq]
  by_cases h : 1000 < a
  · rw [if_pos h]; omega
  · rw [if_neg h]
    by_cases h2 : a < -1000
    · rw [if_pos h2]; omega
    · rw [if_neg h2]; omega
theorem spec_MachOk_l1 (a0 a1 a2 : Int) (l3 : List S68) (l4 : List Int) (a5 : Int) (h4 : l4.length ≤ 9223372036854775806) : ∀ (m k i : Nat), l4.length - i = m → i ≤ l4.length → m < k → spec_MachOk.l1 k (i : Int) a0 a1 a2 l3 l4 a5 = some ((l4.drop i).all numB) := by
  intro m
  induction m with
  | zero =>
    intro k i hm hi hk
    obtain ⟨k, rfl, _⟩ := succ_of hk
    simp only [spec_MachOk.l1]
    rw [if_neg (by omega), List.drop_eq_nil_of_le (by omega)]
    rfl
  | succ m ih =>
    intro k i hm hi hk
    obtain ⟨k, rfl, hk⟩ := succ_of hk
    simp only [spec_MachOk.l1]
    rw [if_pos (by omega), if_pos (by omega), spec_l1Cut_f, drop_getD l4 0 i (by omega)]
    simp only [Option.bind_some]
    have e : rd l4 (i : Int) = l4.getD i 0 := by simp [rd]
    rw [e, List.all_cons]
    by_cases hq : numB (l4.getD i 0) = true
    · rw [if_pos ((cutV_eq _).mpr hq), hq, Bool.true_and, wrap_id (by omega) (by omega)]
      exact ih k (i + 1) (by omega) (by omega) (by omega)
    · rw [if_neg (fun h => hq ((cutV_eq _).mp h)), Bool.not_eq_true _ |>.mp hq, Bool.false_and]
theorem spec_MachOk_l0 (p : List S52) (a0 a1 a2 : Int) (l3 : List S68) (l4 : List Int) (a5 : Int) (h3 : l3.length ≤ 9223372036854775806) (h4 : l4.length ≤ 9223372036854775806) : ∀ (m k i : Nat), l3.length - i = m → i ≤ l3.length → m + l4.length + 1 < k → spec_MachOk.l0 k p (i : Int) a0 a1 a2 l3 l4 a5 = some ((l3.drop i).all (fun s => spotB p s.f0 s.f1) && l4.all numB) := by
  intro m
  induction m with
  | zero =>
    intro k i hm hi hk
    obtain ⟨k, rfl, hk⟩ := succ_of hk
    simp only [spec_MachOk.l0]
    rw [if_neg (by omega), List.drop_eq_nil_of_le (by omega)]
    have e := spec_MachOk_l1 a0 a1 a2 l3 l4 a5 h4 l4.length k 0 (by omega) (by omega) (by omega)
    rw [List.drop_zero] at e
    exact e
  | succ m ih =>
    intro k i hm hi hk
    obtain ⟨k, rfl, hk⟩ := succ_of hk
    simp only [spec_MachOk.l0]
    rw [if_pos (by omega), if_pos (by omega), spec_l5Spot_f, drop_getD l3 z68 i (by omega)]
    simp only [Option.bind_some]
    have e : rd_T68 l3 (i : Int) = l3.getD i z68 := by simp [rd_T68]
    rw [e, List.all_cons]
    cases hq : spotB p (l3.getD i z68).f0 (l3.getD i z68).f1 with
    | true =>
      rw [if_pos rfl, Bool.true_and, wrap_id (by omega) (by omega)]
      exact ih k (i + 1) (by omega) (by omega) (by omega)
    | false => rw [if_neg (by decide), Bool.false_and, Bool.false_and]
theorem spec_MachOk_f (p : List S52) (hn : p.length ≤ 140737488351232) (hx : ∀ x ∈ p, FitF x) (a0 a1 a2 : Int) (l3 : List S68) (l4 : List Int) (a5 : Int) (h3 : l3.length ≤ 100000000000000) (h4 : l4.length ≤ 100000000000000) (k : Nat) (hk : 1000000000000000 ≤ k) : spec_MachOk.f k p a0 a1 a2 l3 l4 a5 = some (machB p a0 a1 a2 l3 l4 a5) := by
  obtain ⟨m, rfl⟩ : ∃ m, k = m + 1 := ⟨k - 1, by omega⟩
  have j (b : Bool) : spec_MachOk.j0 (m + 1) p b a0 a1 a2 l3 l4 a5 = if b = true then some false else some (l3.all (fun s => spotB p s.f0 s.f1) && l4.all numB) := by
    simp only [spec_MachOk.j0]
    have e := spec_MachOk_l0 p a0 a1 a2 l3 l4 a5 (by omega) (by omega) l3.length m 0 (by omega) (by omega) (by omega)
    rw [List.drop_zero] at e
    rw [← e]
    rfl
  unfold spec_MachOk.f machB stateB
  rw [spec_KeepOk_f p hn hx _ hk]
  simp only [Option.bind_some, j, spec_l5Spot_f, spec_l1Cut_f, if_true]
  rw [← all_not_any, ← all_not_any]
  cases keepOkB p with
  | false => rw [if_neg (by decide), Bool.false_and]
  | true =>
    rw [if_pos rfl, Bool.true_and]
    cases spotB p a0 a1 with
    | false => rw [if_neg (by decide), Bool.false_and]
    | true =>
      rw [if_pos rfl, Bool.true_and]
      by_cases hc : numB a2 = true
      · rw [if_pos ((cutV_eq _).mpr hc), hc, Bool.true_and]
        by_cases h5 : (l3.length : Int) ≤ 5
        · rw [if_neg (by omega), decide_eq_true h5, Bool.true_and]
          by_cases h30 : (l4.length : Int) ≤ 30
          · rw [if_neg (by omega), decide_eq_true h30, Bool.true_and]
            by_cases c0 : 0 ≤ a5
            · rw [if_neg (by omega), decide_eq_true c0, Bool.true_and]
              by_cases c5 : a5 ≤ 5
              · rw [if_neg (by rw [decide_eq_true_eq]; omega), decide_eq_true c5, Bool.and_true]
              · rw [if_pos (by rw [decide_eq_true_eq]; omega), decide_eq_false c5, Bool.and_false, Bool.and_false]
            · rw [if_pos (by omega), decide_eq_false c0, Bool.false_and, Bool.and_false, Bool.and_false]
          · rw [if_pos (by omega), decide_eq_false h30, Bool.false_and, Bool.and_false]
        · rw [if_pos (by omega), decide_eq_false h5, Bool.false_and, Bool.and_false]
      · rw [if_neg (fun h => hc ((cutV_eq _).mp h)), Bool.not_eq_true _ |>.mp hc, Bool.false_and, Bool.and_false]
end Go.Proofs.Ytppmalfpggkpdaa.L

/- The program's MachOk returns what the reference's returns, for all arguments. -/
namespace Go.Proofs.Ytppmalfpggkpdaa.Pure
open Go.RowKit Go.Proofs.Ytppmalfpggkpdaa.P Go.Proofs.Ytppmalfpggkpdaa.L Go.Proofs.YtppmalfpggkpdaaW.PrintWords
set_option linter.unusedVariables false
theorem FnExactMachOk : laws_FnExactMachOk.Pure := by
  intro x y h_x h_y
  replace h_x : OkU x := h_x
  obtain ⟨K, hK⟩ : ∃ K : Nat, 100000000000000000 ≤ K := ⟨_, Nat.le_refl _⟩
  refine ⟨K + 12, ?_⟩
  unfold laws_FnExactMachOk.f
  rw [a_szFunS h_x 1048576 (by decide) (by decide) _ (by omega)]
  simp only [Option.bind_some]
  have b_x := gFunS_le x 1048576 (by decide)
  by_cases c_x : gFunS x 1048576 < 0
  · rw [if_pos c_x]
  rw [if_neg c_x]
  simp only [laws_FnExactMachOk.j0]
  rw [a_szMach h_y (gFunS x 1048576) (by omega) (by omega)]
  simp only [Option.bind_some]
  by_cases c_y : gMach y (gFunS x 1048576) < 0
  · rw [if_pos c_y]
  rw [if_neg c_y]
  simp only [laws_FnExactMachOk.j1]
  rw [a_toFunS h_x _ (by omega)]
  simp only [Option.bind_some]
  rw [a_toMach h_y _ (by omega)]
  simp only [Option.bind_some]
  have hl : (x.map cvFun).length ≤ 2932031007402 := by rw [List.length_map]; exact h_x.len
  have hy := mach_len h_y
  have h3 : (y.f2.map cvSpot).length ≤ 100000000000000 := by rw [List.length_map]; omega
  have ei : impl_MachOk.f (x.map cvFun) y.f0.f0 y.f0.f1 y.f1 (y.f2.map cvSpot) y.f3 y.f4 = some (machB (x.map cvFun) y.f0.f0 y.f0.f1 y.f1 (y.f2.map cvSpot) y.f3 y.f4) := by
    unfold impl_MachOk.f
    rw [if_pos ⟨by omega, fits_cv h_x⟩]
  rw [spec_MachOk_f (x.map cvFun) (by omega) (fits_cv h_x) _ _ _ _ _ _ h3 (by omega) _ (by omega), ei]
  simp only [Option.bind_some]
  rw [if_neg (by simp)]
  simp only [laws_FnExactMachOk.j2]
  rw [a_toFunS h_x _ (by omega)]
  simp only [Option.bind_some]
  rw [a_eqFunS h_x _ (by omega)]
  simp only [Option.bind_some, if_true]
  simp only [laws_FnExactMachOk.j3]
  rw [a_toMach h_y _ (by omega)]
  simp only [Option.bind_some]
  rw [a_eqMach h_y _ (by omega)]
  simp only [Option.bind_some, if_true]
end Go.Proofs.Ytppmalfpggkpdaa.Pure
