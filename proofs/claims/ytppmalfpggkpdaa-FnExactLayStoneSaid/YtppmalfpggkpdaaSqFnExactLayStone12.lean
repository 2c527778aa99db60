-- PxlawsFnExactLayStone, PutsFnExactLayStone, PximplUnitOk, PximplUnitFind, PxspecUnitOk, LUnit: put together by squash.py
import Derived.Test.YtppmalfpggkpdaaSqFnExactLayStone3
import Derived.Test.YtppmalfpggkpdaaSqFnExactLayStone4
import Derived.Test.YtppmalfpggkpdaaSqFnExactLayStone5
import Derived.Test.YtppmalfpggkpdaaSqFnExactLayStone8
import Derived.Test.YtppmalfpggkpdaaSqFnExactLayStone11
import Derived.Test.YtppmalfpggkpdaaSqFnExactLayStone10
import Derived.Test.YtppmalfpggkpdaaSqFnExactLayStone6

-- made by printx.py (own driver over the kit's print); Lean checks it
namespace Go.Proofs.Ytppmalfpggkpdaa.P
open Go.RowKit Go.Proofs.YtppmalfpggkpdaaW.PrintWords Go.Proofs.YtppmalfpggkpdaaW.PrintLast Go.Proofs.YtppmalfpggkpdaaW.PrintMore
attribute [local go_sem] max2_int min2_int max_two min_two max_three min_three max_four min_four   -- for this text's walks alone
set_option linter.unusedVariables false
set_option linter.unusedSimpArgs false

/-! ### laws_FnExactLayStone: function 13 -/
mutual
def laws_FnExactLayStone.j0 : Nat → List (S95) → Int → Int → Int → List Int → List (List ByteArray) → Option (Bool)
  | 0, _, _, _, _, _, _ => none
  | k + 1, x0, x2, x3, x9, x1086000, x1086001 => (laws_szLay.f k x1086000 x1086001 x9).bind fun t1087 => (if t1087 < 0 then (some true) else (laws_FnExactLayStone.j1 k x0 x2 x3 x1086000 x1086001))
def laws_FnExactLayStone.j1 : Nat → List (S95) → Int → Int → List Int → List (List ByteArray) → Option (Bool)
  | 0, _, _, _, _, _ => none
  | k + 1, x0, x2, x3, x1086000, x1086001 => (laws_toFunS.f k x0).bind fun t1088 => ((laws_toLay.f k x1086000 x1086001).bind fun bt1091 => ((spec_LayStone.f k t1088 bt1091.1 bt1091.2 x2 x3).bind fun t1097 => ((laws_toFunS.f k x0).bind fun t1098 => ((laws_toLay.f k x1086000 x1086001).bind fun bt1101 => ((impl_LayStone.f k t1098 bt1101.1 bt1101.2 x2 x3).bind fun t1108 => (if t1108 = t1097 then (laws_FnExactLayStone.j2 k x0 t1098 x1086000 x1086001 bt1101.1 bt1101.2) else (some false)))))))
def laws_FnExactLayStone.j2 : Nat → List (S95) → List (S52) → List Int → List (List ByteArray) → List Int → List (List ByteArray) → Option (Bool)
  | 0, _, _, _, _, _, _ => none
  | k + 1, x0, x11, x1086000, x1086001, x1108000, x1108001 => (laws_toFunS.f k x0).bind fun t1109 => ((laws_eqFunS.f k x11 t1109).bind fun t1112 => (if t1112 = true then (laws_FnExactLayStone.j3 k x1086000 x1086001 x1108000 x1108001) else (some false)))
def laws_FnExactLayStone.j3 : Nat → List Int → List (List ByteArray) → List Int → List (List ByteArray) → Option (Bool)
  | 0, _, _, _, _ => none
  | k + 1, x1086000, x1086001, x1108000, x1108001 => (laws_toLay.f k x1086000 x1086001).bind fun bt1113 => ((laws_eqLay.f k x1108000 x1108001 bt1113.1 bt1113.2).bind fun t1119 => (if t1119 = true then (some true) else (some false)))
end
def laws_FnExactLayStone.f (k : Nat) (l0 : List (S95)) (l1_0 : List Int) (l1_1 : List (List ByteArray)) (a2 : Int) (a3 : Int) : Option (Bool) := (laws_szFunS.f k l0 1048576).bind fun t1086 => (if t1086 < 0 then (some true) else (laws_FnExactLayStone.j0 k l0 a2 a3 t1086 l1_0 l1_1))
theorem laws_FnExactLayStone.mono_l : ∀ k, (∀ y0 y1 y2 y3 y4 y5, LeO (laws_FnExactLayStone.j0 k y0 y1 y2 y3 y4 y5) (laws_FnExactLayStone.j0 (k + 1) y0 y1 y2 y3 y4 y5)) ∧ (∀ y0 y1 y2 y3 y4, LeO (laws_FnExactLayStone.j1 k y0 y1 y2 y3 y4) (laws_FnExactLayStone.j1 (k + 1) y0 y1 y2 y3 y4)) ∧ (∀ y0 y1 y2 y3 y4 y5, LeO (laws_FnExactLayStone.j2 k y0 y1 y2 y3 y4 y5) (laws_FnExactLayStone.j2 (k + 1) y0 y1 y2 y3 y4 y5)) ∧ (∀ y0 y1 y2 y3, LeO (laws_FnExactLayStone.j3 k y0 y1 y2 y3) (laws_FnExactLayStone.j3 (k + 1) y0 y1 y2 y3))
  | 0 => ⟨fun _ _ _ _ _ _ r h => by simp [laws_FnExactLayStone.j0] at h, fun _ _ _ _ _ r h => by simp [laws_FnExactLayStone.j1] at h, fun _ _ _ _ _ _ r h => by simp [laws_FnExactLayStone.j2] at h, fun _ _ _ _ r h => by simp [laws_FnExactLayStone.j3] at h⟩
  | k + 1 => by
    obtain ⟨ih0, ih1, ih2, ih3⟩ := laws_FnExactLayStone.mono_l k
    refine ⟨?_, ?_, ?_, ?_⟩
    · intro y0 y1 y2 y3 y4 y5
      unfold laws_FnExactLayStone.j0
      repeat' first
      | (with_reducible exact ih0 _ _ _ _ _ _)
      | (with_reducible exact ih1 _ _ _ _ _)
      | (with_reducible exact ih2 _ _ _ _ _ _)
      | (with_reducible exact ih3 _ _ _ _)
      | (with_reducible exact impl_LayStone.mono _ _ _ _ _ _)
      | (with_reducible exact laws_eqFunS.mono _ _ _)
      | (with_reducible exact laws_eqLay.mono _ _ _ _ _)
      | (with_reducible exact laws_szFunS.mono _ _ _)
      | (with_reducible exact laws_szLay.mono _ _ _ _)
      | (with_reducible exact laws_toFunS.mono _ _)
      | (with_reducible exact laws_toLay.mono _ _ _)
      | (with_reducible exact spec_LayStone.mono _ _ _ _ _ _)
      | (with_reducible exact LeO.refl _)
      | (with_reducible exact LeO.none _)
      | (with_reducible refine LeO.ite ?_ ?_)
      | (with_reducible refine LeO.bind ?_ (fun _ => ?_))
      | exact ih0 _ _ _ _ _ _
      | exact ih1 _ _ _ _ _
      | exact ih2 _ _ _ _ _ _
      | exact ih3 _ _ _ _
      | exact impl_LayStone.mono _ _ _ _ _ _
      | exact laws_eqFunS.mono _ _ _
      | exact laws_eqLay.mono _ _ _ _ _
      | exact laws_szFunS.mono _ _ _
      | exact laws_szLay.mono _ _ _ _
      | exact laws_toFunS.mono _ _
      | exact laws_toLay.mono _ _ _
      | exact spec_LayStone.mono _ _ _ _ _ _
      | exact LeO.none _
      | refine LeO.ite ?_ ?_
      | refine LeO.bind ?_ (fun _ => ?_)
    · intro y0 y1 y2 y3 y4
      unfold laws_FnExactLayStone.j1
      repeat' first
      | (with_reducible exact ih0 _ _ _ _ _ _)
      | (with_reducible exact ih1 _ _ _ _ _)
      | (with_reducible exact ih2 _ _ _ _ _ _)
      | (with_reducible exact ih3 _ _ _ _)
      | (with_reducible exact impl_LayStone.mono _ _ _ _ _ _)
      | (with_reducible exact laws_eqFunS.mono _ _ _)
      | (with_reducible exact laws_eqLay.mono _ _ _ _ _)
      | (with_reducible exact laws_szFunS.mono _ _ _)
      | (with_reducible exact laws_szLay.mono _ _ _ _)
      | (with_reducible exact laws_toFunS.mono _ _)
      | (with_reducible exact laws_toLay.mono _ _ _)
      | (with_reducible exact spec_LayStone.mono _ _ _ _ _ _)
      | (with_reducible exact LeO.refl _)
      | (with_reducible exact LeO.none _)
      | (with_reducible refine LeO.ite ?_ ?_)
      | (with_reducible refine LeO.bind ?_ (fun _ => ?_))
      | exact ih0 _ _ _ _ _ _
      | exact ih1 _ _ _ _ _
      | exact ih2 _ _ _ _ _ _
      | exact ih3 _ _ _ _
      | exact impl_LayStone.mono _ _ _ _ _ _
      | exact laws_eqFunS.mono _ _ _
      | exact laws_eqLay.mono _ _ _ _ _
      | exact laws_szFunS.mono _ _ _
      | exact laws_szLay.mono _ _ _ _
      | exact laws_toFunS.mono _ _
      | exact laws_toLay.mono _ _ _
      | exact spec_LayStone.mono _ _ _ _ _ _
      | exact LeO.none _
      | refine LeO.ite ?_ ?_
      | refine LeO.bind ?_ (fun _ => ?_)
    · intro y0 y1 y2 y3 y4 y5
      unfold laws_FnExactLayStone.j2
      repeat' first
      | (with_reducible exact ih0 _ _ _ _ _ _)
      | (with_reducible exact ih1 _ _ _ _ _)
      | (with_reducible exact ih2 _ _ _ _ _ _)
      | (with_reducible exact ih3 _ _ _ _)
      | (with_reducible exact impl_LayStone.mono _ _ _ _ _ _)
      | (with_reducible exact laws_eqFunS.mono _ _ _)
      | (with_reducible exact laws_eqLay.mono _ _ _ _ _)
      | (with_reducible exact laws_szFunS.mono _ _ _)
      | (with_reducible exact laws_szLay.mono _ _ _ _)
      | (with_reducible exact laws_toFunS.mono _ _)
      | (with_reducible exact laws_toLay.mono _ _ _)
      | (with_reducible exact spec_LayStone.mono _ _ _ _ _ _)
      | (with_reducible exact LeO.refl _)
      | (with_reducible exact LeO.none _)
      | (with_reducible refine LeO.ite ?_ ?_)
      | (with_reducible refine LeO.bind ?_ (fun _ => ?_))
      | exact ih0 _ _ _ _ _ _
      | exact ih1 _ _ _ _ _
      | exact ih2 _ _ _ _ _ _
      | exact ih3 _ _ _ _
      | exact impl_LayStone.mono _ _ _ _ _ _
      | exact laws_eqFunS.mono _ _ _
      | exact laws_eqLay.mono _ _ _ _ _
      | exact laws_szFunS.mono _ _ _
      | exact laws_szLay.mono _ _ _ _
      | exact laws_toFunS.mono _ _
      | exact laws_toLay.mono _ _ _
      | exact spec_LayStone.mono _ _ _ _ _ _
      | exact LeO.none _
      | refine LeO.ite ?_ ?_
      | refine LeO.bind ?_ (fun _ => ?_)
    · intro y0 y1 y2 y3
      unfold laws_FnExactLayStone.j3
      repeat' first
      | (with_reducible exact ih0 _ _ _ _ _ _)
      | (with_reducible exact ih1 _ _ _ _ _)
      | (with_reducible exact ih2 _ _ _ _ _ _)
      | (with_reducible exact ih3 _ _ _ _)
      | (with_reducible exact impl_LayStone.mono _ _ _ _ _ _)
      | (with_reducible exact laws_eqFunS.mono _ _ _)
      | (with_reducible exact laws_eqLay.mono _ _ _ _ _)
      | (with_reducible exact laws_szFunS.mono _ _ _)
      | (with_reducible exact laws_szLay.mono _ _ _ _)
      | (with_reducible exact laws_toFunS.mono _ _)
      | (with_reducible exact laws_toLay.mono _ _ _)
      | (with_reducible exact spec_LayStone.mono _ _ _ _ _ _)
      | (with_reducible exact LeO.refl _)
      | (with_reducible exact LeO.none _)
      | (with_reducible refine LeO.ite ?_ ?_)
      | (with_reducible refine LeO.bind ?_ (fun _ => ?_))
      | exact ih0 _ _ _ _ _ _
      | exact ih1 _ _ _ _ _
      | exact ih2 _ _ _ _ _ _
      | exact ih3 _ _ _ _
      | exact impl_LayStone.mono _ _ _ _ _ _
      | exact laws_eqFunS.mono _ _ _
      | exact laws_eqLay.mono _ _ _ _ _
      | exact laws_szFunS.mono _ _ _
      | exact laws_szLay.mono _ _ _ _
      | exact laws_toFunS.mono _ _
      | exact laws_toLay.mono _ _ _
      | exact spec_LayStone.mono _ _ _ _ _ _
      | exact LeO.none _
      | refine LeO.ite ?_ ?_
      | refine LeO.bind ?_ (fun _ => ?_)
theorem laws_FnExactLayStone.mono : ∀ a0 a1 a2 a3 a4 k, LeO (laws_FnExactLayStone.f k a0 a1 a2 a3 a4) (laws_FnExactLayStone.f (k + 1) a0 a1 a2 a3 a4) := by
  intro a0 a1 a2 a3 a4 k
  obtain ⟨ih0, ih1, ih2, ih3⟩ := laws_FnExactLayStone.mono_l k
  unfold laws_FnExactLayStone.f
  repeat' first
      | (with_reducible exact ih0 _ _ _ _ _ _)
      | (with_reducible exact ih1 _ _ _ _ _)
      | (with_reducible exact ih2 _ _ _ _ _ _)
      | (with_reducible exact ih3 _ _ _ _)
      | (with_reducible exact impl_LayStone.mono _ _ _ _ _ _)
      | (with_reducible exact laws_eqFunS.mono _ _ _)
      | (with_reducible exact laws_eqLay.mono _ _ _ _ _)
      | (with_reducible exact laws_szFunS.mono _ _ _)
      | (with_reducible exact laws_szLay.mono _ _ _ _)
      | (with_reducible exact laws_toFunS.mono _ _)
      | (with_reducible exact laws_toLay.mono _ _ _)
      | (with_reducible exact spec_LayStone.mono _ _ _ _ _ _)
      | (with_reducible exact LeO.refl _)
      | (with_reducible exact LeO.none _)
      | (with_reducible refine LeO.ite ?_ ?_)
      | (with_reducible refine LeO.bind ?_ (fun _ => ?_))
      | exact ih0 _ _ _ _ _ _
      | exact ih1 _ _ _ _ _
      | exact ih2 _ _ _ _ _ _
      | exact ih3 _ _ _ _
      | exact impl_LayStone.mono _ _ _ _ _ _
      | exact laws_eqFunS.mono _ _ _
      | exact laws_eqLay.mono _ _ _ _ _
      | exact laws_szFunS.mono _ _ _
      | exact laws_szLay.mono _ _ _ _
      | exact laws_toFunS.mono _ _
      | exact laws_toLay.mono _ _ _
      | exact spec_LayStone.mono _ _ _ _ _ _
      | exact LeO.none _
      | refine LeO.ite ?_ ?_
      | refine LeO.bind ?_ (fun _ => ?_)
def laws_FnExactLayStone.T8 : Bool × List (List Nat × List Nat) := (true, [([], []), ([0], [0]), ([], []), ([2, 1], [2]), ([], []), ([], []), ([1, 3, 4, 5, 3], [1, 3, 4, 5]), ([6, 6, 0, 1, 2, 3, 4, 5, 6], [6])])
def laws_FnExactLayStone.B8 : List Nat := [0, 1, 0, 7, 0, 0, 63, 127]
theorem laws_FnExactLayStone.tab8 : rtab .any (opsOf Try.f13 8) = laws_FnExactLayStone.T8 := by kernel_rfl
theorem laws_FnExactLayStone.bits8 : waitsOk laws_FnExactLayStone.T8.2 laws_FnExactLayStone.B8 = true := by kernel_rfl
set_option maxHeartbeats 8000000 in
set_option maxRecDepth 100000 in
theorem laws_FnExactLayStone.calls (k : Nat) (A0 : Option Addr) (c0 : Nat) (l0 : List (S95)) (A1_0 : Option Addr) (c1_0 : Nat) (l1_0 : List Int) (A1_1 : Option Addr) (c1_1 : Nat) (l1_1 : List (List ByteArray)) (a2 : Int) (a3 : Int) (r : Bool) (w : World) (hr0 : Kd.C k95 w A0 l0.length l0) (hc0 : l0.length ≤ c0) (hr1_0 : Kd.C (Kd.int .i64) w A1_0 l1_0.length l1_0) (hc1_0 : l1_0.length ≤ c1_0) (hr1_1 : Kd.C (Kd.slice 9 Kd.string) w A1_1 l1_1.length l1_1) (hc1_1 : l1_1.length ≤ c1_1) (h : laws_FnExactLayStone.f k l0 l1_0 l1_1 a2 a3 = some r) :
    Calls Try.prog 13 #[.slice A0 l0.length c0, .agg #[.slice A1_0 l1_0.length c1_0, .slice A1_1 l1_1.length c1_1], .int .i64 a2, .int .i64 a3] w fun e w' => e = .returned (.bool r) ∧ Below w.heap.size w w' := by
  have hu77 := Try.underlying77
  have hu80 := Try.underlying80
  have HR0 := Aside0.mk hr0
  have HC0 := Aside0.mk hc0
  clear hr0 hc0
  have HR1_0 := Aside0.mk hr1_0
  have HC1_0 := Aside0.mk hc1_0
  clear hr1_0 hc1_0
  have HR1_1 := Aside0.mk hr1_1
  have HC1_1 := Aside0.mk hc1_1
  clear hr1_1 hc1_1
  have HB := Aside0.mk (Below.refl w.heap.size w)
  have H : ((laws_szFunS.f k l0 1048576).bind fun t1086 => (if t1086 < 0 then (some true) else (laws_FnExactLayStone.j0 k l0 a2 a3 t1086 l1_0 l1_1))) = some r := h
  clear h
  replace H := Option.bind_eq_some_iff.mp H
  obtain ⟨t1086, A50, H⟩ := H
  replace H : (if t1086 < 0 then (some true) else (laws_FnExactLayStone.j0 k l0 a2 a3 t1086 l1_0 l1_1)) = some r := H
  have A5 := Aside0.mk A50
  clear A50
  have HC6 := Aside0.mk H
  clear H
  go_enter Try.func13, Try.ntmps13
  go_upto_if 18 with (first | ((with_reducible refine gate_dst (N := 5) rfl ?_); refine box_event ?hg (N := 5) ?hd (cs := #[.slice A1_0 l1_0.length c1_0, .slice A1_1 l1_1.length c1_1]) (t := 77) ?hr ?_; (case hd => rfl); (case hg => rfl); (case hr => first | (go_simp; done) | (go_simp; rfl)); intro gb1085 hg w7 hbox hb; have n0_ := Aside0.mk (below_step (by repeat (first | (with_reducible first | exact HB.out | apply below_alloc | apply pw_below_drewN | apply below_drew1) | exact HB.out)) hb); have n1_ := Aside0.mk (hbox); have n2_ := Aside0.mk ((by rw [hg]; exact (below_size (by repeat (first | (with_reducible first | exact HB.out | apply below_alloc | apply pw_below_drewN | apply below_drew1) | exact HB.out))) : w.heap.size ≤ gb1085)); have n3_ := Aside0.mk ((by rw [hg]; exact (below_size (by repeat (first | (with_reducible first | exact HB.out | apply below_alloc | apply pw_below_drewN | apply below_drew1) | exact HB.out))) : w.heap.size ≤ gb1085)); clear HB; have HB := n0_; have BK1085 := n1_; have GW1085 := n2_; have GE1085 := n3_; clear n0_ n1_ n2_ n3_; clear hb hbox hg) | ((with_reducible refine gate_callee (f := 29) rfl ?_); refine goesL_ (some 16) rfl rfl Try.func29 (by kernel_rfl) rfl #[.slice A0 l0.length c0, .int .i64 1048576] rfl (by (try simp only [List.map_toArray, List.map_cons, List.map_nil]); first | done | rfl | (simp only [List.length_drop, List.length_take]; rfl)) ?_; (with_reducible refine (laws_szFunS.calls k _ _ l0 1048576 t1086 _ ?side1 ?side2 A5.out).mono ?_); (case side1 => repeat (first | exact (Kd.C_below HR0.out HB.out) | (with_reducible refine Kd.C_alloc ?_ _) | (with_reducible refine Kd.C_drewN ?_ _) | (with_reducible refine Kd.C_drew ?_))); (case side2 => exact HC0.out); rintro e w8 ⟨rfl, hb⟩; refine ⟨_, rfl, ?_⟩; have n0_ := Aside0.mk (blk_below (g := gb1085) (o := .cells #[.slice A1_0 l1_0.length c1_0, .slice A1_1 l1_1.length c1_1] 77 (0, 0)) (by (with_reducible repeat (first | refine blk_drewN ?_ _ | refine blk_drew ?_ | refine blk_alloc ?_ _)); exact BK1085.out) hb); have n1_ := Aside0.mk (below_step (by repeat (first | (with_reducible first | exact HB.out | apply below_alloc | apply pw_below_drewN | apply below_drew1 | refine below_set ?_ GE1085.out) | exact HB.out)) hb); clear BK1085; clear HB; have BK1085 := n0_; have HB := n1_; clear n0_ n1_; (try clear hb); (try clear hb2); (try clear hk); (try clear hi)))
  (try simp only [Act.put, List.setIfInBounds_toArray, List.set_cons_zero, List.set_cons_succ])
  go_cut [] (fun wc => ∃ (kq : Nat), Aside0 (laws_FnExactLayStone.j0 kq l0 a2 a3 t1086 l1_0 l1_1 = some r) ∧ Aside0 (kq ≤ k) ∧ Aside0 (wc.heap[gb1085]? = some (.cells #[(.slice A1_0 l1_0.length c1_0), (.slice A1_1 l1_1.length c1_1)] 77 (0, 0))) ∧ Aside0 (Below w.heap.size w wc))
  case first =>
    have H := HC6.out
    clear HC6
    by_cases c9 : t1086 < 0
    · rw [if_pos c9] at H
      have c9b0 : decide (t1086 < 0) = true := decide_eq_true c9
      clear c9
      (first | rw [c9b0] | (simp only [i64_w, i32_w]; rw [c9b0]) | (have cn_ := c9b0; simp only [bne] at cn_; rw [cn_]; clear cn_) | skip)
      obtain rfl := Option.some.inj H
      go_wp2
      go_ret
      exact ⟨by first | rfl | (simp [errW_none, errW_some] <;> rfl) | (simp [*, errW_none, errW_some] <;> rfl), by repeat (first | (with_reducible first | exact HB.out | apply below_alloc | apply pw_below_drewN | apply below_drew1 | refine below_set ?_ GE1085.out) | exact HB.out)⟩
    · rw [if_neg c9] at H
      have c9b0 : decide (t1086 < 0) = false := decide_eq_false c9
      clear c9
      (first | rw [c9b0] | (simp only [i64_w, i32_w]; rw [c9b0]) | (have cn_ := c9b0; simp only [bne] at cn_; rw [cn_]; clear cn_) | skip)
      have H' := Aside0.mk H
      clear H
      go_wp2
      go_meet
      case rel => exact ⟨_, H', ⟨by first | omega | exact Nat.le_refl _⟩, ⟨by (with_reducible repeat (first | refine blk_drewN ?_ _ | refine blk_drew ?_ | refine blk_alloc ?_ _)); exact BK1085.out⟩, ⟨by repeat (first | (with_reducible first | exact HB.out | apply below_alloc | apply pw_below_drewN | apply below_drew1 | refine below_set ?_ GE1085.out) | exact HB.out)⟩⟩
  case rest =>
    clear HC6
    try clear c1
    try clear c2
    try clear p2
    try clear c9
    try clear c9b0
    obtain ⟨kq, HA, HJ5, BK1085, HB⟩ := hcut
    cases kq with
    | zero => exact absurd HA.out (by simp [laws_FnExactLayStone.j0])
    | succ kj5 =>
      have H := HA.out
      clear HA
      simp only [laws_FnExactLayStone.j0] at H
      replace H := Option.bind_eq_some_iff.mp H
      obtain ⟨t1087, A100, H⟩ := H
      replace H : (if t1087 < 0 then (some true) else (laws_FnExactLayStone.j1 kj5 l0 a2 a3 l1_0 l1_1)) = some r := H
      have A10 := Aside0.mk A100
      clear A100
      have HC11 := Aside0.mk H
      clear H
      have hcz12_0 : wc.cell? ⟨gb1085, 0, none⟩ = some (.slice A1_0 l1_0.length c1_0) := (blk_cell BK1085.out 0).trans rfl
      have hcz12_1 : wc.cell? ⟨gb1085, 1, none⟩ = some (.slice A1_1 l1_1.length c1_1) := (blk_cell BK1085.out 1).trans rfl
      have hfz12_0 := blk_frozen BK1085.out 0
      have hfz12_1 := blk_frozen BK1085.out 1
      go_upto_if 23 with (first | ((with_reducible refine gate_callee (f := 52) rfl ?_); refine goesL_ (some 21) rfl rfl Try.func52 (by kernel_rfl) rfl #[.agg #[.slice A1_0 l1_0.length c1_0, .slice A1_1 l1_1.length c1_1], .int .i64 t1086] rfl (by (try simp only [List.map_toArray, List.map_cons, List.map_nil]); first | done | rfl | (simp only [List.length_drop, List.length_take]; rfl)) ?_; (with_reducible refine (laws_szLay.calls kj5 _ _ l1_0 _ _ l1_1 t1086 t1087 _ ?side1 ?side2 ?side3 ?side4 A10.out).mono ?_); (case side1 => repeat (first | exact (Kd.C_below HR1_0.out HB.out) | (with_reducible refine Kd.C_alloc ?_ _) | (with_reducible refine Kd.C_drewN ?_ _) | (with_reducible refine Kd.C_drew ?_))); (case side2 => exact HC1_0.out); (case side3 => repeat (first | exact (Kd.C_below HR1_1.out HB.out) | (with_reducible refine Kd.C_alloc ?_ _) | (with_reducible refine Kd.C_drewN ?_ _) | (with_reducible refine Kd.C_drew ?_))); (case side4 => exact HC1_1.out); rintro e w13 ⟨rfl, hb⟩; refine ⟨_, rfl, ?_⟩; have n0_ := Aside0.mk (blk_below (g := gb1085) (o := .cells #[.slice A1_0 l1_0.length c1_0, .slice A1_1 l1_1.length c1_1] 77 (0, 0)) (by (with_reducible repeat (first | refine blk_drewN ?_ _ | refine blk_drew ?_ | refine blk_alloc ?_ _)); exact BK1085.out) hb); have n1_ := Aside0.mk (below_step (by repeat (first | (with_reducible first | exact HB.out | apply below_alloc | apply pw_below_drewN | apply below_drew1 | refine below_set ?_ GE1085.out) | exact HB.out)) hb); clear BK1085; clear HB; have BK1085 := n0_; have HB := n1_; clear n0_ n1_; (try clear hb); (try clear hb2); (try clear hk); (try clear hi)))
      (try simp only [Act.put, List.setIfInBounds_toArray, List.set_cons_zero, List.set_cons_succ])
      go_cut [] (fun wc => ∃ (kq : Nat), Aside0 (laws_FnExactLayStone.j1 kq l0 a2 a3 l1_0 l1_1 = some r) ∧ Aside0 (kq ≤ kj5) ∧ Aside0 (wc.heap[gb1085]? = some (.cells #[(.slice A1_0 l1_0.length c1_0), (.slice A1_1 l1_1.length c1_1)] 77 (0, 0))) ∧ Aside0 (Below w.heap.size w wc))
      case first =>
        have H := HC11.out
        clear HC11
        by_cases c14 : t1087 < 0
        · rw [if_pos c14] at H
          have c14b0 : decide (t1087 < 0) = true := decide_eq_true c14
          clear c14
          (first | rw [c14b0] | (simp only [i64_w, i32_w]; rw [c14b0]) | (have cn_ := c14b0; simp only [bne] at cn_; rw [cn_]; clear cn_) | skip)
          obtain rfl := Option.some.inj H
          go_wp2
          go_ret
          exact ⟨by first | rfl | (simp [errW_none, errW_some] <;> rfl) | (simp [*, errW_none, errW_some] <;> rfl), by repeat (first | (with_reducible first | exact HB.out | apply below_alloc | apply pw_below_drewN | apply below_drew1 | refine below_set ?_ GE1085.out) | exact HB.out)⟩
        · rw [if_neg c14] at H
          have c14b0 : decide (t1087 < 0) = false := decide_eq_false c14
          clear c14
          (first | rw [c14b0] | (simp only [i64_w, i32_w]; rw [c14b0]) | (have cn_ := c14b0; simp only [bne] at cn_; rw [cn_]; clear cn_) | skip)
          have H' := Aside0.mk H
          clear H
          go_wp2
          go_meet
          case rel => exact ⟨_, H', ⟨by have := HJ5.out; first | omega | exact Nat.le_refl _⟩, ⟨by (with_reducible repeat (first | refine blk_drewN ?_ _ | refine blk_drew ?_ | refine blk_alloc ?_ _)); exact BK1085.out⟩, ⟨by repeat (first | (with_reducible first | exact HB.out | apply below_alloc | apply pw_below_drewN | apply below_drew1 | refine below_set ?_ GE1085.out) | exact HB.out)⟩⟩
      case rest =>
        clear HC11
        try clear c1
        try clear c2
        try clear p2
        try clear c5
        try clear c9
        try clear c9b0
        try clear c13
        try clear c14
        try clear c14b0
        try clear hcz12_0
        try clear hcz12_1
        try clear hfz12_0
        try clear hfz12_1
        try clear p2
        obtain ⟨kq, HA, HJ10, BK1085, HB⟩ := hcut
        cases kq with
        | zero => exact absurd HA.out (by simp [laws_FnExactLayStone.j1])
        | succ kj10 =>
          have H := HA.out
          clear HA
          simp only [laws_FnExactLayStone.j1] at H
          replace H := Option.bind_eq_some_iff.mp H
          obtain ⟨t1088, A150, H⟩ := H
          replace H : ((laws_toLay.f kj10 l1_0 l1_1).bind fun bt1091 => ((spec_LayStone.f kj10 t1088 bt1091.1 bt1091.2 a2 a3).bind fun t1097 => ((laws_toFunS.f kj10 l0).bind fun t1098 => ((laws_toLay.f kj10 l1_0 l1_1).bind fun bt1101 => ((impl_LayStone.f kj10 t1098 bt1101.1 bt1101.2 a2 a3).bind fun t1108 => (if t1108 = t1097 then (laws_FnExactLayStone.j2 kj10 l0 t1098 l1_0 l1_1 bt1101.1 bt1101.2) else (some false))))))) = some r := H
          have A15 := Aside0.mk A150
          clear A150
          replace H := Option.bind_eq_some_iff.mp H
          obtain ⟨⟨t1091, t1094⟩, A160, H⟩ := H
          replace H : ((spec_LayStone.f kj10 t1088 t1091 t1094 a2 a3).bind fun t1097 => ((laws_toFunS.f kj10 l0).bind fun t1098 => ((laws_toLay.f kj10 l1_0 l1_1).bind fun bt1101 => ((impl_LayStone.f kj10 t1098 bt1101.1 bt1101.2 a2 a3).bind fun t1108 => (if t1108 = t1097 then (laws_FnExactLayStone.j2 kj10 l0 t1098 l1_0 l1_1 bt1101.1 bt1101.2) else (some false)))))) = some r := H
          have A16 := Aside0.mk A160
          clear A160
          replace H := Option.bind_eq_some_iff.mp H
          obtain ⟨t1097, A170, H⟩ := H
          replace H : ((laws_toFunS.f kj10 l0).bind fun t1098 => ((laws_toLay.f kj10 l1_0 l1_1).bind fun bt1101 => ((impl_LayStone.f kj10 t1098 bt1101.1 bt1101.2 a2 a3).bind fun t1108 => (if t1108 = t1097 then (laws_FnExactLayStone.j2 kj10 l0 t1098 l1_0 l1_1 bt1101.1 bt1101.2) else (some false))))) = some r := H
          have A17 := Aside0.mk A170
          clear A170
          replace H := Option.bind_eq_some_iff.mp H
          obtain ⟨t1098, A180, H⟩ := H
          replace H : ((laws_toLay.f kj10 l1_0 l1_1).bind fun bt1101 => ((impl_LayStone.f kj10 t1098 bt1101.1 bt1101.2 a2 a3).bind fun t1108 => (if t1108 = t1097 then (laws_FnExactLayStone.j2 kj10 l0 t1098 l1_0 l1_1 bt1101.1 bt1101.2) else (some false)))) = some r := H
          have A18 := Aside0.mk A180
          clear A180
          replace H := Option.bind_eq_some_iff.mp H
          obtain ⟨⟨t1101, t1104⟩, A190, H⟩ := H
          replace H : ((impl_LayStone.f kj10 t1098 t1101 t1104 a2 a3).bind fun t1108 => (if t1108 = t1097 then (laws_FnExactLayStone.j2 kj10 l0 t1098 l1_0 l1_1 t1101 t1104) else (some false))) = some r := H
          have A19 := Aside0.mk A190
          clear A190
          replace H := Option.bind_eq_some_iff.mp H
          obtain ⟨t1108, A200, H⟩ := H
          replace H : (if t1108 = t1097 then (laws_FnExactLayStone.j2 kj10 l0 t1098 l1_0 l1_1 t1101 t1104) else (some false)) = some r := H
          have A20 := Aside0.mk A200
          clear A200
          have HC21 := Aside0.mk H
          clear H
          try go_wp2
          have n0_ := Aside0.mk (blk_drew BK1085.out)
          have n1_ := Aside0.mk (below_drew1 HB.out)
          clear BK1085
          clear HB
          have BK1085 := n0_
          have HB := n1_
          clear n0_ n1_
          refine start_ (n := 8) (S := fun w' => w'.cell? ⟨gb1085, 0, none⟩ = some (.slice A1_0 l1_0.length c1_0) ∧ w'.cell? ⟨gb1085, 1, none⟩ = some (.slice A1_1 l1_1.length c1_1)) (ds := []) #[false, false, false, false, false, false, false, false] (by kernel_rfl) rfl rfl ⟨(blk_cell BK1085.out 0).trans rfl, (blk_cell BK1085.out 1).trans rfl⟩ (fun hHeld => ?_); refine with_tabW laws_FnExactLayStone.tab8 laws_FnExactLayStone.bits8 (fun HT_ HW_ => ?_)
          generalize wc.drew = w22 at BK1085 HB hHeld ⊢
          refine pure_ (i := 0) (N := some 24) (v := ?_) (a' := ?_) #[true, false, false, false, false, false, false, false] rfl rfl (any_of HT_.out (by kernel_rfl)) (fun _ _ _ h => h) (Or.inl ⟨by rfl, ?_⟩) ?_ ?_
          rotate_left
          · intro w'
            go_simp
            with_reducible rfl
          rotate_left
          · simp only [Act.put, List.setIfInBounds_toArray, List.set_cons_zero, List.set_cons_succ, i64_w, i32_w]
            rfl
          refine pure_ (i := 4) (N := some 28) (v := ?_) (a' := ?_) #[true, false, false, false, true, false, false, false] rfl rfl (any_of HT_.out (by kernel_rfl)) (fun _ _ _ h => h) (Or.inl ⟨by rfl, ?_⟩) ?_ ?_
          rotate_left
          · intro w'
            go_simp
            with_reducible rfl
          rotate_left
          · simp only [Act.put, List.setIfInBounds_toArray, List.set_cons_zero, List.set_cons_succ, i64_w, i32_w]
            rfl
          refine pure_ (i := 5) (N := some 29) (v := ?_) (a' := ?_) #[true, false, false, false, true, true, false, false] rfl rfl (any_of HT_.out (by kernel_rfl)) (fun _ _ _ h => h) (Or.inl ⟨by rfl, ?_⟩) ?_ ?_
          rotate_left
          · intro w'
            go_simp
            with_reducible rfl
          rotate_left
          · simp only [Act.put, List.setIfInBounds_toArray, List.set_cons_zero, List.set_cons_succ, i64_w, i32_w]
            rfl
          refine take_ (i := 2) (N := some 26) (v := ?_) (a' := ?_) #[true, false, true, false, true, true, false, false] rfl rfl (take_ofW HT_.out HW_.out (by kernel_rfl)) (fun _ _ _ h => h) (Or.inl ⟨by rfl, ?_⟩) hHeld ?_ ?_
          rotate_left
          · rintro w' ⟨s0, s1⟩
            go_simp
            with_reducible rfl
          rotate_left
          · simp only [Act.put, List.setIfInBounds_toArray, List.set_cons_zero, List.set_cons_succ, i64_w, i32_w]
            rfl
          refine one_ (i := 1) (N := some 25) #[true, true, true, false, true, true, false, false] rfl rfl (one_of HT_.out (by kernel_rfl)) (by decide) (fun K hK => ?_)
          refine goes_ Try.func31 (by kernel_rfl) rfl #[.slice A0 l0.length c0] (by rfl) rfl rfl (by (try simp only [List.map_toArray, List.map_cons, List.map_nil]); first | done | rfl | (simp only [List.length_drop, List.length_take]; rfl)) ?_
          with_reducible refine (laws_toFunS.calls kj10 _ _ l0 t1088 _ ?side1 ?side2 A15.out).mono ?_
          (case side1 => repeat (first | exact (Kd.C_below HR0.out HB.out) | (with_reducible refine Kd.C_alloc ?_ _) | (with_reducible refine Kd.C_drewN ?_ _) | (with_reducible refine Kd.C_drew ?_)))
          (case side2 => exact HC0.out)
          rintro e w23 ⟨v1089, rfl, ho0, hb⟩
          refine ⟨_, rfl, ?_⟩
          have n0_ := Aside0.mk (Kd.S_lower ho0 (below_size (by repeat (first | (with_reducible first | exact HB.out | apply below_alloc | apply pw_below_drewN | apply below_drew1 | refine below_set ?_ GE1085.out) | exact HB.out))))
          have n1_ := Aside0.mk (blk_below (g := gb1085) (o := .cells #[.slice A1_0 l1_0.length c1_0, .slice A1_1 l1_1.length c1_1] 77 (0, 0)) (by (with_reducible repeat (first | refine blk_drewN ?_ _ | refine blk_drew ?_ | refine blk_alloc ?_ _)); exact BK1085.out) hb)
          have n2_ := Aside0.mk (below_step (by repeat (first | (with_reducible first | exact HB.out | apply below_alloc | apply pw_below_drewN | apply below_drew1 | refine below_set ?_ GE1085.out) | exact HB.out)) hb)
          clear BK1085
          clear HB
          have HO1090 := n0_
          have BK1085 := n1_
          have HB := n2_
          clear n0_ n1_ n2_
          (try clear hb)
          (try clear hb2)
          (try clear hk)
          (try clear hi)
          (try clear ho0)
          refine hK.out _ _ ⟨(blk_cell BK1085.out 0).trans rfl, (blk_cell BK1085.out 1).trans rfl⟩ (fun hHeld => ?_)
          clear hK K
          refine norm_ (a' := ?_) ?_ ?_
          rotate_left
          · show Act.put _ (some 25) _ = _
            simp only [Act.put, List.setIfInBounds_toArray, List.set_cons_zero, List.set_cons_succ, i64_w, i32_w]
            rfl
          refine one_ (i := 3) (N := some 27) #[true, true, true, true, true, true, false, false] rfl rfl (one_of HT_.out (by kernel_rfl)) (by decide) (fun K hK => ?_)
          refine goes_ Try.func54 (by kernel_rfl) rfl #[.agg #[.slice A1_0 l1_0.length c1_0, .slice A1_1 l1_1.length c1_1]] (by rfl) rfl rfl (by (try simp only [List.map_toArray, List.map_cons, List.map_nil]); first | done | rfl | (simp only [List.length_drop, List.length_take]; rfl)) ?_
          with_reducible refine (laws_toLay.calls kj10 _ _ l1_0 _ _ l1_1 t1091 t1094 _ ?side1 ?side2 ?side3 ?side4 A16.out).mono ?_
          (case side1 => repeat (first | exact (Kd.C_below HR1_0.out HB.out) | (with_reducible refine Kd.C_alloc ?_ _) | (with_reducible refine Kd.C_drewN ?_ _) | (with_reducible refine Kd.C_drew ?_)))
          (case side2 => exact HC1_0.out)
          (case side3 => repeat (first | exact (Kd.C_below HR1_1.out HB.out) | (with_reducible refine Kd.C_alloc ?_ _) | (with_reducible refine Kd.C_drewN ?_ _) | (with_reducible refine Kd.C_drew ?_)))
          (case side4 => exact HC1_1.out)
          rintro e w24 ⟨v1092, v1095, rfl, ho0, ho1, hb⟩
          refine ⟨_, rfl, ?_⟩
          have n0_ := Aside0.mk (Kd.S_below (by (with_reducible repeat (first | apply Kd.S_alloc | apply Kd.S_drewN | apply Kd.S_drew)); exact HO1090.out) hb)
          have n1_ := Aside0.mk (Kd.R_lower ho0 (below_size (by repeat (first | (with_reducible first | exact HB.out | apply below_alloc | apply pw_below_drewN | apply below_drew1 | refine below_set ?_ GE1085.out) | exact HB.out))))
          have n2_ := Aside0.mk (Kd.S_lower ho1 (below_size (by repeat (first | (with_reducible first | exact HB.out | apply below_alloc | apply pw_below_drewN | apply below_drew1 | refine below_set ?_ GE1085.out) | exact HB.out))))
          have n3_ := Aside0.mk (blk_below (g := gb1085) (o := .cells #[.slice A1_0 l1_0.length c1_0, .slice A1_1 l1_1.length c1_1] 77 (0, 0)) (by (with_reducible repeat (first | refine blk_drewN ?_ _ | refine blk_drew ?_ | refine blk_alloc ?_ _)); exact BK1085.out) hb)
          have n4_ := Aside0.mk (below_step (by repeat (first | (with_reducible first | exact HB.out | apply below_alloc | apply pw_below_drewN | apply below_drew1 | refine below_set ?_ GE1085.out) | exact HB.out)) hb)
          clear HO1090
          clear BK1085
          clear HB
          have HO1090 := n0_
          have HO1093 := n1_
          have HO1096 := n2_
          have BK1085 := n3_
          have HB := n4_
          clear n0_ n1_ n2_ n3_ n4_
          (try clear hb)
          (try clear hb2)
          (try clear hk)
          (try clear hi)
          (try clear ho0)
          (try clear ho1)
          obtain ⟨Ao25, co25, eo25⟩ := Kd.S_slice HO1090.out
          (first | subst eo25 | (injection eo25 with f1_ f2_ f3_; have f4_ := f1_.symm; have f5_ := f3_.symm; clear f1_ f2_ f3_; subst f4_; subst f5_))
          obtain ⟨Ao26, co26, eo26⟩ := Kd.R_slice HO1093.out
          (first | subst eo26 | (injection eo26 with f1_ f2_ f3_; have f4_ := f1_.symm; have f5_ := f3_.symm; clear f1_ f2_ f3_; subst f4_; subst f5_))
          obtain ⟨Ao27, co27, eo27⟩ := Kd.S_slice HO1096.out
          (first | subst eo27 | (injection eo27 with f1_ f2_ f3_; have f4_ := f1_.symm; have f5_ := f3_.symm; clear f1_ f2_ f3_; subst f4_; subst f5_))
          refine hK.out _ _ ⟨(blk_cell BK1085.out 0).trans rfl, (blk_cell BK1085.out 1).trans rfl⟩ (fun hHeld => ?_)
          clear hK K
          refine norm_ (a' := ?_) ?_ ?_
          rotate_left
          · show Act.put _ (some 27) _ = _
            simp only [Act.put, List.setIfInBounds_toArray, List.set_cons_zero, List.set_cons_succ, i64_w, i32_w]
            rfl
          refine one_ (i := 6) (N := some 30) #[true, true, true, true, true, true, true, false] rfl rfl (one_of HT_.out (by kernel_rfl)) (by decide) (fun K hK => ?_)
          refine goes_ Try.func53 (by kernel_rfl) rfl #[.slice Ao25 t1088.length co25, .agg #[.slice Ao26 t1091.length co26, .slice Ao27 t1094.length co27], .int .i64 a2, .int .i64 a3] (by rfl) rfl rfl (by (try simp only [List.map_toArray, List.map_cons, List.map_nil]); first | done | rfl | (simp only [List.length_drop, List.length_take]; rfl)) ?_
          with_reducible refine (spec_LayStone.calls kj10 _ _ t1088 _ _ t1091 _ _ t1094 a2 a3 t1097 _ ?side1 ?side2 ?side3 ?side4 ?side5 ?side6 A17.out).mono ?_
          (case side1 => repeat (first | exact (Kd.S_reads' HO1090.out).2.2 | (with_reducible refine Kd.C_alloc ?_ _) | (with_reducible refine Kd.C_drewN ?_ _) | (with_reducible refine Kd.C_drew ?_)))
          (case side2 => exact (Kd.S_reads' HO1090.out).2.1)
          (case side3 => repeat (first | exact (Kd.R_reads' HO1093.out).2.2 | (with_reducible refine Kd.C_alloc ?_ _) | (with_reducible refine Kd.C_drewN ?_ _) | (with_reducible refine Kd.C_drew ?_)))
          (case side4 => exact (Kd.R_reads' HO1093.out).2.1)
          (case side5 => repeat (first | exact (Kd.S_reads' HO1096.out).2.2 | (with_reducible refine Kd.C_alloc ?_ _) | (with_reducible refine Kd.C_drewN ?_ _) | (with_reducible refine Kd.C_drew ?_)))
          (case side6 => exact (Kd.S_reads' HO1096.out).2.1)
          rintro e w28 ⟨rfl, hb⟩
          refine ⟨_, rfl, ?_⟩
          have n0_ := Aside0.mk (Kd.S_below (by (with_reducible repeat (first | apply Kd.S_alloc | apply Kd.S_drewN | apply Kd.S_drew)); exact HO1090.out) hb)
          have n1_ := Aside0.mk (Kd.R_below (by (with_reducible repeat (first | apply Kd.R_alloc | apply Kd.R_drewN | apply Kd.R_drew)); exact HO1093.out) hb)
          have n2_ := Aside0.mk (Kd.S_below (by (with_reducible repeat (first | apply Kd.S_alloc | apply Kd.S_drewN | apply Kd.S_drew)); exact HO1096.out) hb)
          have n3_ := Aside0.mk (blk_below (g := gb1085) (o := .cells #[.slice A1_0 l1_0.length c1_0, .slice A1_1 l1_1.length c1_1] 77 (0, 0)) (by (with_reducible repeat (first | refine blk_drewN ?_ _ | refine blk_drew ?_ | refine blk_alloc ?_ _)); exact BK1085.out) hb)
          have n4_ := Aside0.mk (below_step (by repeat (first | (with_reducible first | exact HB.out | apply below_alloc | apply pw_below_drewN | apply below_drew1 | refine below_set ?_ GE1085.out) | exact HB.out)) hb)
          clear HO1090
          clear HO1093
          clear HO1096
          clear BK1085
          clear HB
          have HO1090 := n0_
          have HO1093 := n1_
          have HO1096 := n2_
          have BK1085 := n3_
          have HB := n4_
          clear n0_ n1_ n2_ n3_ n4_
          (try clear hb)
          (try clear hb2)
          (try clear hk)
          (try clear hi)
          refine hK.out _ _ ⟨(blk_cell BK1085.out 0).trans rfl, (blk_cell BK1085.out 1).trans rfl⟩ (fun hHeld => ?_)
          clear hK K
          refine norm_ (a' := ?_) ?_ ?_
          rotate_left
          · show Act.put _ (some 30) _ = _
            simp only [Act.put, List.setIfInBounds_toArray, List.set_cons_zero, List.set_cons_succ, i64_w, i32_w]
            rfl
          refine pure_ (i := 7) (N := some 10) (v := ?_) (a' := ?_) #[true, true, true, true, true, true, true, true] rfl rfl (any_of HT_.out (by kernel_rfl)) (fun _ _ _ h => h) (Or.inl ⟨by rfl, ?_⟩) ?_ ?_
          rotate_left
          · intro w'
            go_simp
            with_reducible rfl
          rotate_left
          · simp only [Act.put, List.setIfInBounds_toArray, List.set_cons_zero, List.set_cons_succ, i64_w, i32_w]
            rfl
          refine done_ (done_of HT_.out (by kernel_rfl)) ?_
          go_upto_if 42 with (first | ((with_reducible refine gate_callee (f := 31) rfl ?_); refine goesL_ (some 32) rfl rfl Try.func31 (by kernel_rfl) rfl #[.slice A0 l0.length c0] rfl (by (try simp only [List.map_toArray, List.map_cons, List.map_nil]); first | done | rfl | (simp only [List.length_drop, List.length_take]; rfl)) ?_; (with_reducible refine (laws_toFunS.calls kj10 _ _ l0 t1098 _ ?side1 ?side2 A18.out).mono ?_); (case side1 => repeat (first | exact (Kd.C_below HR0.out HB.out) | (with_reducible refine Kd.C_alloc ?_ _) | (with_reducible refine Kd.C_drewN ?_ _) | (with_reducible refine Kd.C_drew ?_))); (case side2 => exact HC0.out); rintro e w29 ⟨v1099, rfl, ho0, hb⟩; refine ⟨_, rfl, ?_⟩; have n0_ := Aside0.mk (Kd.S_elder' (by (with_reducible repeat (first | apply Kd.S_alloc | apply Kd.S_drewN | apply Kd.S_drew)); exact HO1090.out) (Kd.S_base ho0) hb); have n1_ := Aside0.mk (Kd.R_below (by (with_reducible repeat (first | apply Kd.R_alloc | apply Kd.R_drewN | apply Kd.R_drew)); exact HO1093.out) hb); have n2_ := Aside0.mk (Kd.S_below (by (with_reducible repeat (first | apply Kd.S_alloc | apply Kd.S_drewN | apply Kd.S_drew)); exact HO1096.out) hb); have n3_ := Aside0.mk (Kd.S_lower (Kd.S_new' ho0 (Kd.S_lt (by (with_reducible repeat (first | apply Kd.S_alloc | apply Kd.S_drewN | apply Kd.S_drew)); exact HO1090.out))) (below_size (by repeat (first | (with_reducible first | exact HB.out | apply below_alloc | apply pw_below_drewN | apply below_drew1 | refine below_set ?_ GE1085.out) | exact HB.out)))); have n4_ := Aside0.mk (blk_below (g := gb1085) (o := .cells #[.slice A1_0 l1_0.length c1_0, .slice A1_1 l1_1.length c1_1] 77 (0, 0)) (by (with_reducible repeat (first | refine blk_drewN ?_ _ | refine blk_drew ?_ | refine blk_alloc ?_ _)); exact BK1085.out) hb); have n5_ := Aside0.mk (below_step (by repeat (first | (with_reducible first | exact HB.out | apply below_alloc | apply pw_below_drewN | apply below_drew1 | refine below_set ?_ GE1085.out) | exact HB.out)) hb); clear HO1090; clear HO1093; clear HO1096; clear BK1085; clear HB; have HO1090 := n0_; have HO1093 := n1_; have HO1096 := n2_; have HO1100 := n3_; have BK1085 := n4_; have HB := n5_; clear n0_ n1_ n2_ n3_ n4_ n5_; (try clear hb); (try clear hb2); (try clear hk); (try clear hi); (try clear ho0); have hcz30_0 : w29.cell? ⟨gb1085, 0, none⟩ = some (.slice A1_0 l1_0.length c1_0) := (blk_cell BK1085.out 0).trans rfl; have hcz30_1 : w29.cell? ⟨gb1085, 1, none⟩ = some (.slice A1_1 l1_1.length c1_1) := (blk_cell BK1085.out 1).trans rfl; have hfz30_0 := blk_frozen BK1085.out 0; have hfz30_1 := blk_frozen BK1085.out 1) | ((with_reducible refine gate_callee (f := 54) rfl ?_); refine goesL_ (some 34) rfl rfl Try.func54 (by kernel_rfl) rfl #[.agg #[.slice A1_0 l1_0.length c1_0, .slice A1_1 l1_1.length c1_1]] rfl (by (try simp only [List.map_toArray, List.map_cons, List.map_nil]); first | done | rfl | (simp only [List.length_drop, List.length_take]; rfl)) ?_; (with_reducible refine (laws_toLay.calls kj10 _ _ l1_0 _ _ l1_1 t1101 t1104 _ ?side1 ?side2 ?side3 ?side4 A19.out).mono ?_); (case side1 => repeat (first | exact (Kd.C_below HR1_0.out HB.out) | (with_reducible refine Kd.C_alloc ?_ _) | (with_reducible refine Kd.C_drewN ?_ _) | (with_reducible refine Kd.C_drew ?_))); (case side2 => exact HC1_0.out); (case side3 => repeat (first | exact (Kd.C_below HR1_1.out HB.out) | (with_reducible refine Kd.C_alloc ?_ _) | (with_reducible refine Kd.C_drewN ?_ _) | (with_reducible refine Kd.C_drew ?_))); (case side4 => exact HC1_1.out); rintro e w31 ⟨v1102, v1105, rfl, ho0, ho1, hb⟩; refine ⟨_, rfl, ?_⟩; have n0_ := Aside0.mk (Kd.S_below (by (with_reducible repeat (first | apply Kd.S_alloc | apply Kd.S_drewN | apply Kd.S_drew)); exact HO1090.out) hb); have n1_ := Aside0.mk (Kd.R_elder' (by (with_reducible repeat (first | apply Kd.R_alloc | apply Kd.R_drewN | apply Kd.R_drew)); exact HO1093.out) (Kd.R_base ho0) hb); have n2_ := Aside0.mk (Kd.S_elder' (by (with_reducible repeat (first | apply Kd.S_alloc | apply Kd.S_drewN | apply Kd.S_drew)); exact HO1096.out) (Kd.S_base ho1) hb); have n3_ := Aside0.mk (Kd.S_below (by (with_reducible repeat (first | apply Kd.S_alloc | apply Kd.S_drewN | apply Kd.S_drew)); exact HO1100.out) hb); have n4_ := Aside0.mk (Kd.R_lower (Kd.R_new' ho0 (Kd.R_lt (by (with_reducible repeat (first | apply Kd.R_alloc | apply Kd.R_drewN | apply Kd.R_drew)); exact HO1093.out))) (below_size (by repeat (first | (with_reducible first | exact HB.out | apply below_alloc | apply pw_below_drewN | apply below_drew1 | refine below_set ?_ GE1085.out) | exact HB.out)))); have n5_ := Aside0.mk (Kd.S_lower (Kd.S_new' ho1 (Kd.S_lt (by (with_reducible repeat (first | apply Kd.S_alloc | apply Kd.S_drewN | apply Kd.S_drew)); exact HO1096.out))) (below_size (by repeat (first | (with_reducible first | exact HB.out | apply below_alloc | apply pw_below_drewN | apply below_drew1 | refine below_set ?_ GE1085.out) | exact HB.out)))); have n6_ := Aside0.mk (blk_below (g := gb1085) (o := .cells #[.slice A1_0 l1_0.length c1_0, .slice A1_1 l1_1.length c1_1] 77 (0, 0)) (by (with_reducible repeat (first | refine blk_drewN ?_ _ | refine blk_drew ?_ | refine blk_alloc ?_ _)); exact BK1085.out) hb); have n7_ := Aside0.mk (below_step (by repeat (first | (with_reducible first | exact HB.out | apply below_alloc | apply pw_below_drewN | apply below_drew1 | refine below_set ?_ GE1085.out) | exact HB.out)) hb); clear HO1090; clear HO1093; clear HO1096; clear HO1100; clear BK1085; clear HB; have HO1090 := n0_; have HO1093 := n1_; have HO1096 := n2_; have HO1100 := n3_; have HO1103 := n4_; have HO1106 := n5_; have BK1085 := n6_; have HB := n7_; clear n0_ n1_ n2_ n3_ n4_ n5_ n6_ n7_; (try clear hb); (try clear hb2); (try clear hk); (try clear hi); (try clear ho0); (try clear ho1)) | ((with_reducible refine gate_dst (N := 12) rfl ?_); refine box_event ?hg (N := 12) ?hd (cs := #[.slice none 0 0, .slice none 0 0]) (t := 80) ?hr ?_; (case hd => rfl); (case hg => rfl); (case hr => first | (go_simp; done) | (go_simp; rfl)); intro gb1107 hg w32 hbox hb; have n0_ := Aside0.mk (Kd.S_below (by (with_reducible repeat (first | apply Kd.S_alloc | apply Kd.S_drewN | apply Kd.S_drew)); exact HO1090.out) hb); have n1_ := Aside0.mk (Kd.R_below (by (with_reducible repeat (first | apply Kd.R_alloc | apply Kd.R_drewN | apply Kd.R_drew)); exact HO1093.out) hb); have n2_ := Aside0.mk (Kd.S_below (by (with_reducible repeat (first | apply Kd.S_alloc | apply Kd.S_drewN | apply Kd.S_drew)); exact HO1096.out) hb); have n3_ := Aside0.mk (Kd.S_below (by (with_reducible repeat (first | apply Kd.S_alloc | apply Kd.S_drewN | apply Kd.S_drew)); exact HO1100.out) hb); have n4_ := Aside0.mk (Kd.R_below (by (with_reducible repeat (first | apply Kd.R_alloc | apply Kd.R_drewN | apply Kd.R_drew)); exact HO1103.out) hb); have n5_ := Aside0.mk (Kd.S_below (by (with_reducible repeat (first | apply Kd.S_alloc | apply Kd.S_drewN | apply Kd.S_drew)); exact HO1106.out) hb); have n6_ := Aside0.mk (blk_below (g := gb1085) (o := .cells #[.slice A1_0 l1_0.length c1_0, .slice A1_1 l1_1.length c1_1] 77 (0, 0)) (by (with_reducible repeat (first | refine blk_drewN ?_ _ | refine blk_drew ?_ | refine blk_alloc ?_ _)); exact BK1085.out) hb); have n7_ := Aside0.mk (below_step (by repeat (first | (with_reducible first | exact HB.out | apply below_alloc | apply pw_below_drewN | apply below_drew1 | refine below_set ?_ GE1085.out) | exact HB.out)) hb); have n8_ := Aside0.mk (hbox); have n9_ := Aside0.mk ((by rw [hg]; exact (below_size (by repeat (first | (with_reducible first | exact HB.out | apply below_alloc | apply pw_below_drewN | apply below_drew1 | refine below_set ?_ GE1085.out) | exact HB.out))) : w.heap.size ≤ gb1107)); have n10_ := Aside0.mk ((by rw [hg]; exact (below_size (by repeat (first | (with_reducible first | exact HB.out | apply below_alloc | apply pw_below_drewN | apply below_drew1 | refine below_set ?_ GE1085.out) | exact HB.out))) : w.heap.size ≤ gb1107)); have n11_ := Aside0.mk ((by rw [hg]; exact Nat.ne_of_lt (blk_lt (g := gb1085) (o := .cells #[.slice A1_0 l1_0.length c1_0, .slice A1_1 l1_1.length c1_1] 77 (0, 0)) (by (with_reducible repeat (first | refine blk_drewN ?_ _ | refine blk_drew ?_ | refine blk_alloc ?_ _)); exact BK1085.out)) : gb1085 ≠ gb1107)); have n12_ := Aside0.mk ((by rw [hg]; exact Nat.ne_of_gt (blk_lt (g := gb1085) (o := .cells #[.slice A1_0 l1_0.length c1_0, .slice A1_1 l1_1.length c1_1] 77 (0, 0)) (by (with_reducible repeat (first | refine blk_drewN ?_ _ | refine blk_drew ?_ | refine blk_alloc ?_ _)); exact BK1085.out)) : gb1107 ≠ gb1085)); clear HO1090; clear HO1093; clear HO1096; clear HO1100; clear HO1103; clear HO1106; clear BK1085; clear HB; have HO1090 := n0_; have HO1093 := n1_; have HO1096 := n2_; have HO1100 := n3_; have HO1103 := n4_; have HO1106 := n5_; have BK1085 := n6_; have HB := n7_; have BK1107 := n8_; have GW1107 := n9_; have GE1107 := n10_; have NB1085_1107 := n11_; have NB1107_1085 := n12_; clear n0_ n1_ n2_ n3_ n4_ n5_ n6_ n7_ n8_ n9_ n10_ n11_ n12_; clear hb hbox hg; obtain ⟨Ao33, co33, eo33⟩ := Kd.R_slice HO1103.out; subst eo33; have hnb34 := NB1107_1085.out; have hnc34 := NB1085_1107.out; have hcz35_0 : w32.cell? ⟨gb1107, 0, none⟩ = some (.slice none 0 0) := (blk_cell BK1107.out 0).trans rfl; have hcz35_1 : w32.cell? ⟨gb1107, 1, none⟩ = some (.slice none 0 0) := (blk_cell BK1107.out 1).trans rfl; have hfz35_0 := blk_frozen BK1107.out 0; have hfz35_1 := blk_frozen BK1107.out 1; obtain ⟨Ao36, co36, eo36⟩ := Kd.S_slice HO1106.out; subst eo36; obtain ⟨Ao37, co37, eo37⟩ := Kd.S_slice HO1100.out; subst eo37) | ((with_reducible refine gate_callee (f := 55) rfl ?_); refine goesL_ (some 39) rfl rfl Try.func55 (by kernel_rfl) rfl #[.slice Ao37 t1098.length co37, .agg #[.slice Ao33 t1101.length co33, .slice Ao36 t1104.length co36], .int .i64 a2, .int .i64 a3] rfl (by (try simp only [List.map_toArray, List.map_cons, List.map_nil]); first | done | rfl | (simp only [List.length_drop, List.length_take]; rfl)) ?_; (with_reducible refine (impl_LayStone.calls kj10 _ _ t1098 _ _ t1101 _ _ t1104 a2 a3 t1108 _ ?side1 ?side2 ?side3 ?side4 ?side5 ?side6 A20.out).mono ?_); (case side1 => refine (Kd.S_reads' (e := 52) (base := w.heap.size) (ok := fun k_ => (True ∧ some k_ ≠ (.slice Ao25 t1088.length co25 : Value).ownBlock)) (n := t1098.length) (c := co37) ?_).2.2; exact (by (with_reducible repeat (first | apply Kd.S_alloc | apply Kd.S_drewN | apply Kd.S_drew)); exact (Kd.S_mono (Kd.S_far (p := ⟨gb1107, 1, none⟩) (Kd.S_far (p := ⟨gb1107, 0, none⟩) (Kd.S_types HO1100.out BK1107.out (by decide)) (fun _ hk => hk.2) (.slice Ao33 t1101.length co33)) (fun _ hk => hk.2) (.slice Ao36 t1104.length co36)) (fun _ h_ => h_.1)))); (case side2 => exact (Kd.S_reads' HO1100.out).2.1); (case side3 => refine (Kd.R_reads' (e := 3) (base := w.heap.size) (ok := fun k_ => (True ∧ some k_ ≠ (.slice Ao26 t1091.length co26 : Value).ownBlock)) (n := t1101.length) (c := co33) ?_).2.2; exact (by (with_reducible repeat (first | apply Kd.R_alloc | apply Kd.R_drewN | apply Kd.R_drew)); exact (Kd.R_mono (Kd.R_far (p := ⟨gb1107, 1, none⟩) (Kd.R_far (p := ⟨gb1107, 0, none⟩) (Kd.R_types HO1103.out BK1107.out (by decide)) (fun _ hk => hk.2) (.slice Ao33 t1101.length co33)) (fun _ hk => hk.2) (.slice Ao36 t1104.length co36)) (fun _ h_ => h_.1)))); (case side4 => exact (Kd.R_reads' HO1103.out).2.1); (case side5 => refine (Kd.S_reads' (e := 24) (base := w.heap.size) (ok := fun k_ => (True ∧ some k_ ≠ (.slice Ao27 t1094.length co27 : Value).ownBlock)) (n := t1104.length) (c := co36) ?_).2.2; exact (by (with_reducible repeat (first | apply Kd.S_alloc | apply Kd.S_drewN | apply Kd.S_drew)); exact (Kd.S_mono (Kd.S_far (p := ⟨gb1107, 1, none⟩) (Kd.S_far (p := ⟨gb1107, 0, none⟩) (Kd.S_types HO1106.out BK1107.out (by decide)) (fun _ hk => hk.2) (.slice Ao33 t1101.length co33)) (fun _ hk => hk.2) (.slice Ao36 t1104.length co36)) (fun _ h_ => h_.1)))); (case side6 => exact (Kd.S_reads' HO1106.out).2.1); rintro e w38 ⟨rfl, hb⟩; refine ⟨_, rfl, ?_⟩; have n0_ := Aside0.mk (Kd.S_below (by (with_reducible repeat (first | apply Kd.S_alloc | apply Kd.S_drewN | apply Kd.S_drew)); exact (Kd.S_mono (Kd.S_far (p := ⟨gb1107, 1, none⟩) (Kd.S_far (p := ⟨gb1107, 0, none⟩) (Kd.S_types HO1090.out BK1107.out (by decide)) (fun _ hk => hk.2) (.slice Ao33 t1101.length co33)) (fun _ hk => hk.2) (.slice Ao36 t1104.length co36)) (fun _ h_ => h_.1))) hb); have n1_ := Aside0.mk (Kd.R_below (by (with_reducible repeat (first | apply Kd.R_alloc | apply Kd.R_drewN | apply Kd.R_drew)); exact (Kd.R_mono (Kd.R_far (p := ⟨gb1107, 1, none⟩) (Kd.R_far (p := ⟨gb1107, 0, none⟩) (Kd.R_types HO1093.out BK1107.out (by decide)) (fun _ hk => hk.2) (.slice Ao33 t1101.length co33)) (fun _ hk => hk.2) (.slice Ao36 t1104.length co36)) (fun _ h_ => h_.1))) hb); have n2_ := Aside0.mk (Kd.S_below (by (with_reducible repeat (first | apply Kd.S_alloc | apply Kd.S_drewN | apply Kd.S_drew)); exact (Kd.S_mono (Kd.S_far (p := ⟨gb1107, 1, none⟩) (Kd.S_far (p := ⟨gb1107, 0, none⟩) (Kd.S_types HO1096.out BK1107.out (by decide)) (fun _ hk => hk.2) (.slice Ao33 t1101.length co33)) (fun _ hk => hk.2) (.slice Ao36 t1104.length co36)) (fun _ h_ => h_.1))) hb); have n3_ := Aside0.mk (Kd.S_below (by (with_reducible repeat (first | apply Kd.S_alloc | apply Kd.S_drewN | apply Kd.S_drew)); exact (Kd.S_mono (Kd.S_far (p := ⟨gb1107, 1, none⟩) (Kd.S_far (p := ⟨gb1107, 0, none⟩) (Kd.S_types HO1100.out BK1107.out (by decide)) (fun _ hk => hk.2) (.slice Ao33 t1101.length co33)) (fun _ hk => hk.2) (.slice Ao36 t1104.length co36)) (fun _ h_ => h_.1))) hb); have n4_ := Aside0.mk (Kd.R_below (by (with_reducible repeat (first | apply Kd.R_alloc | apply Kd.R_drewN | apply Kd.R_drew)); exact (Kd.R_mono (Kd.R_far (p := ⟨gb1107, 1, none⟩) (Kd.R_far (p := ⟨gb1107, 0, none⟩) (Kd.R_types HO1103.out BK1107.out (by decide)) (fun _ hk => hk.2) (.slice Ao33 t1101.length co33)) (fun _ hk => hk.2) (.slice Ao36 t1104.length co36)) (fun _ h_ => h_.1))) hb); have n5_ := Aside0.mk (Kd.S_below (by (with_reducible repeat (first | apply Kd.S_alloc | apply Kd.S_drewN | apply Kd.S_drew)); exact (Kd.S_mono (Kd.S_far (p := ⟨gb1107, 1, none⟩) (Kd.S_far (p := ⟨gb1107, 0, none⟩) (Kd.S_types HO1106.out BK1107.out (by decide)) (fun _ hk => hk.2) (.slice Ao33 t1101.length co33)) (fun _ hk => hk.2) (.slice Ao36 t1104.length co36)) (fun _ h_ => h_.1))) hb); have n6_ := Aside0.mk (blk_below (g := gb1085) (o := .cells #[.slice A1_0 l1_0.length c1_0, .slice A1_1 l1_1.length c1_1] 77 (0, 0)) (by (with_reducible repeat (first | refine blk_drewN ?_ _ | refine blk_drew ?_ | refine blk_alloc ?_ _)); refine blk_far ?_ NB1085_1107.out _; (with_reducible repeat (first | refine blk_drewN ?_ _ | refine blk_drew ?_ | refine blk_alloc ?_ _)); refine blk_far ?_ NB1085_1107.out _; (with_reducible repeat (first | refine blk_drewN ?_ _ | refine blk_drew ?_ | refine blk_alloc ?_ _)); exact BK1085.out) hb); have n7_ := Aside0.mk (blk_below (g := gb1107) (o := .cells #[.slice Ao33 t1101.length co33, .slice Ao36 t1104.length co36] 80 (0, 0)) (by (with_reducible repeat (first | refine blk_drewN ?_ _ | refine blk_drew ?_ | refine blk_alloc ?_ _)); refine blk_put (cs := #[.slice Ao33 t1101.length co33, .slice none 0 0]) ?_ 1 _ rfl; (with_reducible repeat (first | refine blk_drewN ?_ _ | refine blk_drew ?_ | refine blk_alloc ?_ _)); refine blk_put (cs := #[.slice none 0 0, .slice none 0 0]) ?_ 0 _ rfl; (with_reducible repeat (first | refine blk_drewN ?_ _ | refine blk_drew ?_ | refine blk_alloc ?_ _)); exact BK1107.out) hb); have n8_ := Aside0.mk (below_step (by repeat (first | (with_reducible first | exact HB.out | apply below_alloc | apply pw_below_drewN | apply below_drew1 | refine below_set ?_ GE1085.out | refine below_set ?_ GE1107.out) | exact HB.out)) hb); clear HO1090; clear HO1093; clear HO1096; clear HO1100; clear HO1103; clear HO1106; clear BK1085; clear BK1107; clear HB; have HO1090 := n0_; have HO1093 := n1_; have HO1096 := n2_; have HO1100 := n3_; have HO1103 := n4_; have HO1106 := n5_; have BK1085 := n6_; have BK1107 := n7_; have HB := n8_; clear n0_ n1_ n2_ n3_ n4_ n5_ n6_ n7_ n8_; (try clear hb); (try clear hb2); (try clear hk); (try clear hi)))
          (try simp only [Act.put, List.setIfInBounds_toArray, List.set_cons_zero, List.set_cons_succ])
          go_cut [] (fun wc => ∃ (kq : Nat), Aside0 (laws_FnExactLayStone.j2 kq l0 t1098 l1_0 l1_1 t1101 t1104 = some r) ∧ Aside0 (kq ≤ kj10) ∧ Aside0 (Kd.S k52 52 wc w.heap.size (fun _ => True) (.slice Ao37 t1098.length co37) t1098) ∧ Aside0 (Kd.R (Kd.int .i64) 3 wc w.heap.size (fun _ => True) (.slice Ao33 t1101.length co33) t1101) ∧ Aside0 (Kd.S (Kd.slice 9 Kd.string) 24 wc w.heap.size (fun _ => True) (.slice Ao36 t1104.length co36) t1104) ∧ Aside0 (wc.heap[gb1085]? = some (.cells #[(.slice A1_0 l1_0.length c1_0), (.slice A1_1 l1_1.length c1_1)] 77 (0, 0))) ∧ Aside0 (wc.heap[gb1107]? = some (.cells #[(.slice Ao33 t1101.length co33), (.slice Ao36 t1104.length co36)] 80 (0, 0))) ∧ Aside0 (Below w.heap.size w wc))
          case first =>
            have H := HC21.out
            clear HC21
            by_cases c39 : t1108 = t1097
            · rw [if_pos c39] at H
              have c39b0 : (t1108 == t1097) = true := beq_iff_eq.mpr c39
              have c39b1 : (t1108 != t1097) = false := bne_eq_false_iff_eq.mpr c39
              clear c39
              (first | rw [c39b0] | (simp only [i64_w, i32_w]; rw [c39b0]) | (have cn_ := c39b0; simp only [bne] at cn_; rw [cn_]; clear cn_) | skip)
              have H' := Aside0.mk H
              clear H
              go_wp2
              go_meet
              case rel => exact ⟨_, H', ⟨by have := HJ5.out; have := HJ10.out; first | omega | exact Nat.le_refl _⟩, ⟨by (with_reducible repeat (first | apply Kd.S_alloc | apply Kd.S_drewN | apply Kd.S_drew)); exact Kd.S_mono HO1100.out (fun _ hk => trivial)⟩, ⟨by (with_reducible repeat (first | apply Kd.R_alloc | apply Kd.R_drewN | apply Kd.R_drew)); exact Kd.R_mono HO1103.out (fun _ hk => trivial)⟩, ⟨by (with_reducible repeat (first | apply Kd.S_alloc | apply Kd.S_drewN | apply Kd.S_drew)); exact Kd.S_mono HO1106.out (fun _ hk => trivial)⟩, ⟨by (with_reducible repeat (first | refine blk_drewN ?_ _ | refine blk_drew ?_ | refine blk_alloc ?_ _)); exact BK1085.out⟩, ⟨by (with_reducible repeat (first | refine blk_drewN ?_ _ | refine blk_drew ?_ | refine blk_alloc ?_ _)); exact BK1107.out⟩, ⟨by repeat (first | (with_reducible first | exact HB.out | apply below_alloc | apply pw_below_drewN | apply below_drew1 | refine below_set ?_ GE1085.out | refine below_set ?_ GE1107.out) | exact HB.out)⟩⟩
            · rw [if_neg c39] at H
              have c39b0 : (t1108 == t1097) = false := beq_eq_false_iff_ne.mpr c39
              have c39b1 : (t1108 != t1097) = true := bne_iff_ne.mpr c39
              (first | rw [c39b0] | (simp only [i64_w, i32_w]; rw [c39b0]) | (have cn_ := c39b0; simp only [bne] at cn_; rw [cn_]; clear cn_) | skip)
              obtain rfl := Option.some.inj H
              go_wp2
              go_ret
              exact ⟨by first | rfl | (simp [errW_none, errW_some] <;> rfl) | (simp [*, errW_none, errW_some] <;> rfl), by repeat (first | (with_reducible first | exact HB.out | apply below_alloc | apply pw_below_drewN | apply below_drew1 | refine below_set ?_ GE1085.out | refine below_set ?_ GE1107.out) | exact HB.out)⟩
          case rest =>
            clear HC21
            try clear c1
            try clear c2
            try clear p2
            try clear c3
            try clear c5
            try clear c9
            try clear c9b0
            try clear c13
            try clear c14
            try clear c14b0
            try clear c29
            try clear c31
            try clear c34
            try clear c39
            try clear c39b0
            try clear c39b1
            try clear hcz12_0
            try clear hcz12_1
            try clear hcz30_0
            try clear hcz30_1
            try clear hcz35_0
            try clear hcz35_1
            try clear hfz12_0
            try clear hfz12_1
            try clear hfz30_0
            try clear hfz30_1
            try clear hfz35_0
            try clear hfz35_1
            try clear p2
            obtain ⟨kq, HA, HJ20, HO_11, HO_1108000, HO_1108001, BK1085, BK1107, HB⟩ := hcut
            cases kq with
            | zero => exact absurd HA.out (by simp [laws_FnExactLayStone.j2])
            | succ kj20 =>
              have H := HA.out
              clear HA
              simp only [laws_FnExactLayStone.j2] at H
              replace H := Option.bind_eq_some_iff.mp H
              obtain ⟨t1109, A400, H⟩ := H
              replace H : ((laws_eqFunS.f kj20 t1098 t1109).bind fun t1112 => (if t1112 = true then (laws_FnExactLayStone.j3 kj20 l1_0 l1_1 t1101 t1104) else (some false))) = some r := H
              have A40 := Aside0.mk A400
              clear A400
              replace H := Option.bind_eq_some_iff.mp H
              obtain ⟨t1112, A410, H⟩ := H
              replace H : (if t1112 = true then (laws_FnExactLayStone.j3 kj20 l1_0 l1_1 t1101 t1104) else (some false)) = some r := H
              have A41 := Aside0.mk A410
              clear A410
              have HC42 := Aside0.mk H
              clear H
              go_upto_if 47 with (first | ((with_reducible refine gate_callee (f := 31) rfl ?_); refine goesL_ (some 45) rfl rfl Try.func31 (by kernel_rfl) rfl #[.slice A0 l0.length c0] rfl (by (try simp only [List.map_toArray, List.map_cons, List.map_nil]); first | done | rfl | (simp only [List.length_drop, List.length_take]; rfl)) ?_; (with_reducible refine (laws_toFunS.calls kj20 _ _ l0 t1109 _ ?side1 ?side2 A40.out).mono ?_); (case side1 => repeat (first | exact (Kd.C_below HR0.out HB.out) | (with_reducible refine Kd.C_alloc ?_ _) | (with_reducible refine Kd.C_drewN ?_ _) | (with_reducible refine Kd.C_drew ?_))); (case side2 => exact HC0.out); rintro e w43 ⟨v1110, rfl, ho0, hb⟩; refine ⟨_, rfl, ?_⟩; have n0_ := Aside0.mk (Kd.S_elder' (by (with_reducible repeat (first | apply Kd.S_alloc | apply Kd.S_drewN | apply Kd.S_drew)); exact HO_11.out) (Kd.S_base ho0) hb); have n1_ := Aside0.mk (Kd.R_below (by (with_reducible repeat (first | apply Kd.R_alloc | apply Kd.R_drewN | apply Kd.R_drew)); exact HO_1108000.out) hb); have n2_ := Aside0.mk (Kd.S_below (by (with_reducible repeat (first | apply Kd.S_alloc | apply Kd.S_drewN | apply Kd.S_drew)); exact HO_1108001.out) hb); have n3_ := Aside0.mk (Kd.S_lower (Kd.S_new' ho0 (Kd.S_lt (by (with_reducible repeat (first | apply Kd.S_alloc | apply Kd.S_drewN | apply Kd.S_drew)); exact HO_11.out))) (below_size (by repeat (first | (with_reducible first | exact HB.out | apply below_alloc | apply pw_below_drewN | apply below_drew1 | refine below_set ?_ GE1085.out | refine below_set ?_ GE1107.out) | exact HB.out)))); have n4_ := Aside0.mk (blk_below (g := gb1085) (o := .cells #[.slice A1_0 l1_0.length c1_0, .slice A1_1 l1_1.length c1_1] 77 (0, 0)) (by (with_reducible repeat (first | refine blk_drewN ?_ _ | refine blk_drew ?_ | refine blk_alloc ?_ _)); exact BK1085.out) hb); have n5_ := Aside0.mk (blk_below (g := gb1107) (o := .cells #[.slice Ao33 t1101.length co33, .slice Ao36 t1104.length co36] 80 (0, 0)) (by (with_reducible repeat (first | refine blk_drewN ?_ _ | refine blk_drew ?_ | refine blk_alloc ?_ _)); exact BK1107.out) hb); have n6_ := Aside0.mk (below_step (by repeat (first | (with_reducible first | exact HB.out | apply below_alloc | apply pw_below_drewN | apply below_drew1 | refine below_set ?_ GE1085.out | refine below_set ?_ GE1107.out) | exact HB.out)) hb); clear HO_11; clear HO_1108000; clear HO_1108001; clear BK1085; clear BK1107; clear HB; have HO_11 := n0_; have HO_1108000 := n1_; have HO_1108001 := n2_; have HO1111 := n3_; have BK1085 := n4_; have BK1107 := n5_; have HB := n6_; clear n0_ n1_ n2_ n3_ n4_ n5_ n6_; (try clear hb); (try clear hb2); (try clear hk); (try clear hi); (try clear ho0); obtain ⟨Ao44, co44, eo44⟩ := Kd.S_slice HO1111.out; subst eo44) | ((with_reducible refine gate_callee (f := 33) rfl ?_); refine goesL_ (some 46) rfl rfl Try.func33 (by kernel_rfl) rfl #[.slice Ao37 t1098.length co37, .slice Ao44 t1109.length co44] rfl (by (try simp only [List.map_toArray, List.map_cons, List.map_nil]); first | done | rfl | (simp only [List.length_drop, List.length_take]; rfl)) ?_; (with_reducible refine (laws_eqFunS.calls kj20 _ _ t1098 _ _ t1109 t1112 _ ?side1 ?side2 ?side3 ?side4 A41.out).mono ?_); (case side1 => repeat (first | exact (Kd.S_reads' HO_11.out).2.2 | (with_reducible refine Kd.C_alloc ?_ _) | (with_reducible refine Kd.C_drewN ?_ _) | (with_reducible refine Kd.C_drew ?_))); (case side2 => exact (Kd.S_reads' HO_11.out).2.1); (case side3 => repeat (first | exact (Kd.S_reads' HO1111.out).2.2 | (with_reducible refine Kd.C_alloc ?_ _) | (with_reducible refine Kd.C_drewN ?_ _) | (with_reducible refine Kd.C_drew ?_))); (case side4 => exact (Kd.S_reads' HO1111.out).2.1); rintro e w45 ⟨rfl, hb⟩; refine ⟨_, rfl, ?_⟩; have n0_ := Aside0.mk (Kd.S_below (by (with_reducible repeat (first | apply Kd.S_alloc | apply Kd.S_drewN | apply Kd.S_drew)); exact HO_11.out) hb); have n1_ := Aside0.mk (Kd.R_below (by (with_reducible repeat (first | apply Kd.R_alloc | apply Kd.R_drewN | apply Kd.R_drew)); exact HO_1108000.out) hb); have n2_ := Aside0.mk (Kd.S_below (by (with_reducible repeat (first | apply Kd.S_alloc | apply Kd.S_drewN | apply Kd.S_drew)); exact HO_1108001.out) hb); have n3_ := Aside0.mk (Kd.S_below (by (with_reducible repeat (first | apply Kd.S_alloc | apply Kd.S_drewN | apply Kd.S_drew)); exact HO1111.out) hb); have n4_ := Aside0.mk (blk_below (g := gb1085) (o := .cells #[.slice A1_0 l1_0.length c1_0, .slice A1_1 l1_1.length c1_1] 77 (0, 0)) (by (with_reducible repeat (first | refine blk_drewN ?_ _ | refine blk_drew ?_ | refine blk_alloc ?_ _)); exact BK1085.out) hb); have n5_ := Aside0.mk (blk_below (g := gb1107) (o := .cells #[.slice Ao33 t1101.length co33, .slice Ao36 t1104.length co36] 80 (0, 0)) (by (with_reducible repeat (first | refine blk_drewN ?_ _ | refine blk_drew ?_ | refine blk_alloc ?_ _)); exact BK1107.out) hb); have n6_ := Aside0.mk (below_step (by repeat (first | (with_reducible first | exact HB.out | apply below_alloc | apply pw_below_drewN | apply below_drew1 | refine below_set ?_ GE1085.out | refine below_set ?_ GE1107.out) | exact HB.out)) hb); clear HO_11; clear HO_1108000; clear HO_1108001; clear HO1111; clear BK1085; clear BK1107; clear HB; have HO_11 := n0_; have HO_1108000 := n1_; have HO_1108001 := n2_; have HO1111 := n3_; have BK1085 := n4_; have BK1107 := n5_; have HB := n6_; clear n0_ n1_ n2_ n3_ n4_ n5_ n6_; (try clear hb); (try clear hb2); (try clear hk); (try clear hi)))
              (try simp only [Act.put, List.setIfInBounds_toArray, List.set_cons_zero, List.set_cons_succ])
              go_cut [] (fun wc => ∃ (kq : Nat), Aside0 (laws_FnExactLayStone.j3 kq l1_0 l1_1 t1101 t1104 = some r) ∧ Aside0 (kq ≤ kj20) ∧ Aside0 (Kd.R (Kd.int .i64) 3 wc w.heap.size (fun _ => True) (.slice Ao33 t1101.length co33) t1101) ∧ Aside0 (Kd.S (Kd.slice 9 Kd.string) 24 wc w.heap.size (fun _ => True) (.slice Ao36 t1104.length co36) t1104) ∧ Aside0 (wc.heap[gb1085]? = some (.cells #[(.slice A1_0 l1_0.length c1_0), (.slice A1_1 l1_1.length c1_1)] 77 (0, 0))) ∧ Aside0 (wc.heap[gb1107]? = some (.cells #[(.slice Ao33 t1101.length co33), (.slice Ao36 t1104.length co36)] 80 (0, 0))) ∧ Aside0 (Below w.heap.size w wc))
              case first =>
                have H := HC42.out
                clear HC42
                by_cases c46 : t1112 = true
                · subst c46
                  have H1 : (laws_FnExactLayStone.j3 kj20 l1_0 l1_1 t1101 t1104) = some r := by rw [if_pos rfl] at H; exact H
                  clear H
                  have H := H1
                  clear H1
                  have H' := Aside0.mk H
                  clear H
                  go_wp2
                  go_meet
                  case rel => exact ⟨_, H', ⟨by have := HJ5.out; have := HJ10.out; have := HJ20.out; first | omega | exact Nat.le_refl _⟩, ⟨by (with_reducible repeat (first | apply Kd.R_alloc | apply Kd.R_drewN | apply Kd.R_drew)); exact HO_1108000.out⟩, ⟨by (with_reducible repeat (first | apply Kd.S_alloc | apply Kd.S_drewN | apply Kd.S_drew)); exact HO_1108001.out⟩, ⟨by (with_reducible repeat (first | refine blk_drewN ?_ _ | refine blk_drew ?_ | refine blk_alloc ?_ _)); exact BK1085.out⟩, ⟨by (with_reducible repeat (first | refine blk_drewN ?_ _ | refine blk_drew ?_ | refine blk_alloc ?_ _)); exact BK1107.out⟩, ⟨by repeat (first | (with_reducible first | exact HB.out | apply below_alloc | apply pw_below_drewN | apply below_drew1 | refine below_set ?_ GE1085.out | refine below_set ?_ GE1107.out) | exact HB.out)⟩⟩
                · replace c46 := Bool.eq_false_iff.mpr c46
                  subst c46
                  have H1 : (some false) = some r := by rw [if_neg (show ¬ (false = true) by decide)] at H; exact H
                  clear H
                  have H := H1
                  clear H1
                  obtain rfl := Option.some.inj H
                  go_wp2
                  go_ret
                  exact ⟨by first | rfl | (simp [errW_none, errW_some] <;> rfl) | (simp [*, errW_none, errW_some] <;> rfl), by repeat (first | (with_reducible first | exact HB.out | apply below_alloc | apply pw_below_drewN | apply below_drew1 | refine below_set ?_ GE1085.out | refine below_set ?_ GE1107.out) | exact HB.out)⟩
              case rest =>
                clear HC42
                try clear c1
                try clear c2
                try clear p2
                try clear c3
                try clear c4
                try clear c5
                try clear c9
                try clear c9b0
                try clear c13
                try clear c14
                try clear c14b0
                try clear c29
                try clear c31
                try clear c33
                try clear c34
                try clear c39
                try clear c39b0
                try clear c39b1
                try clear c46
                try clear hcz12_0
                try clear hcz12_1
                try clear hcz30_0
                try clear hcz30_1
                try clear hcz35_0
                try clear hcz35_1
                try clear hfz12_0
                try clear hfz12_1
                try clear hfz30_0
                try clear hfz30_1
                try clear hfz35_0
                try clear hfz35_1
                try clear p2
                obtain ⟨kq, HA, HJ41, HO_1108000, HO_1108001, BK1085, BK1107, HB⟩ := hcut
                cases kq with
                | zero => exact absurd HA.out (by simp [laws_FnExactLayStone.j3])
                | succ kj41 =>
                  have H := HA.out
                  clear HA
                  simp only [laws_FnExactLayStone.j3] at H
                  replace H := Option.bind_eq_some_iff.mp H
                  obtain ⟨⟨t1113, t1116⟩, A470, H⟩ := H
                  replace H : ((laws_eqLay.f kj41 t1101 t1104 t1113 t1116).bind fun t1119 => (if t1119 = true then (some true) else (some false))) = some r := H
                  have A47 := Aside0.mk A470
                  clear A470
                  replace H := Option.bind_eq_some_iff.mp H
                  obtain ⟨t1119, A480, H⟩ := H
                  replace H : (if t1119 = true then (some true) else (some false)) = some r := H
                  have A48 := Aside0.mk A480
                  clear A480
                  by_cases c49 : t1119 = true
                  · subst c49
                    have H1 : (some true) = some r := by rw [if_pos rfl] at H; exact H
                    clear H
                    have H := H1
                    clear H1
                    obtain rfl := Option.some.inj H
                    try go_wp2
                    have n0_ := Aside0.mk (Kd.R_drew HO_1108000.out)
                    have n1_ := Aside0.mk (Kd.S_drew HO_1108001.out)
                    have n2_ := Aside0.mk (blk_drew BK1085.out)
                    have n3_ := Aside0.mk (blk_drew BK1107.out)
                    have n4_ := Aside0.mk (below_drew1 HB.out)
                    clear HO_1108000
                    clear HO_1108001
                    clear BK1085
                    clear BK1107
                    clear HB
                    have HO_1108000 := n0_
                    have HO_1108001 := n1_
                    have BK1085 := n2_
                    have BK1107 := n3_
                    have HB := n4_
                    clear n0_ n1_ n2_ n3_ n4_
                    refine start_ (n := 5) (S := fun w' => w'.cell? ⟨gb1107, 0, none⟩ = some (.slice Ao33 t1101.length co33) ∧ w'.cell? ⟨gb1107, 1, none⟩ = some (.slice Ao36 t1104.length co36) ∧ w'.cell? ⟨gb1085, 0, none⟩ = some (.slice A1_0 l1_0.length c1_0) ∧ w'.cell? ⟨gb1085, 1, none⟩ = some (.slice A1_1 l1_1.length c1_1)) (ds := []) #[false, false, false, false, false] (by kernel_rfl) rfl rfl ⟨(blk_cell BK1107.out 0).trans rfl, (blk_cell BK1107.out 1).trans rfl, (blk_cell BK1085.out 0).trans rfl, (blk_cell BK1085.out 1).trans rfl⟩ (fun hHeld => ?_)
                    generalize wc.drew = w50 at HO_1108000 HO_1108001 BK1085 BK1107 HB hHeld ⊢
                    refine take_ (i := 0) (N := some 48) (v := ?_) (a' := ?_) #[true, false, false, false, false] rfl rfl (by kernel_rfl) (fun _ _ _ h => h) (Or.inl ⟨by rfl, ?_⟩) hHeld ?_ ?_
                    rotate_left
                    · rintro w' ⟨s0, s1, s2, s3⟩
                      go_simp
                      with_reducible rfl
                    rotate_left
                    · simp only [Act.put, List.setIfInBounds_toArray, List.set_cons_zero, List.set_cons_succ, i64_w, i32_w]
                      rfl
                    refine take_ (i := 1) (N := some 49) (v := ?_) (a' := ?_) #[true, true, false, false, false] rfl rfl (by kernel_rfl) (fun _ _ _ h => h) (Or.inl ⟨by rfl, ?_⟩) hHeld ?_ ?_
                    rotate_left
                    · rintro w' ⟨s0, s1, s2, s3⟩
                      go_simp
                      with_reducible rfl
                    rotate_left
                    · simp only [Act.put, List.setIfInBounds_toArray, List.set_cons_zero, List.set_cons_succ, i64_w, i32_w]
                      rfl
                    refine one_ (i := 2) (N := some 50) #[true, true, true, false, false] rfl rfl (by kernel_rfl) (by decide) (fun K hK => ?_)
                    refine goes_ Try.func54 (by kernel_rfl) rfl #[.agg #[.slice A1_0 l1_0.length c1_0, .slice A1_1 l1_1.length c1_1]] (by rfl) rfl rfl (by (try simp only [List.map_toArray, List.map_cons, List.map_nil]); first | done | rfl | (simp only [List.length_drop, List.length_take]; rfl)) ?_
                    with_reducible refine (laws_toLay.calls kj41 _ _ l1_0 _ _ l1_1 t1113 t1116 _ ?side1 ?side2 ?side3 ?side4 A47.out).mono ?_
                    (case side1 => repeat (first | exact (Kd.C_below HR1_0.out HB.out) | (with_reducible refine Kd.C_alloc ?_ _) | (with_reducible refine Kd.C_drewN ?_ _) | (with_reducible refine Kd.C_drew ?_)))
                    (case side2 => exact HC1_0.out)
                    (case side3 => repeat (first | exact (Kd.C_below HR1_1.out HB.out) | (with_reducible refine Kd.C_alloc ?_ _) | (with_reducible refine Kd.C_drewN ?_ _) | (with_reducible refine Kd.C_drew ?_)))
                    (case side4 => exact HC1_1.out)
                    rintro e w51 ⟨v1114, v1117, rfl, ho0, ho1, hb⟩
                    refine ⟨_, rfl, ?_⟩
                    have n0_ := Aside0.mk (Kd.R_elder' (by (with_reducible repeat (first | apply Kd.R_alloc | apply Kd.R_drewN | apply Kd.R_drew)); exact HO_1108000.out) (Kd.R_base ho0) hb)
                    have n1_ := Aside0.mk (Kd.S_elder' (by (with_reducible repeat (first | apply Kd.S_alloc | apply Kd.S_drewN | apply Kd.S_drew)); exact HO_1108001.out) (Kd.S_base ho1) hb)
                    have n2_ := Aside0.mk (Kd.R_lower (Kd.R_new' ho0 (Kd.R_lt (by (with_reducible repeat (first | apply Kd.R_alloc | apply Kd.R_drewN | apply Kd.R_drew)); exact HO_1108000.out))) (below_size (by repeat (first | (with_reducible first | exact HB.out | apply below_alloc | apply pw_below_drewN | apply below_drew1 | refine below_set ?_ GE1085.out | refine below_set ?_ GE1107.out) | exact HB.out))))
                    have n3_ := Aside0.mk (Kd.S_lower (Kd.S_new' ho1 (Kd.S_lt (by (with_reducible repeat (first | apply Kd.S_alloc | apply Kd.S_drewN | apply Kd.S_drew)); exact HO_1108001.out))) (below_size (by repeat (first | (with_reducible first | exact HB.out | apply below_alloc | apply pw_below_drewN | apply below_drew1 | refine below_set ?_ GE1085.out | refine below_set ?_ GE1107.out) | exact HB.out))))
                    have n4_ := Aside0.mk (blk_below (g := gb1085) (o := .cells #[.slice A1_0 l1_0.length c1_0, .slice A1_1 l1_1.length c1_1] 77 (0, 0)) (by (with_reducible repeat (first | refine blk_drewN ?_ _ | refine blk_drew ?_ | refine blk_alloc ?_ _)); exact BK1085.out) hb)
                    have n5_ := Aside0.mk (blk_below (g := gb1107) (o := .cells #[.slice Ao33 t1101.length co33, .slice Ao36 t1104.length co36] 80 (0, 0)) (by (with_reducible repeat (first | refine blk_drewN ?_ _ | refine blk_drew ?_ | refine blk_alloc ?_ _)); exact BK1107.out) hb)
                    have n6_ := Aside0.mk (below_step (by repeat (first | (with_reducible first | exact HB.out | apply below_alloc | apply pw_below_drewN | apply below_drew1 | refine below_set ?_ GE1085.out | refine below_set ?_ GE1107.out) | exact HB.out)) hb)
                    clear HO_1108000
                    clear HO_1108001
                    clear BK1085
                    clear BK1107
                    clear HB
                    have HO_1108000 := n0_
                    have HO_1108001 := n1_
                    have HO1115 := n2_
                    have HO1118 := n3_
                    have BK1085 := n4_
                    have BK1107 := n5_
                    have HB := n6_
                    clear n0_ n1_ n2_ n3_ n4_ n5_ n6_
                    (try clear hb)
                    (try clear hb2)
                    (try clear hk)
                    (try clear hi)
                    (try clear ho0)
                    (try clear ho1)
                    obtain ⟨Ao52, co52, eo52⟩ := Kd.R_slice HO1115.out
                    (first | subst eo52 | (injection eo52 with f1_ f2_ f3_; have f4_ := f1_.symm; have f5_ := f3_.symm; clear f1_ f2_ f3_; subst f4_; subst f5_))
                    obtain ⟨Ao53, co53, eo53⟩ := Kd.S_slice HO1118.out
                    (first | subst eo53 | (injection eo53 with f1_ f2_ f3_; have f4_ := f1_.symm; have f5_ := f3_.symm; clear f1_ f2_ f3_; subst f4_; subst f5_))
                    refine hK.out _ _ ⟨(blk_cell BK1107.out 0).trans rfl, (blk_cell BK1107.out 1).trans rfl, (blk_cell BK1085.out 0).trans rfl, (blk_cell BK1085.out 1).trans rfl⟩ (fun hHeld => ?_)
                    clear hK K
                    refine norm_ (a' := ?_) ?_ ?_
                    rotate_left
                    · show Act.put _ (some 50) _ = _
                      simp only [Act.put, List.setIfInBounds_toArray, List.set_cons_zero, List.set_cons_succ, i64_w, i32_w]
                      rfl
                    refine one_ (i := 3) (N := some 51) #[true, true, true, true, false] rfl rfl (by kernel_rfl) (by decide) (fun K hK => ?_)
                    refine goes_ Try.func56 (by kernel_rfl) rfl #[.agg #[.slice Ao33 t1101.length co33, .slice Ao36 t1104.length co36], .agg #[.slice Ao52 t1113.length co52, .slice Ao53 t1116.length co53]] (by rfl) rfl rfl (by (try simp only [List.map_toArray, List.map_cons, List.map_nil]); first | done | rfl | (simp only [List.length_drop, List.length_take]; rfl)) ?_
                    with_reducible refine (laws_eqLay.calls kj41 _ _ t1101 _ _ t1104 _ _ t1113 _ _ t1116 true _ ?side1 ?side2 ?side3 ?side4 ?side5 ?side6 ?side7 ?side8 A48.out).mono ?_
                    (case side1 => repeat (first | exact (Kd.R_reads' HO_1108000.out).2.2 | (with_reducible refine Kd.C_alloc ?_ _) | (with_reducible refine Kd.C_drewN ?_ _) | (with_reducible refine Kd.C_drew ?_)))
                    (case side2 => exact (Kd.R_reads' HO_1108000.out).2.1)
                    (case side3 => repeat (first | exact (Kd.S_reads' HO_1108001.out).2.2 | (with_reducible refine Kd.C_alloc ?_ _) | (with_reducible refine Kd.C_drewN ?_ _) | (with_reducible refine Kd.C_drew ?_)))
                    (case side4 => exact (Kd.S_reads' HO_1108001.out).2.1)
                    (case side5 => repeat (first | exact (Kd.R_reads' HO1115.out).2.2 | (with_reducible refine Kd.C_alloc ?_ _) | (with_reducible refine Kd.C_drewN ?_ _) | (with_reducible refine Kd.C_drew ?_)))
                    (case side6 => exact (Kd.R_reads' HO1115.out).2.1)
                    (case side7 => repeat (first | exact (Kd.S_reads' HO1118.out).2.2 | (with_reducible refine Kd.C_alloc ?_ _) | (with_reducible refine Kd.C_drewN ?_ _) | (with_reducible refine Kd.C_drew ?_)))
                    (case side8 => exact (Kd.S_reads' HO1118.out).2.1)
                    rintro e w54 ⟨rfl, hb⟩
                    refine ⟨_, rfl, ?_⟩
                    have n0_ := Aside0.mk (Kd.R_below (by (with_reducible repeat (first | apply Kd.R_alloc | apply Kd.R_drewN | apply Kd.R_drew)); exact HO_1108000.out) hb)
                    have n1_ := Aside0.mk (Kd.S_below (by (with_reducible repeat (first | apply Kd.S_alloc | apply Kd.S_drewN | apply Kd.S_drew)); exact HO_1108001.out) hb)
                    have n2_ := Aside0.mk (Kd.R_below (by (with_reducible repeat (first | apply Kd.R_alloc | apply Kd.R_drewN | apply Kd.R_drew)); exact HO1115.out) hb)
                    have n3_ := Aside0.mk (Kd.S_below (by (with_reducible repeat (first | apply Kd.S_alloc | apply Kd.S_drewN | apply Kd.S_drew)); exact HO1118.out) hb)
                    have n4_ := Aside0.mk (blk_below (g := gb1085) (o := .cells #[.slice A1_0 l1_0.length c1_0, .slice A1_1 l1_1.length c1_1] 77 (0, 0)) (by (with_reducible repeat (first | refine blk_drewN ?_ _ | refine blk_drew ?_ | refine blk_alloc ?_ _)); exact BK1085.out) hb)
                    have n5_ := Aside0.mk (blk_below (g := gb1107) (o := .cells #[.slice Ao33 t1101.length co33, .slice Ao36 t1104.length co36] 80 (0, 0)) (by (with_reducible repeat (first | refine blk_drewN ?_ _ | refine blk_drew ?_ | refine blk_alloc ?_ _)); exact BK1107.out) hb)
                    have n6_ := Aside0.mk (below_step (by repeat (first | (with_reducible first | exact HB.out | apply below_alloc | apply pw_below_drewN | apply below_drew1 | refine below_set ?_ GE1085.out | refine below_set ?_ GE1107.out) | exact HB.out)) hb)
                    clear HO_1108000
                    clear HO_1108001
                    clear HO1115
                    clear HO1118
                    clear BK1085
                    clear BK1107
                    clear HB
                    have HO_1108000 := n0_
                    have HO_1108001 := n1_
                    have HO1115 := n2_
                    have HO1118 := n3_
                    have BK1085 := n4_
                    have BK1107 := n5_
                    have HB := n6_
                    clear n0_ n1_ n2_ n3_ n4_ n5_ n6_
                    (try clear hb)
                    (try clear hb2)
                    (try clear hk)
                    (try clear hi)
                    refine hK.out _ _ ⟨(blk_cell BK1107.out 0).trans rfl, (blk_cell BK1107.out 1).trans rfl, (blk_cell BK1085.out 0).trans rfl, (blk_cell BK1085.out 1).trans rfl⟩ (fun hHeld => ?_)
                    clear hK K
                    refine norm_ (a' := ?_) ?_ ?_
                    rotate_left
                    · show Act.put _ (some 51) _ = _
                      simp only [Act.put, List.setIfInBounds_toArray, List.set_cons_zero, List.set_cons_succ, i64_w, i32_w]
                      rfl
                    refine pure_ (i := 4) (N := some 52) (v := ?_) (a' := ?_) #[true, true, true, true, true] rfl rfl (by kernel_rfl) (fun _ _ _ h => h) (Or.inl ⟨by rfl, ?_⟩) ?_ ?_
                    rotate_left
                    · intro w'
                      go_simp
                      with_reducible rfl
                    rotate_left
                    · simp only [Act.put, List.setIfInBounds_toArray, List.set_cons_zero, List.set_cons_succ, i64_w, i32_w]
                      rfl
                    refine done_ (by kernel_rfl) ?_
                    try go_wp2
                    go_ret
                    exact ⟨by first | rfl | (simp [errW_none, errW_some] <;> rfl) | (simp [*, errW_none, errW_some] <;> rfl), by repeat (first | (with_reducible first | exact HB.out | apply below_alloc | apply pw_below_drewN | apply below_drew1 | refine below_set ?_ GE1085.out | refine below_set ?_ GE1107.out) | exact HB.out)⟩
                  · replace c49 := Bool.eq_false_iff.mpr c49
                    subst c49
                    have H1 : (some false) = some r := by rw [if_neg (show ¬ (false = true) by decide)] at H; exact H
                    clear H
                    have H := H1
                    clear H1
                    obtain rfl := Option.some.inj H
                    try go_wp2
                    have n0_ := Aside0.mk (Kd.R_drew HO_1108000.out)
                    have n1_ := Aside0.mk (Kd.S_drew HO_1108001.out)
                    have n2_ := Aside0.mk (blk_drew BK1085.out)
                    have n3_ := Aside0.mk (blk_drew BK1107.out)
                    have n4_ := Aside0.mk (below_drew1 HB.out)
                    clear HO_1108000
                    clear HO_1108001
                    clear BK1085
                    clear BK1107
                    clear HB
                    have HO_1108000 := n0_
                    have HO_1108001 := n1_
                    have BK1085 := n2_
                    have BK1107 := n3_
                    have HB := n4_
                    clear n0_ n1_ n2_ n3_ n4_
                    refine start_ (n := 5) (S := fun w' => w'.cell? ⟨gb1107, 0, none⟩ = some (.slice Ao33 t1101.length co33) ∧ w'.cell? ⟨gb1107, 1, none⟩ = some (.slice Ao36 t1104.length co36) ∧ w'.cell? ⟨gb1085, 0, none⟩ = some (.slice A1_0 l1_0.length c1_0) ∧ w'.cell? ⟨gb1085, 1, none⟩ = some (.slice A1_1 l1_1.length c1_1)) (ds := []) #[false, false, false, false, false] (by kernel_rfl) rfl rfl ⟨(blk_cell BK1107.out 0).trans rfl, (blk_cell BK1107.out 1).trans rfl, (blk_cell BK1085.out 0).trans rfl, (blk_cell BK1085.out 1).trans rfl⟩ (fun hHeld => ?_)
                    generalize wc.drew = w55 at HO_1108000 HO_1108001 BK1085 BK1107 HB hHeld ⊢
                    refine take_ (i := 0) (N := some 48) (v := ?_) (a' := ?_) #[true, false, false, false, false] rfl rfl (by kernel_rfl) (fun _ _ _ h => h) (Or.inl ⟨by rfl, ?_⟩) hHeld ?_ ?_
                    rotate_left
                    · rintro w' ⟨s0, s1, s2, s3⟩
                      go_simp
                      with_reducible rfl
                    rotate_left
                    · simp only [Act.put, List.setIfInBounds_toArray, List.set_cons_zero, List.set_cons_succ, i64_w, i32_w]
                      rfl
                    refine take_ (i := 1) (N := some 49) (v := ?_) (a' := ?_) #[true, true, false, false, false] rfl rfl (by kernel_rfl) (fun _ _ _ h => h) (Or.inl ⟨by rfl, ?_⟩) hHeld ?_ ?_
                    rotate_left
                    · rintro w' ⟨s0, s1, s2, s3⟩
                      go_simp
                      with_reducible rfl
                    rotate_left
                    · simp only [Act.put, List.setIfInBounds_toArray, List.set_cons_zero, List.set_cons_succ, i64_w, i32_w]
                      rfl
                    refine one_ (i := 2) (N := some 50) #[true, true, true, false, false] rfl rfl (by kernel_rfl) (by decide) (fun K hK => ?_)
                    refine goes_ Try.func54 (by kernel_rfl) rfl #[.agg #[.slice A1_0 l1_0.length c1_0, .slice A1_1 l1_1.length c1_1]] (by rfl) rfl rfl (by (try simp only [List.map_toArray, List.map_cons, List.map_nil]); first | done | rfl | (simp only [List.length_drop, List.length_take]; rfl)) ?_
                    with_reducible refine (laws_toLay.calls kj41 _ _ l1_0 _ _ l1_1 t1113 t1116 _ ?side1 ?side2 ?side3 ?side4 A47.out).mono ?_
                    (case side1 => repeat (first | exact (Kd.C_below HR1_0.out HB.out) | (with_reducible refine Kd.C_alloc ?_ _) | (with_reducible refine Kd.C_drewN ?_ _) | (with_reducible refine Kd.C_drew ?_)))
                    (case side2 => exact HC1_0.out)
                    (case side3 => repeat (first | exact (Kd.C_below HR1_1.out HB.out) | (with_reducible refine Kd.C_alloc ?_ _) | (with_reducible refine Kd.C_drewN ?_ _) | (with_reducible refine Kd.C_drew ?_)))
                    (case side4 => exact HC1_1.out)
                    rintro e w56 ⟨v1114, v1117, rfl, ho0, ho1, hb⟩
                    refine ⟨_, rfl, ?_⟩
                    have n0_ := Aside0.mk (Kd.R_elder' (by (with_reducible repeat (first | apply Kd.R_alloc | apply Kd.R_drewN | apply Kd.R_drew)); exact HO_1108000.out) (Kd.R_base ho0) hb)
                    have n1_ := Aside0.mk (Kd.S_elder' (by (with_reducible repeat (first | apply Kd.S_alloc | apply Kd.S_drewN | apply Kd.S_drew)); exact HO_1108001.out) (Kd.S_base ho1) hb)
                    have n2_ := Aside0.mk (Kd.R_lower (Kd.R_new' ho0 (Kd.R_lt (by (with_reducible repeat (first | apply Kd.R_alloc | apply Kd.R_drewN | apply Kd.R_drew)); exact HO_1108000.out))) (below_size (by repeat (first | (with_reducible first | exact HB.out | apply below_alloc | apply pw_below_drewN | apply below_drew1 | refine below_set ?_ GE1085.out | refine below_set ?_ GE1107.out) | exact HB.out))))
                    have n3_ := Aside0.mk (Kd.S_lower (Kd.S_new' ho1 (Kd.S_lt (by (with_reducible repeat (first | apply Kd.S_alloc | apply Kd.S_drewN | apply Kd.S_drew)); exact HO_1108001.out))) (below_size (by repeat (first | (with_reducible first | exact HB.out | apply below_alloc | apply pw_below_drewN | apply below_drew1 | refine below_set ?_ GE1085.out | refine below_set ?_ GE1107.out) | exact HB.out))))
                    have n4_ := Aside0.mk (blk_below (g := gb1085) (o := .cells #[.slice A1_0 l1_0.length c1_0, .slice A1_1 l1_1.length c1_1] 77 (0, 0)) (by (with_reducible repeat (first | refine blk_drewN ?_ _ | refine blk_drew ?_ | refine blk_alloc ?_ _)); exact BK1085.out) hb)
                    have n5_ := Aside0.mk (blk_below (g := gb1107) (o := .cells #[.slice Ao33 t1101.length co33, .slice Ao36 t1104.length co36] 80 (0, 0)) (by (with_reducible repeat (first | refine blk_drewN ?_ _ | refine blk_drew ?_ | refine blk_alloc ?_ _)); exact BK1107.out) hb)
                    have n6_ := Aside0.mk (below_step (by repeat (first | (with_reducible first | exact HB.out | apply below_alloc | apply pw_below_drewN | apply below_drew1 | refine below_set ?_ GE1085.out | refine below_set ?_ GE1107.out) | exact HB.out)) hb)
                    clear HO_1108000
                    clear HO_1108001
                    clear BK1085
                    clear BK1107
                    clear HB
                    have HO_1108000 := n0_
                    have HO_1108001 := n1_
                    have HO1115 := n2_
                    have HO1118 := n3_
                    have BK1085 := n4_
                    have BK1107 := n5_
                    have HB := n6_
                    clear n0_ n1_ n2_ n3_ n4_ n5_ n6_
                    (try clear hb)
                    (try clear hb2)
                    (try clear hk)
                    (try clear hi)
                    (try clear ho0)
                    (try clear ho1)
                    obtain ⟨Ao57, co57, eo57⟩ := Kd.R_slice HO1115.out
                    (first | subst eo57 | (injection eo57 with f1_ f2_ f3_; have f4_ := f1_.symm; have f5_ := f3_.symm; clear f1_ f2_ f3_; subst f4_; subst f5_))
                    obtain ⟨Ao58, co58, eo58⟩ := Kd.S_slice HO1118.out
                    (first | subst eo58 | (injection eo58 with f1_ f2_ f3_; have f4_ := f1_.symm; have f5_ := f3_.symm; clear f1_ f2_ f3_; subst f4_; subst f5_))
                    refine hK.out _ _ ⟨(blk_cell BK1107.out 0).trans rfl, (blk_cell BK1107.out 1).trans rfl, (blk_cell BK1085.out 0).trans rfl, (blk_cell BK1085.out 1).trans rfl⟩ (fun hHeld => ?_)
                    clear hK K
                    refine norm_ (a' := ?_) ?_ ?_
                    rotate_left
                    · show Act.put _ (some 50) _ = _
                      simp only [Act.put, List.setIfInBounds_toArray, List.set_cons_zero, List.set_cons_succ, i64_w, i32_w]
                      rfl
                    refine one_ (i := 3) (N := some 51) #[true, true, true, true, false] rfl rfl (by kernel_rfl) (by decide) (fun K hK => ?_)
                    refine goes_ Try.func56 (by kernel_rfl) rfl #[.agg #[.slice Ao33 t1101.length co33, .slice Ao36 t1104.length co36], .agg #[.slice Ao57 t1113.length co57, .slice Ao58 t1116.length co58]] (by rfl) rfl rfl (by (try simp only [List.map_toArray, List.map_cons, List.map_nil]); first | done | rfl | (simp only [List.length_drop, List.length_take]; rfl)) ?_
                    with_reducible refine (laws_eqLay.calls kj41 _ _ t1101 _ _ t1104 _ _ t1113 _ _ t1116 false _ ?side1 ?side2 ?side3 ?side4 ?side5 ?side6 ?side7 ?side8 A48.out).mono ?_
                    (case side1 => repeat (first | exact (Kd.R_reads' HO_1108000.out).2.2 | (with_reducible refine Kd.C_alloc ?_ _) | (with_reducible refine Kd.C_drewN ?_ _) | (with_reducible refine Kd.C_drew ?_)))
                    (case side2 => exact (Kd.R_reads' HO_1108000.out).2.1)
                    (case side3 => repeat (first | exact (Kd.S_reads' HO_1108001.out).2.2 | (with_reducible refine Kd.C_alloc ?_ _) | (with_reducible refine Kd.C_drewN ?_ _) | (with_reducible refine Kd.C_drew ?_)))
                    (case side4 => exact (Kd.S_reads' HO_1108001.out).2.1)
                    (case side5 => repeat (first | exact (Kd.R_reads' HO1115.out).2.2 | (with_reducible refine Kd.C_alloc ?_ _) | (with_reducible refine Kd.C_drewN ?_ _) | (with_reducible refine Kd.C_drew ?_)))
                    (case side6 => exact (Kd.R_reads' HO1115.out).2.1)
                    (case side7 => repeat (first | exact (Kd.S_reads' HO1118.out).2.2 | (with_reducible refine Kd.C_alloc ?_ _) | (with_reducible refine Kd.C_drewN ?_ _) | (with_reducible refine Kd.C_drew ?_)))
                    (case side8 => exact (Kd.S_reads' HO1118.out).2.1)
                    rintro e w59 ⟨rfl, hb⟩
                    refine ⟨_, rfl, ?_⟩
                    have n0_ := Aside0.mk (Kd.R_below (by (with_reducible repeat (first | apply Kd.R_alloc | apply Kd.R_drewN | apply Kd.R_drew)); exact HO_1108000.out) hb)
                    have n1_ := Aside0.mk (Kd.S_below (by (with_reducible repeat (first | apply Kd.S_alloc | apply Kd.S_drewN | apply Kd.S_drew)); exact HO_1108001.out) hb)
                    have n2_ := Aside0.mk (Kd.R_below (by (with_reducible repeat (first | apply Kd.R_alloc | apply Kd.R_drewN | apply Kd.R_drew)); exact HO1115.out) hb)
                    have n3_ := Aside0.mk (Kd.S_below (by (with_reducible repeat (first | apply Kd.S_alloc | apply Kd.S_drewN | apply Kd.S_drew)); exact HO1118.out) hb)
                    have n4_ := Aside0.mk (blk_below (g := gb1085) (o := .cells #[.slice A1_0 l1_0.length c1_0, .slice A1_1 l1_1.length c1_1] 77 (0, 0)) (by (with_reducible repeat (first | refine blk_drewN ?_ _ | refine blk_drew ?_ | refine blk_alloc ?_ _)); exact BK1085.out) hb)
                    have n5_ := Aside0.mk (blk_below (g := gb1107) (o := .cells #[.slice Ao33 t1101.length co33, .slice Ao36 t1104.length co36] 80 (0, 0)) (by (with_reducible repeat (first | refine blk_drewN ?_ _ | refine blk_drew ?_ | refine blk_alloc ?_ _)); exact BK1107.out) hb)
                    have n6_ := Aside0.mk (below_step (by repeat (first | (with_reducible first | exact HB.out | apply below_alloc | apply pw_below_drewN | apply below_drew1 | refine below_set ?_ GE1085.out | refine below_set ?_ GE1107.out) | exact HB.out)) hb)
                    clear HO_1108000
                    clear HO_1108001
                    clear HO1115
                    clear HO1118
                    clear BK1085
                    clear BK1107
                    clear HB
                    have HO_1108000 := n0_
                    have HO_1108001 := n1_
                    have HO1115 := n2_
                    have HO1118 := n3_
                    have BK1085 := n4_
                    have BK1107 := n5_
                    have HB := n6_
                    clear n0_ n1_ n2_ n3_ n4_ n5_ n6_
                    (try clear hb)
                    (try clear hb2)
                    (try clear hk)
                    (try clear hi)
                    refine hK.out _ _ ⟨(blk_cell BK1107.out 0).trans rfl, (blk_cell BK1107.out 1).trans rfl, (blk_cell BK1085.out 0).trans rfl, (blk_cell BK1085.out 1).trans rfl⟩ (fun hHeld => ?_)
                    clear hK K
                    refine norm_ (a' := ?_) ?_ ?_
                    rotate_left
                    · show Act.put _ (some 51) _ = _
                      simp only [Act.put, List.setIfInBounds_toArray, List.set_cons_zero, List.set_cons_succ, i64_w, i32_w]
                      rfl
                    refine pure_ (i := 4) (N := some 52) (v := ?_) (a' := ?_) #[true, true, true, true, true] rfl rfl (by kernel_rfl) (fun _ _ _ h => h) (Or.inl ⟨by rfl, ?_⟩) ?_ ?_
                    rotate_left
                    · intro w'
                      go_simp
                      with_reducible rfl
                    rotate_left
                    · simp only [Act.put, List.setIfInBounds_toArray, List.set_cons_zero, List.set_cons_succ, i64_w, i32_w]
                      rfl
                    refine done_ (by kernel_rfl) ?_
                    try go_wp2
                    go_ret
                    exact ⟨by first | rfl | (simp [errW_none, errW_some] <;> rfl) | (simp [*, errW_none, errW_some] <;> rfl), by repeat (first | (with_reducible first | exact HB.out | apply below_alloc | apply pw_below_drewN | apply below_drew1 | refine below_set ?_ GE1085.out | refine below_set ?_ GE1107.out) | exact HB.out)⟩

end Go.Proofs.Ytppmalfpggkpdaa.P

namespace Go.Proofs.Ytppmalfpggkpdaa.P
open Go.RowKit
/-- THE ONE PURE STATEMENT of laws_FnExactLayStone. -/
def laws_FnExactLayStone.Pure : Prop := ∀ (x0 : List (S95)) (x1 : S77) (x2 : Int) (x3 : Int), (x0.length * 48 ≤ 140737488351232 ∧ ∀ y1 ∈ x0, Ok95 y1) → Ok77 x1 → (Lit.int .i64 x2).wf = true → (Lit.int .i64 x3).wf = true → ∃ k, laws_FnExactLayStone.f k x0 x1.f0 x1.f1 x2 x3 = some true
end Go.Proofs.Ytppmalfpggkpdaa.P

-- made by printx.py (own driver over the kit's print); Lean checks it
namespace Go.Proofs.Ytppmalfpggkpdaa.P
open Go.RowKit Go.Proofs.YtppmalfpggkpdaaW.PrintWords Go.Proofs.YtppmalfpggkpdaaW.PrintLast Go.Proofs.YtppmalfpggkpdaaW.PrintMore
attribute [local go_sem] max2_int min2_int max_two min_two max_three min_three max_four min_four   -- for this text's walks alone
set_option linter.unusedVariables false
set_option linter.unusedSimpArgs false

/-! ### impl_UnitOk: function 69 -/
def impl_UnitOk.f (k : Nat) (l0 : List (S52)) : Option (Bool) := if (l0.length : Int) ≤ 5 then ((impl_funsOk.f k l0).bind fun t269 => (some t269)) else (some false)
theorem impl_UnitOk.mono : ∀ a0 k, LeO (impl_UnitOk.f k a0) (impl_UnitOk.f (k + 1) a0) := by
  intro a0 k
  unfold impl_UnitOk.f
  repeat' first
      | (with_reducible exact impl_funsOk.mono _ _)
      | (with_reducible exact LeO.refl _)
      | (with_reducible exact LeO.none _)
      | (with_reducible refine LeO.ite ?_ ?_)
      | (with_reducible refine LeO.bind ?_ (fun _ => ?_))
      | exact impl_funsOk.mono _ _
      | exact LeO.none _
      | refine LeO.ite ?_ ?_
      | refine LeO.bind ?_ (fun _ => ?_)
set_option maxHeartbeats 8000000 in
set_option maxRecDepth 100000 in
theorem impl_UnitOk.calls (k : Nat) (A0 : Option Addr) (c0 : Nat) (l0 : List (S52)) (r : Bool) (w : World) (hr0 : Kd.C k52 w A0 l0.length l0) (hc0 : l0.length ≤ c0) (h : impl_UnitOk.f k l0 = some r) :
    Calls Try.prog 69 #[.slice A0 l0.length c0] w fun e w' => e = .returned (.bool r) ∧ Below w.heap.size w w' := by
  have HR0 := Aside0.mk hr0
  have HC0 := Aside0.mk hc0
  clear hr0 hc0
  have HB := Aside0.mk (Below.refl w.heap.size w)
  have H : (if (l0.length : Int) ≤ 5 then ((impl_funsOk.f k l0).bind fun t269 => (some t269)) else (some false)) = some r := h
  clear h
  by_cases c2 : (l0.length : Int) ≤ 5
  · rw [if_pos c2] at H
    have c2b0 : decide ((l0.length : Int) ≤ 5) = true := decide_eq_true c2
    have c2b1 : decide (l0.length ≤ 5) = true := decide_eq_true (by omega)
    clear c2
    replace H := Option.bind_eq_some_iff.mp H
    obtain ⟨t269, A30, H⟩ := H
    replace H : (some t269) = some r := H
    have A3 := Aside0.mk A30
    clear A30
    obtain rfl := Option.some.inj H
    go_enter Try.func69, Try.ntmps69
    go_wp2_with (first | (go_at_call 76; (with_reducible refine (impl_funsOk.calls k _ _ l0 t269 _ ?side1 ?side2 A3.out).mono ?_); (case side1 => repeat (first | exact HR0.out | (with_reducible refine Kd.C_alloc ?_ _) | (with_reducible refine Kd.C_drewN ?_ _) | (with_reducible refine Kd.C_drew ?_))); (case side2 => exact HC0.out); rintro e w4 ⟨rfl, hb⟩; have n0_ := Aside0.mk (below_step (by repeat (first | (with_reducible first | exact HB.out | apply below_alloc | apply pw_below_drewN | apply below_drew1) | exact HB.out)) hb); clear HB; have HB := n0_; clear n0_; (try clear hb); (try clear hb2); (try clear hk); (try clear hi)))
    go_ret
    exact ⟨by first | rfl | (simp [errW_none, errW_some] <;> rfl) | (simp [*, errW_none, errW_some] <;> rfl), by repeat (first | (with_reducible first | exact HB.out | apply below_alloc | apply pw_below_drewN | apply below_drew1) | exact HB.out)⟩
  · rw [if_neg c2] at H
    have c2b0 : decide ((l0.length : Int) ≤ 5) = false := decide_eq_false c2
    have c2b1 : decide (l0.length ≤ 5) = false := decide_eq_false (by omega)
    clear c2
    obtain rfl := Option.some.inj H
    go_enter Try.func69, Try.ntmps69
    go_wp2
    go_ret
    exact ⟨by first | rfl | (simp [errW_none, errW_some] <;> rfl) | (simp [*, errW_none, errW_some] <;> rfl), by repeat (first | (with_reducible first | exact HB.out | apply below_alloc | apply pw_below_drewN | apply below_drew1) | exact HB.out)⟩

end Go.Proofs.Ytppmalfpggkpdaa.P

-- made by printx.py (own driver over the kit's print); Lean checks it
namespace Go.Proofs.Ytppmalfpggkpdaa.P
open Go.RowKit Go.Proofs.YtppmalfpggkpdaaW.PrintWords Go.Proofs.YtppmalfpggkpdaaW.PrintLast Go.Proofs.YtppmalfpggkpdaaW.PrintMore
attribute [local go_sem] max2_int min2_int max_two min_two max_three min_three max_four min_four   -- for this text's walks alone
set_option linter.unusedVariables false
set_option linter.unusedSimpArgs false

/-! ### impl_UnitFind: function 38 -/
def impl_UnitFind.f (k : Nat) (l0 : List (S52)) (a1 : ByteArray) : Option (Int) := (impl_UnitOk.f k l0).bind fun t748 => (if t748 = true then ((impl_find.f l0 a1).bind fun t749 => (some t749)) else (some (-1)))
theorem impl_UnitFind.mono : ∀ a0 a1 k, LeO (impl_UnitFind.f k a0 a1) (impl_UnitFind.f (k + 1) a0 a1) := by
  intro a0 a1 k
  unfold impl_UnitFind.f
  repeat' first
      | (with_reducible exact impl_UnitOk.mono _ _)
      | (with_reducible exact LeO.refl _)
      | (with_reducible exact LeO.none _)
      | (with_reducible refine LeO.ite ?_ ?_)
      | (with_reducible refine LeO.bind ?_ (fun _ => ?_))
      | exact impl_UnitOk.mono _ _
      | exact LeO.none _
      | refine LeO.ite ?_ ?_
      | refine LeO.bind ?_ (fun _ => ?_)
set_option maxHeartbeats 8000000 in
set_option maxRecDepth 100000 in
theorem impl_UnitFind.calls (k : Nat) (A0 : Option Addr) (c0 : Nat) (l0 : List (S52)) (a1 : ByteArray) (r : Int) (w : World) (hr0 : Kd.C k52 w A0 l0.length l0) (hc0 : l0.length ≤ c0) (h : impl_UnitFind.f k l0 a1 = some r) :
    Calls Try.prog 38 #[.slice A0 l0.length c0, .string a1] w fun e w' => e = .returned (.int .i64 r) ∧ Below w.heap.size w w' := by
  have HR0 := Aside0.mk hr0
  have HC0 := Aside0.mk hc0
  clear hr0 hc0
  have HB := Aside0.mk (Below.refl w.heap.size w)
  have H : ((impl_UnitOk.f k l0).bind fun t748 => (if t748 = true then ((impl_find.f l0 a1).bind fun t749 => (some t749)) else (some (-1)))) = some r := h
  clear h
  replace H := Option.bind_eq_some_iff.mp H
  obtain ⟨t748, A30, H⟩ := H
  replace H : (if t748 = true then ((impl_find.f l0 a1).bind fun t749 => (some t749)) else (some (-1))) = some r := H
  have A3 := Aside0.mk A30
  clear A30
  by_cases c4 : t748 = true
  · subst c4
    have H1 : ((impl_find.f l0 a1).bind fun t749 => (some t749)) = some r := by rw [if_pos rfl] at H; exact H
    clear H
    have H := H1
    clear H1
    replace H := Option.bind_eq_some_iff.mp H
    obtain ⟨t749, A50, H⟩ := H
    replace H : (some t749) = some r := H
    have A5 := Aside0.mk A50
    clear A50
    obtain rfl := Option.some.inj H
    go_enter Try.func38, Try.ntmps38
    go_wp2_with (first | ((with_reducible refine gate_callee (f := 69) rfl ?_); refine goesL_ (some 6) rfl rfl Try.func69 (by kernel_rfl) rfl #[.slice A0 l0.length c0] rfl (by (try simp only [List.map_toArray, List.map_cons, List.map_nil]); first | done | rfl | (simp only [List.length_drop, List.length_take]; rfl)) ?_; (with_reducible refine (impl_UnitOk.calls k _ _ l0 true _ ?side1 ?side2 A3.out).mono ?_); (case side1 => repeat (first | exact HR0.out | (with_reducible refine Kd.C_alloc ?_ _) | (with_reducible refine Kd.C_drewN ?_ _) | (with_reducible refine Kd.C_drew ?_))); (case side2 => exact HC0.out); rintro e w6 ⟨rfl, hb⟩; refine ⟨_, rfl, ?_⟩; have n0_ := Aside0.mk (below_step (by repeat (first | (with_reducible first | exact HB.out | apply below_alloc | apply pw_below_drewN | apply below_drew1) | exact HB.out)) hb); clear HB; have HB := n0_; clear n0_; (try clear hb); (try clear hb2); (try clear hk); (try clear hi)) | ((with_reducible refine gate_callee (f := 82) rfl ?_); refine goesL_ (some 10) rfl rfl Try.func82 (by kernel_rfl) rfl #[.slice A0 l0.length c0, .string a1] rfl (by (try simp only [List.map_toArray, List.map_cons, List.map_nil]); first | done | rfl | (simp only [List.length_drop, List.length_take]; rfl)) ?_; (with_reducible refine (impl_find.calls _ _ l0 a1 t749 _ ?side1 ?side2 A5.out).mono ?_); (case side1 => repeat (first | exact (Kd.C_below HR0.out HB.out) | (with_reducible refine Kd.C_alloc ?_ _) | (with_reducible refine Kd.C_drewN ?_ _) | (with_reducible refine Kd.C_drew ?_))); (case side2 => exact HC0.out); rintro e w7 ⟨rfl, hb⟩; refine ⟨_, rfl, ?_⟩; have n0_ := Aside0.mk (below_step (by repeat (first | (with_reducible first | exact HB.out | apply below_alloc | apply pw_below_drewN | apply below_drew1) | exact HB.out)) hb); clear HB; have HB := n0_; clear n0_; (try clear hb); (try clear hb2); (try clear hk); (try clear hi)))
    go_ret
    exact ⟨by first | rfl | (simp [errW_none, errW_some] <;> rfl) | (simp [*, errW_none, errW_some] <;> rfl), by repeat (first | (with_reducible first | exact HB.out | apply below_alloc | apply pw_below_drewN | apply below_drew1) | exact HB.out)⟩
  · replace c4 := Bool.eq_false_iff.mpr c4
    subst c4
    have H1 : (some (-1)) = some r := by rw [if_neg (show ¬ (false = true) by decide)] at H; exact H
    clear H
    have H := H1
    clear H1
    obtain rfl := Option.some.inj H
    go_enter Try.func38, Try.ntmps38
    go_wp2_with (first | ((with_reducible refine gate_callee (f := 69) rfl ?_); refine goesL_ (some 6) rfl rfl Try.func69 (by kernel_rfl) rfl #[.slice A0 l0.length c0] rfl (by (try simp only [List.map_toArray, List.map_cons, List.map_nil]); first | done | rfl | (simp only [List.length_drop, List.length_take]; rfl)) ?_; (with_reducible refine (impl_UnitOk.calls k _ _ l0 false _ ?side1 ?side2 A3.out).mono ?_); (case side1 => repeat (first | exact HR0.out | (with_reducible refine Kd.C_alloc ?_ _) | (with_reducible refine Kd.C_drewN ?_ _) | (with_reducible refine Kd.C_drew ?_))); (case side2 => exact HC0.out); rintro e w8 ⟨rfl, hb⟩; refine ⟨_, rfl, ?_⟩; have n0_ := Aside0.mk (below_step (by repeat (first | (with_reducible first | exact HB.out | apply below_alloc | apply pw_below_drewN | apply below_drew1) | exact HB.out)) hb); clear HB; have HB := n0_; clear n0_; (try clear hb); (try clear hb2); (try clear hk); (try clear hi)))
    go_ret
    exact ⟨by first | rfl | (simp [errW_none, errW_some] <;> rfl) | (simp [*, errW_none, errW_some] <;> rfl), by repeat (first | (with_reducible first | exact HB.out | apply below_alloc | apply pw_below_drewN | apply below_drew1) | exact HB.out)⟩

end Go.Proofs.Ytppmalfpggkpdaa.P

-- made by printx.py (own driver over the kit's print); Lean checks it
namespace Go.Proofs.Ytppmalfpggkpdaa.P
open Go.RowKit Go.Proofs.YtppmalfpggkpdaaW.PrintWords Go.Proofs.YtppmalfpggkpdaaW.PrintLast Go.Proofs.YtppmalfpggkpdaaW.PrintMore
attribute [local go_sem] max2_int min2_int max_two min_two max_three min_three max_four min_four   -- for this text's walks alone
set_option linter.unusedVariables false
set_option linter.unusedSimpArgs false

/-! ### spec_UnitOk: function 36 -/
def spec_UnitOk.l0 : Nat → List (S52) → Int → Option (Bool)
  | 0, _, _ => none
  | k + 1, x0, x3 => if x3 < (x0.length : Int) then (if 0 ≤ x3 then ((spec_FunOk.f k ((rd_T52 x0 x3).f0) ((rd_T52 x0 x3).f1) ((rd_T52 x0 x3).f2)).bind fun t121 => (if t121 = true then ((spec_l2Find.f k x0 ((rd_T52 x0 x3).f0)).bind fun t123 => (if t123 = x3 then (spec_UnitOk.l0 k x0 (wrap64 (x3 + 1))) else (some false))) else (some false))) else (none)) else (some (decide ((x0.length : Int) ≤ 5)))
def spec_UnitOk.f (k : Nat) (l0 : List (S52)) : Option (Bool) := spec_UnitOk.l0 k l0 0
theorem spec_UnitOk.mono_l : ∀ k, (∀ y0 y1, LeO (spec_UnitOk.l0 k y0 y1) (spec_UnitOk.l0 (k + 1) y0 y1))
  | 0 => fun _ _ r h => by simp [spec_UnitOk.l0] at h
  | k + 1 => by
    have ih0 := spec_UnitOk.mono_l k
    · intro y0 y1
      unfold spec_UnitOk.l0
      repeat' first
      | (with_reducible exact ih0 _ _)
      | (with_reducible exact spec_FunOk.mono _ _ _ _)
      | (with_reducible exact spec_l2Find.mono _ _ _)
      | (with_reducible exact LeO.refl _)
      | (with_reducible exact LeO.none _)
      | (with_reducible refine LeO.ite ?_ ?_)
      | (with_reducible refine LeO.bind ?_ (fun _ => ?_))
      | exact ih0 _ _
      | exact spec_FunOk.mono _ _ _ _
      | exact spec_l2Find.mono _ _ _
      | exact LeO.none _
      | refine LeO.ite ?_ ?_
      | refine LeO.bind ?_ (fun _ => ?_)
theorem spec_UnitOk.mono : ∀ a0 k, LeO (spec_UnitOk.f k a0) (spec_UnitOk.f (k + 1) a0) := by
  intro a0 k
  have ih0 := spec_UnitOk.mono_l k
  unfold spec_UnitOk.f
  repeat' first
      | (with_reducible exact ih0 _ _)
      | (with_reducible exact spec_FunOk.mono _ _ _ _)
      | (with_reducible exact spec_l2Find.mono _ _ _)
      | (with_reducible exact LeO.refl _)
      | (with_reducible exact LeO.none _)
      | (with_reducible refine LeO.ite ?_ ?_)
      | (with_reducible refine LeO.bind ?_ (fun _ => ?_))
      | exact ih0 _ _
      | exact spec_FunOk.mono _ _ _ _
      | exact spec_l2Find.mono _ _ _
      | exact LeO.none _
      | refine LeO.ite ?_ ?_
      | refine LeO.bind ?_ (fun _ => ?_)
set_option maxHeartbeats 8000000 in
set_option maxRecDepth 100000 in
theorem spec_UnitOk.calls (k : Nat) (A0 : Option Addr) (c0 : Nat) (l0 : List (S52)) (r : Bool) (w : World) (hr0 : Kd.C k52 w A0 l0.length l0) (hc0 : l0.length ≤ c0) (h : spec_UnitOk.f k l0 = some r) :
    Calls Try.prog 36 #[.slice A0 l0.length c0] w fun e w' => e = .returned (.bool r) ∧ Below w.heap.size w w' := by
  have hu52 := Try.underlying52
  have HR0 := Aside0.mk hr0
  have HC0 := Aside0.mk hc0
  clear hr0 hc0
  have HB := Aside0.mk (Below.refl w.heap.size w)
  have H : (spec_UnitOk.l0 k l0 0) = some r := h
  clear h
  have H' := Aside0.mk H
  clear H
  go_enter Try.func36, Try.ntmps36
  go_wp2
  go_loopg [3] k (fun kq v3 w' => ∃ (x3_1 : Int), v3 = .int .i64 x3_1 ∧ Aside0 (spec_UnitOk.l0 kq l0 x3_1 = some r) ∧ Aside0 (kq ≤ k) ∧ Aside0 (Below w.heap.size w w'))
  case atStart => exact ⟨(0), (by first | rfl | (simp; done) | (simp [*]; done)), H', ⟨Nat.le_refl _⟩, ⟨by repeat (first | (with_reducible first | exact HB.out | apply below_alloc | apply pw_below_drewN | apply below_drew1) | exact HB.out)⟩⟩
  case round =>
    clear H'
    obtain ⟨x3_1, rfl, HA, HK1, HB⟩ := hrel
    cases gk with
    | zero => exact absurd HA.out (by simp [spec_UnitOk.l0])
    | succ k1 =>
      have H := HA.out
      clear HA
      simp only [spec_UnitOk.l0] at H
      by_cases c2 : x3_1 < (l0.length : Int)
      · rw [if_pos c2] at H
        have c2b0 : decide (x3_1 < (l0.length : Int)) = true := decide_eq_true c2
        clear c2
        by_cases c3 : 0 ≤ x3_1
        · rw [if_pos c3] at H
          have c3b0 : decide (0 ≤ x3_1) = true := decide_eq_true c3
          clear c3
          replace H := Option.bind_eq_some_iff.mp H
          obtain ⟨t121, A40, H⟩ := H
          replace H : (if t121 = true then ((spec_l2Find.f k1 l0 ((rd_T52 l0 x3_1).f0)).bind fun t123 => (if t123 = x3_1 then (spec_UnitOk.l0 k1 l0 (wrap64 (x3_1 + 1))) else (some false))) else (some false)) = some r := H
          have A4 := Aside0.mk A40
          clear A40
          by_cases c5 : t121 = true
          · subst c5
            have H1 : ((spec_l2Find.f k1 l0 ((rd_T52 l0 x3_1).f0)).bind fun t123 => (if t123 = x3_1 then (spec_UnitOk.l0 k1 l0 (wrap64 (x3_1 + 1))) else (some false))) = some r := by rw [if_pos rfl] at H; exact H
            clear H
            have H := H1
            clear H1
            replace H := Option.bind_eq_some_iff.mp H
            obtain ⟨t123, A60, H⟩ := H
            replace H : (if t123 = x3_1 then (spec_UnitOk.l0 k1 l0 (wrap64 (x3_1 + 1))) else (some false)) = some r := H
            have A6 := Aside0.mk A60
            clear A60
            by_cases c7 : t123 = x3_1
            · rw [if_pos c7] at H
              have c7b0 : (t123 == x3_1) = true := beq_iff_eq.mpr c7
              have c7b1 : (t123 != x3_1) = false := bne_eq_false_iff_eq.mpr c7
              clear c7
              have H' := Aside0.mk H
              clear H
              have p120 : 0 ≤ (x3_1 : Int) := of_decide_eq_true (by first | (with_reducible assumption) | assumption)
              have q120 : x3_1 < (l0.length : Int) := of_decide_eq_true (by first | (with_reducible assumption) | assumption)
              obtain ⟨ad120, A120_2, c120_2, e120, hx120_0, hx120_1, hx120_2, hl120_2, hi120_2⟩ := at_T52 HR0.out x3_1 p120 q120
              cases e120
              replace hx120_0 := (HB.out.cell (World.block_lt_of_cell? w _ hx120_0)).trans hx120_0
              replace hx120_1 := (HB.out.cell (World.block_lt_of_cell? w _ hx120_1)).trans hx120_1
              replace hx120_2 := (HB.out.cell (World.block_lt_of_cell? w _ hx120_2)).trans hx120_2
              have HR120_2 := Aside0.mk hi120_2
              have HC120_2 := Aside0.mk hl120_2
              clear hi120_2 hl120_2
              replace p120 := eq_true p120
              replace q120 := eq_true q120
              go_wp2_with (first | ((with_reducible refine gate_callee (f := 71) rfl ?_); refine goesL_ (some 14) rfl rfl Try.func71 (by kernel_rfl) rfl #[.agg #[.string ((rd_T52 l0 x3_1).f0), .bool ((rd_T52 l0 x3_1).f1), .slice A120_2 ((rd_T52 l0 x3_1).f2).length c120_2]] rfl (by (try simp only [List.map_toArray, List.map_cons, List.map_nil]); first | done | rfl | (simp only [List.length_drop, List.length_take]; rfl)) ?_; (with_reducible refine (spec_FunOk.calls k1 ((rd_T52 l0 x3_1).f0) ((rd_T52 l0 x3_1).f1) _ _ ((rd_T52 l0 x3_1).f2) true _ ?side1 ?side2 A4.out).mono ?_); (case side1 => repeat (first | exact (Kd.C_below HR120_2.out HB.out) | (with_reducible refine Kd.C_alloc ?_ _) | (with_reducible refine Kd.C_drewN ?_ _) | (with_reducible refine Kd.C_drew ?_))); (case side2 => exact HC120_2.out); rintro e w8 ⟨rfl, hb⟩; refine ⟨_, rfl, ?_⟩; have n0_ := Aside0.mk (below_step (by repeat (first | (with_reducible first | exact HB.out | apply below_alloc | apply pw_below_drewN | apply below_drew1) | exact HB.out)) hb); clear HB; have HB := n0_; clear n0_; (try clear hb); (try clear hb2); (try clear hk); (try clear hi); have p122 : 0 ≤ (x3_1 : Int) := of_decide_eq_true (by first | (with_reducible assumption) | assumption); have q122 : x3_1 < (l0.length : Int) := of_decide_eq_true (by first | (with_reducible assumption) | assumption); obtain ⟨ad122, A122_2, c122_2, e122, hx122_0, hx122_1, hx122_2, hl122_2, hi122_2⟩ := at_T52 HR0.out x3_1 p122 q122; obtain rfl : ad120 = ad122 := (by injection e122); replace hx122_0 := (HB.out.cell (World.block_lt_of_cell? w _ hx122_0)).trans hx122_0; replace hx122_1 := (HB.out.cell (World.block_lt_of_cell? w _ hx122_1)).trans hx122_1; replace hx122_2 := (HB.out.cell (World.block_lt_of_cell? w _ hx122_2)).trans hx122_2; have HR122_2 := Aside0.mk hi122_2; have HC122_2 := Aside0.mk hl122_2; clear hi122_2 hl122_2; replace p122 := eq_true p122; replace q122 := eq_true q122) | (go_at_call 72; (with_reducible refine (spec_l2Find.calls k1 _ _ l0 ((rd_T52 l0 x3_1).f0) t123 _ ?side1 ?side2 A6.out).mono ?_); (case side1 => repeat (first | exact (Kd.C_below HR0.out HB.out) | (with_reducible refine Kd.C_alloc ?_ _) | (with_reducible refine Kd.C_drewN ?_ _) | (with_reducible refine Kd.C_drew ?_))); (case side2 => exact HC0.out); rintro e w' ⟨rfl, ⟨nd, rfl⟩⟩))
              go_roundg k1
              case measure => have := HK1.out; omega
              case rel => exact ⟨(wrap64 (x3_1 + 1)), (by first | rfl | (simp; done) | (simp [*]; done)), H', ⟨by have := HK1.out; omega⟩, ⟨by repeat (first | (with_reducible first | exact HB.out | apply below_alloc | apply pw_below_drewN | apply below_drew1) | exact HB.out)⟩⟩
            · rw [if_neg c7] at H
              have c7b0 : (t123 == x3_1) = false := beq_eq_false_iff_ne.mpr c7
              have c7b1 : (t123 != x3_1) = true := bne_iff_ne.mpr c7
              obtain rfl := Option.some.inj H
              have p120 : 0 ≤ (x3_1 : Int) := of_decide_eq_true (by first | (with_reducible assumption) | assumption)
              have q120 : x3_1 < (l0.length : Int) := of_decide_eq_true (by first | (with_reducible assumption) | assumption)
              obtain ⟨ad120, A120_2, c120_2, e120, hx120_0, hx120_1, hx120_2, hl120_2, hi120_2⟩ := at_T52 HR0.out x3_1 p120 q120
              cases e120
              replace hx120_0 := (HB.out.cell (World.block_lt_of_cell? w _ hx120_0)).trans hx120_0
              replace hx120_1 := (HB.out.cell (World.block_lt_of_cell? w _ hx120_1)).trans hx120_1
              replace hx120_2 := (HB.out.cell (World.block_lt_of_cell? w _ hx120_2)).trans hx120_2
              have HR120_2 := Aside0.mk hi120_2
              have HC120_2 := Aside0.mk hl120_2
              clear hi120_2 hl120_2
              replace p120 := eq_true p120
              replace q120 := eq_true q120
              go_wp2_with (first | ((with_reducible refine gate_callee (f := 71) rfl ?_); refine goesL_ (some 14) rfl rfl Try.func71 (by kernel_rfl) rfl #[.agg #[.string ((rd_T52 l0 x3_1).f0), .bool ((rd_T52 l0 x3_1).f1), .slice A120_2 ((rd_T52 l0 x3_1).f2).length c120_2]] rfl (by (try simp only [List.map_toArray, List.map_cons, List.map_nil]); first | done | rfl | (simp only [List.length_drop, List.length_take]; rfl)) ?_; (with_reducible refine (spec_FunOk.calls k1 ((rd_T52 l0 x3_1).f0) ((rd_T52 l0 x3_1).f1) _ _ ((rd_T52 l0 x3_1).f2) true _ ?side1 ?side2 A4.out).mono ?_); (case side1 => repeat (first | exact (Kd.C_below HR120_2.out HB.out) | (with_reducible refine Kd.C_alloc ?_ _) | (with_reducible refine Kd.C_drewN ?_ _) | (with_reducible refine Kd.C_drew ?_))); (case side2 => exact HC120_2.out); rintro e w9 ⟨rfl, hb⟩; refine ⟨_, rfl, ?_⟩; have n0_ := Aside0.mk (below_step (by repeat (first | (with_reducible first | exact HB.out | apply below_alloc | apply pw_below_drewN | apply below_drew1) | exact HB.out)) hb); clear HB; have HB := n0_; clear n0_; (try clear hb); (try clear hb2); (try clear hk); (try clear hi); have p122 : 0 ≤ (x3_1 : Int) := of_decide_eq_true (by first | (with_reducible assumption) | assumption); have q122 : x3_1 < (l0.length : Int) := of_decide_eq_true (by first | (with_reducible assumption) | assumption); obtain ⟨ad122, A122_2, c122_2, e122, hx122_0, hx122_1, hx122_2, hl122_2, hi122_2⟩ := at_T52 HR0.out x3_1 p122 q122; obtain rfl : ad120 = ad122 := (by injection e122); replace hx122_0 := (HB.out.cell (World.block_lt_of_cell? w _ hx122_0)).trans hx122_0; replace hx122_1 := (HB.out.cell (World.block_lt_of_cell? w _ hx122_1)).trans hx122_1; replace hx122_2 := (HB.out.cell (World.block_lt_of_cell? w _ hx122_2)).trans hx122_2; have HR122_2 := Aside0.mk hi122_2; have HC122_2 := Aside0.mk hl122_2; clear hi122_2 hl122_2; replace p122 := eq_true p122; replace q122 := eq_true q122) | (go_at_call 72; (with_reducible refine (spec_l2Find.calls k1 _ _ l0 ((rd_T52 l0 x3_1).f0) t123 _ ?side1 ?side2 A6.out).mono ?_); (case side1 => repeat (first | exact (Kd.C_below HR0.out HB.out) | (with_reducible refine Kd.C_alloc ?_ _) | (with_reducible refine Kd.C_drewN ?_ _) | (with_reducible refine Kd.C_drew ?_))); (case side2 => exact HC0.out); rintro e w' ⟨rfl, ⟨nd, rfl⟩⟩))
              go_ret
              exact ⟨by first | rfl | (simp [errW_none, errW_some] <;> rfl) | (simp [*, errW_none, errW_some] <;> rfl), by repeat (first | (with_reducible first | exact HB.out | apply below_alloc | apply pw_below_drewN | apply below_drew1) | exact HB.out)⟩
          · replace c5 := Bool.eq_false_iff.mpr c5
            subst c5
            have H1 : (some false) = some r := by rw [if_neg (show ¬ (false = true) by decide)] at H; exact H
            clear H
            have H := H1
            clear H1
            obtain rfl := Option.some.inj H
            have p120 : 0 ≤ (x3_1 : Int) := of_decide_eq_true (by first | (with_reducible assumption) | assumption)
            have q120 : x3_1 < (l0.length : Int) := of_decide_eq_true (by first | (with_reducible assumption) | assumption)
            obtain ⟨ad120, A120_2, c120_2, e120, hx120_0, hx120_1, hx120_2, hl120_2, hi120_2⟩ := at_T52 HR0.out x3_1 p120 q120
            cases e120
            replace hx120_0 := (HB.out.cell (World.block_lt_of_cell? w _ hx120_0)).trans hx120_0
            replace hx120_1 := (HB.out.cell (World.block_lt_of_cell? w _ hx120_1)).trans hx120_1
            replace hx120_2 := (HB.out.cell (World.block_lt_of_cell? w _ hx120_2)).trans hx120_2
            have HR120_2 := Aside0.mk hi120_2
            have HC120_2 := Aside0.mk hl120_2
            clear hi120_2 hl120_2
            replace p120 := eq_true p120
            replace q120 := eq_true q120
            go_wp2_with (first | ((with_reducible refine gate_callee (f := 71) rfl ?_); refine goesL_ (some 14) rfl rfl Try.func71 (by kernel_rfl) rfl #[.agg #[.string ((rd_T52 l0 x3_1).f0), .bool ((rd_T52 l0 x3_1).f1), .slice A120_2 ((rd_T52 l0 x3_1).f2).length c120_2]] rfl (by (try simp only [List.map_toArray, List.map_cons, List.map_nil]); first | done | rfl | (simp only [List.length_drop, List.length_take]; rfl)) ?_; (with_reducible refine (spec_FunOk.calls k1 ((rd_T52 l0 x3_1).f0) ((rd_T52 l0 x3_1).f1) _ _ ((rd_T52 l0 x3_1).f2) false _ ?side1 ?side2 A4.out).mono ?_); (case side1 => repeat (first | exact (Kd.C_below HR120_2.out HB.out) | (with_reducible refine Kd.C_alloc ?_ _) | (with_reducible refine Kd.C_drewN ?_ _) | (with_reducible refine Kd.C_drew ?_))); (case side2 => exact HC120_2.out); rintro e w10 ⟨rfl, hb⟩; refine ⟨_, rfl, ?_⟩; have n0_ := Aside0.mk (below_step (by repeat (first | (with_reducible first | exact HB.out | apply below_alloc | apply pw_below_drewN | apply below_drew1) | exact HB.out)) hb); clear HB; have HB := n0_; clear n0_; (try clear hb); (try clear hb2); (try clear hk); (try clear hi)))
            go_ret
            exact ⟨by first | rfl | (simp [errW_none, errW_some] <;> rfl) | (simp [*, errW_none, errW_some] <;> rfl), by repeat (first | (with_reducible first | exact HB.out | apply below_alloc | apply pw_below_drewN | apply below_drew1) | exact HB.out)⟩
        · rw [if_neg c3] at H
          exact absurd H (by simp)
      · rw [if_neg c2] at H
        have c2b0 : decide (x3_1 < (l0.length : Int)) = false := decide_eq_false c2
        clear c2
        obtain rfl := Option.some.inj H
        go_wp2
        go_ret
        exact ⟨by first | rfl | (simp [errW_none, errW_some] <;> rfl) | (simp [*, errW_none, errW_some] <;> rfl), by repeat (first | (with_reducible first | exact HB.out | apply below_alloc | apply pw_below_drewN | apply below_drew1) | exact HB.out)⟩

end Go.Proofs.Ytppmalfpggkpdaa.P

/- When a unit is ok, and where its functions are: what the printed functions of both sides compute. -/
namespace Go.Proofs.Ytppmalfpggkpdaa.L
open Go.RowKit Go.Proofs.YtppmalfpggkpdaaW.PrintWords Go.Proofs.YtppmalfpggkpdaaW.PrintLast Go.Proofs.YtppmalfpggkpdaaW.PrintMore Go.Proofs.Ytppmalfpggkpdaa.P
set_option linter.unusedVariables false
set_option linter.unusedSimpArgs false
/-- No text of the function is too long for an argument. -/
def FitI (x : S110) : Prop := x.f2.size ≤ 140737488351232
def FitF (x : S52) : Prop := x.f0.size ≤ 140737488351232 ∧ x.f2.length ≤ 140737488351232 ∧ ∀ y ∈ x.f2, y.f2.size ≤ 140737488351232
def named (a : ByteArray) (x : S52) : Bool := x.f0.toList == a.toList
def findI (l : List S52) (a : ByteArray) : Int := idxFrom (named a) l 0
def unitGood (l : List S52) : Bool := allFrom (fun i x => funOkB x.f0 x.f2 && (findI l x.f0 == (i : Int))) l 0
def unitOkB (l : List S52) : Bool := unitGood l && decide (l.length ≤ 5)
theorem impl_FunOk_f (x : S52) (h : FitF x) : impl_FunOk.f x.f0 x.f1 x.f2 = some (funOkB x.f0 x.f2) := by
  unfold impl_FunOk.f
  rw [if_pos ⟨h.1, h.2.2⟩]
theorem spec_FunOk_l0 (x : S52) (h : FitF x) (k : Nat) (hk : 140737488351236 + x.f2.length < k) : spec_FunOk.l0 k (x.f2.length : Int) 0 x.f0 x.f1 x.f2 = some (!(x.f2.any fun y => !insOkB y.f0 y.f1 y.f2)) := by
  have e := loop_all (fun _ (y : S110) => insOkB y.f0 y.f1 y.f2) z110 x.f2 true (by have := h.2.1; omega) (fun k i => spec_FunOk.l0 k (x.f2.length : Int) i x.f0 x.f1 x.f2) 140737488351236 ?_ ?_ ?_ k hk
  · rw [e, allFrom_all, Bool.and_true, all_not_any]
  · intro k i hK hi hq
    simp only [spec_FunOk.l0]
    have e := spec_InsOk_f (rd_T110 x.f2 (i : Int)).f0 (rd_T110 x.f2 (i : Int)).f1 (rd_T110 x.f2 (i : Int)).f2 (h.2.2 _ (getD_mem hi)) k (by have : (rd_T110 x.f2 (i : Int)).f2.size ≤ 140737488351232 := h.2.2 _ (getD_mem hi); omega)
    rw [show insOkB (rd_T110 x.f2 (i : Int)).f0 (rd_T110 x.f2 (i : Int)).f1 (rd_T110 x.f2 (i : Int)).f2 = true from hq] at e
    rw [if_pos (by omega), if_pos (by omega), if_pos (by omega), e]
    rfl
  · intro k i hK hi hq
    simp only [spec_FunOk.l0]
    have e := spec_InsOk_f (rd_T110 x.f2 (i : Int)).f0 (rd_T110 x.f2 (i : Int)).f1 (rd_T110 x.f2 (i : Int)).f2 (h.2.2 _ (getD_mem hi)) k (by have : (rd_T110 x.f2 (i : Int)).f2.size ≤ 140737488351232 := h.2.2 _ (getD_mem hi); omega)
    rw [show insOkB (rd_T110 x.f2 (i : Int)).f0 (rd_T110 x.f2 (i : Int)).f1 (rd_T110 x.f2 (i : Int)).f2 = false from hq] at e
    rw [if_pos (by omega), if_pos (by omega), if_pos (by omega), e]
    rfl
  · intro k hK
    simp only [spec_FunOk.l0]
    rw [if_neg (by omega)]
theorem spec_FunOk_f (x : S52) (h : FitF x) (k : Nat) (hk : 140737488351240 + x.f2.length < k) : spec_FunOk.f k x.f0 x.f1 x.f2 = some (funOkB x.f0 x.f2) := by
  obtain ⟨m, rfl⟩ : ∃ m, k = m + 1 := ⟨k - 1, by omega⟩
  have hs := h.1
  have hl := h.2.1
  unfold spec_FunOk.f funOkB
  rw [spec_NameOk_f x.f0 h.1 _ (by omega)]
  simp only [Option.bind_some]
  have j (b : Bool) : spec_FunOk.j0 (m + 1) (x.f2.length : Int) b x.f0 x.f1 x.f2 = some (!b && !(x.f2.any fun y => !insOkB y.f0 y.f1 y.f2)) := by
    simp only [spec_FunOk.j0]
    cases b with
    | true => rfl
    | false => rw [if_neg (by decide), spec_FunOk_l0 x h m (by omega)]; rfl
  cases nameOk x.f0 with
  | false => rw [if_neg (by decide), j]; rfl
  | true =>
    rw [if_pos rfl]
    by_cases h1 : (x.f2.length : Int) < 1
    · have e1 : decide (1 ≤ (x.f2.length : Int)) = false := decide_eq_false (by omega)
      rw [if_pos h1, j, e1]; rfl
    · rw [if_neg h1]
      have e1 : decide (1 ≤ (x.f2.length : Int)) = true := decide_eq_true (by omega)
      by_cases h2 : (x.f2.length : Int) > 10
      · have e2 : decide ((x.f2.length : Int) ≤ 10) = false := decide_eq_false (by omega)
        rw [if_pos h2, j, e1, e2]; rfl
      · rw [if_neg h2]
        have e2 : decide ((x.f2.length : Int) ≤ 10) = true := decide_eq_true (by omega)
        have w : wrap64 ((x.f2.length : Int) - 1) = (x.f2.length : Int) - 1 := wrap_id (by omega) (by omega)
        rw [w, if_pos (by omega), if_pos (by omega), spec_InsLast_f]
        simp only [Option.bind_some]
        rw [j, e1, e2]
        have e3 : (rd_T110 x.f2 ((x.f2.length : Int) - 1)) = x.f2.getD (x.f2.length - 1) z110 := by
          unfold rd_T110
          rw [show ((x.f2.length : Int) - 1).toNat = x.f2.length - 1 by omega]
        rw [e3]
        simp [Bool.and_comm]
theorem spec_l2Find_f (l : List S52) (hn : l.length ≤ 9223372036854775807) (a : ByteArray) (k : Nat) (hk : l.length < k) : spec_l2Find.f k l a = some (findI l a) := by
  unfold spec_l2Find.f findI
  refine loop_idx (named a) z52 l hn (fun k i => spec_l2Find.l0 k l a i) 0 ?_ ?_ ?_ k (by omega)
  · intro k i _ hi hq
    simp only [spec_l2Find.l0]
    rw [if_pos (by omega), if_pos (by omega), if_pos (show (rd_T52 l (i : Int)).f0.toList = a.toList from beq_iff_eq.mp hq)]
  · intro k i _ hi hq
    simp only [spec_l2Find.l0]
    rw [if_pos (by omega), if_pos (by omega), if_neg (show ¬ (rd_T52 l (i : Int)).f0.toList = a.toList from beq_eq_false_iff_ne.mp hq)]
  · intro k _
    simp only [spec_l2Find.l0]
    rw [if_neg (by omega)]
theorem spec_UnitOk_f (l : List S52) (hn : l.length ≤ 140737488351232) (hx : ∀ x ∈ l, FitF x) (k : Nat) (hk : 500000000000000 ≤ k) : spec_UnitOk.f k l = some (unitOkB l) := by
  unfold spec_UnitOk.f unitOkB
  have ed : decide ((l.length : Int) ≤ 5) = decide (l.length ≤ 5) := by congr 1; exact propext ⟨fun h => by omega, fun h => by omega⟩
  rw [← ed]
  have step : ∀ (k i : Nat), 300000000000000 ≤ k → i < l.length → spec_UnitOk.l0 (k + 1) l (i : Int) = if (funOkB (l.getD i z52).f0 (l.getD i z52).f2 && (findI l (l.getD i z52).f0 == (i : Int))) = true then spec_UnitOk.l0 k l (wrap64 ((i : Int) + 1)) else some false := by
    intro k i hK hi
    simp only [spec_UnitOk.l0]
    have hf := hx _ (getD_mem (d := z52) hi)
    have hl2 := hf.2.1
    have e := spec_FunOk_f (rd_T52 l (i : Int)) hf k (by have e0 : rd_T52 l (i : Int) = l.getD i z52 := rfl; rw [e0]; omega)
    rw [if_pos (by omega), if_pos (by omega), e]
    simp only [Option.bind_some]
    show (if funOkB (l.getD i z52).f0 (l.getD i z52).f2 = true then _ else _) = _
    cases funOkB (l.getD i z52).f0 (l.getD i z52).f2 with
    | false => rfl
    | true =>
      rw [if_pos rfl, spec_l2Find_f l (by omega) _ k (by omega)]
      simp only [Option.bind_some, Bool.true_and]
      show (if findI l (l.getD i z52).f0 = (i : Int) then _ else _) = _
      by_cases hq : findI l (l.getD i z52).f0 = (i : Int)
      · rw [if_pos hq, if_pos (beq_iff_eq.mpr hq)]
      · rw [if_neg hq, if_neg (by rw [beq_eq_false_iff_ne.mpr hq]; decide)]
  refine loop_all (fun i x => funOkB x.f0 x.f2 && (findI l x.f0 == (i : Int))) z52 l (decide ((l.length : Int) ≤ 5)) (by omega) (fun k i => spec_UnitOk.l0 k l i) 300000000000000 ?_ ?_ ?_ k (by omega)
  · intro k i hK hi hq
    show spec_UnitOk.l0 (k + 1) l (i : Int) = _
    rw [step k i hK hi, if_pos hq]
  · intro k i hK hi hq
    show spec_UnitOk.l0 (k + 1) l (i : Int) = _
    rw [step k i hK hi, if_neg (by rw [hq]; decide)]
  · intro k _
    simp only [spec_UnitOk.l0]
    rw [if_neg (by omega)]
theorem impl_funsOk_f (l : List S52) (hn : l.length ≤ 140737488351232) (hx : ∀ x ∈ l, FitF x) (k : Nat) (hk : l.length < k) : impl_funsOk.f k l = some (unitGood l) := by
  unfold impl_funsOk.f
  have step : ∀ (k i : Nat), i < l.length → impl_funsOk.l0 (k + 1) l l (l.length : Int) (i : Int) = if (funOkB (l.getD i z52).f0 (l.getD i z52).f2 && (findI l (l.getD i z52).f0 == (i : Int))) = true then impl_funsOk.l0 k l l (l.length : Int) (wrap64 ((i : Int) + 1)) else some false := by
    intro k i hi
    simp only [impl_funsOk.l0]
    have hf := hx _ (getD_mem (d := z52) hi)
    have e := impl_FunOk_f (rd_T52 l (i : Int)) hf
    rw [if_pos (by omega), if_pos (by omega), if_pos (by omega), e]
    simp only [Option.bind_some]
    show (if funOkB (l.getD i z52).f0 (l.getD i z52).f2 = true then _ else _) = _
    cases funOkB (l.getD i z52).f0 (l.getD i z52).f2 with
    | false => rfl
    | true =>
      rw [if_pos rfl]
      simp only [impl_find.f, Option.bind_some, Bool.true_and]
      show (if findI l (l.getD i z52).f0 = (i : Int) then _ else _) = _
      by_cases hq : findI l (l.getD i z52).f0 = (i : Int)
      · rw [if_pos hq, if_pos (beq_iff_eq.mpr hq)]
      · rw [if_neg hq, if_neg (by rw [beq_eq_false_iff_ne.mpr hq]; decide)]
  have e := loop_all (fun i x => funOkB x.f0 x.f2 && (findI l x.f0 == (i : Int))) z52 l true (by omega) (fun k i => impl_funsOk.l0 k l l (l.length : Int) i) 0 ?_ ?_ ?_ k (by omega)
  · rw [e, Bool.and_true]; rfl
  · intro k i hK hi hq
    show impl_funsOk.l0 (k + 1) l l (l.length : Int) (i : Int) = _
    rw [step k i hi, if_pos hq]
  · intro k i hK hi hq
    show impl_funsOk.l0 (k + 1) l l (l.length : Int) (i : Int) = _
    rw [step k i hi, if_neg (by rw [hq]; decide)]
  · intro k _
    simp only [impl_funsOk.l0]
    rw [if_neg (by omega)]
theorem impl_UnitOk_f (l : List S52) (hn : l.length ≤ 140737488351232) (hx : ∀ x ∈ l, FitF x) (k : Nat) (hk : l.length < k) : impl_UnitOk.f k l = some (unitOkB l) := by
  unfold impl_UnitOk.f unitOkB
  by_cases h : l.length ≤ 5
  · rw [if_pos (by omega), impl_funsOk_f l hn hx k hk]
    simp [h]
  · rw [if_neg (by omega)]
    simp [h]
def unitFindI (l : List S52) (a : ByteArray) : Int := if unitOkB l = true then findI l a else -1
theorem impl_UnitFind_f (l : List S52) (hn : l.length ≤ 140737488351232) (hx : ∀ x ∈ l, FitF x) (a : ByteArray) (k : Nat) (hk : l.length < k) : impl_UnitFind.f k l a = some (unitFindI l a) := by
  unfold impl_UnitFind.f unitFindI
  rw [impl_UnitOk_f l hn hx k hk]
  simp only [Option.bind_some]
  split <;> rfl
end Go.Proofs.Ytppmalfpggkpdaa.L
