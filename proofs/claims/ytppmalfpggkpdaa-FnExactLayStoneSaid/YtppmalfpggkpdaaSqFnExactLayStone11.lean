-- Pximpllaid: put together by squash.py
import Derived.Test.YtppmalfpggkpdaaSqFnExactLayStone3
import Derived.Test.YtppmalfpggkpdaaSqFnExactLayStone6
import Derived.Test.YtppmalfpggkpdaaSqFnExactLayStone9
import Derived.Test.YtppmalfpggkpdaaSqFnExactLayStone10

-- made by printx.py (own driver over the kit's print); Lean checks it
namespace Go.Proofs.Ytppmalfpggkpdaa.P
open Go.RowKit Go.Proofs.YtppmalfpggkpdaaW.PrintWords Go.Proofs.YtppmalfpggkpdaaW.PrintLast Go.Proofs.YtppmalfpggkpdaaW.PrintMore
attribute [local go_sem] max2_int min2_int max_two min_two max_three min_three max_four min_four   -- for this text's walks alone
set_option linter.unusedVariables false
set_option linter.unusedSimpArgs false

/-! ### impl_laid: function 113 -/
mutual
def impl_laid.j0 : Nat → List (S52) → Bool → List Int → List (List ByteArray) → Option (Bool)
  | 0, _, _, _, _ => none
  | k + 1, x0, x28, x1060000, x1060001 => if x28 = true then (some false) else (impl_laid.l0 k x0 0 x0 (x0.length : Int) 0 x1060000 x1060001)
def impl_laid.l0 : Nat → List (S52) → Int → List (S52) → Int → Int → List Int → List (List ByteArray) → Option (Bool)
  | 0, _, _, _, _, _, _, _ => none
  | k + 1, x0, x5, x29, x30, x31, x1060000, x1060001 => if x31 < x30 then (if 0 ≤ x31 then (if x31 < (x29.length : Int) then (if x31 < (x1060000.length : Int) then (if (rd x1060000 x31) = x5 then (if x31 < (x1060001.length : Int) then (impl_laid.l1 k x0 x5 x31 x29 x30 x31 (rd_L14 x1060001 x31) ((rd_L14 x1060001 x31).length : Int) 0 x1060000 x1060001 ((rd_T52 x29 x31).f0) ((rd_T52 x29 x31).f1) ((rd_T52 x29 x31).f2)) else (none)) else (some false)) else (none)) else (none)) else (none)) else (some true)
def impl_laid.l1 : Nat → List (S52) → Int → Int → List (S52) → Int → Int → List ByteArray → Int → Int → List Int → List (List ByteArray) → ByteArray → Bool → List (S110) → Option (Bool)
  | 0, _, _, _, _, _, _, _, _, _, _, _, _, _, _ => none
  | k + 1, x0, x5, x6, x29, x30, x31, x47, x48, x49, x1060000, x1060001, x1063000, x1063001, x1063002 => if x49 < x48 then (if 0 ≤ x49 then (if x49 < (x47.length : Int) then ((impl_find.f x0 (rdOf ByteArray.empty x47 x49)).bind fun t1067 => (if t1067 < 0 then (some false) else (if 0 ≤ x6 then (if x6 < (x1060001.length : Int) then (if x49 ≤ ((rd_L14 x1060001 x6).length : Int) then ((slices_Contains_sstring_string.f k ((rd_L14 x1060001 x6).take (x49 : Int).toNat) (rdOf ByteArray.empty x47 x49)).bind fun t1070 => (if t1070 = true then (some false) else (impl_laid.l1 k x0 x5 x6 x29 x30 x31 x47 x48 (wrap64 (x49 + 1)) x1060000 x1060001 x1063000 x1063001 x1063002))) else (none)) else (none)) else (none)))) else (none)) else (none)) else (if 0 ≤ x6 then (if x6 < (x1060001.length : Int) then (impl_laid.l0 k x0 (wrap64 (x5 + (wrap64 ((x1063002.length : Int) + ((rd_L14 x1060001 x6).length : Int))))) x29 x30 (wrap64 (x31 + 1)) x1060000 x1060001) else (none)) else (none))
end
def impl_laid.f (k : Nat) (l0 : List (S52)) (l1_0 : List Int) (l1_1 : List (List ByteArray)) : Option (Bool) := (impl_KeepOk.f k l0).bind fun t1060 => (if t1060 = true then (if (l1_0.length : Int) = (l0.length : Int) then (impl_laid.j0 k l0 ((l1_1.length : Int) != (l0.length : Int)) l1_0 l1_1) else (impl_laid.j0 k l0 true l1_0 l1_1)) else (impl_laid.j0 k l0 true l1_0 l1_1))
theorem impl_laid.mono_l : ∀ k, (∀ y0 y1 y2 y3, LeO (impl_laid.j0 k y0 y1 y2 y3) (impl_laid.j0 (k + 1) y0 y1 y2 y3)) ∧ (∀ y0 y1 y2 y3 y4 y5 y6, LeO (impl_laid.l0 k y0 y1 y2 y3 y4 y5 y6) (impl_laid.l0 (k + 1) y0 y1 y2 y3 y4 y5 y6)) ∧ (∀ y0 y1 y2 y3 y4 y5 y6 y7 y8 y9 y10 y11 y12 y13, LeO (impl_laid.l1 k y0 y1 y2 y3 y4 y5 y6 y7 y8 y9 y10 y11 y12 y13) (impl_laid.l1 (k + 1) y0 y1 y2 y3 y4 y5 y6 y7 y8 y9 y10 y11 y12 y13))
  | 0 => ⟨fun _ _ _ _ r h => by simp [impl_laid.j0] at h, fun _ _ _ _ _ _ _ r h => by simp [impl_laid.l0] at h, fun _ _ _ _ _ _ _ _ _ _ _ _ _ _ r h => by simp [impl_laid.l1] at h⟩
  | k + 1 => by
    obtain ⟨ih0, ih1, ih2⟩ := impl_laid.mono_l k
    refine ⟨?_, ?_, ?_⟩
    · intro y0 y1 y2 y3
      unfold impl_laid.j0
      repeat' first
      | (with_reducible exact ih0 _ _ _ _)
      | (with_reducible exact ih1 _ _ _ _ _ _ _)
      | (with_reducible exact ih2 _ _ _ _ _ _ _ _ _ _ _ _ _ _)
      | (with_reducible exact impl_KeepOk.mono _ _)
      | (with_reducible exact slices_Contains_sstring_string.mono _ _ _)
      | (with_reducible exact LeO.refl _)
      | (with_reducible exact LeO.none _)
      | (with_reducible refine LeO.ite ?_ ?_)
      | (with_reducible refine LeO.bind ?_ (fun _ => ?_))
      | exact ih0 _ _ _ _
      | exact ih1 _ _ _ _ _ _ _
      | exact ih2 _ _ _ _ _ _ _ _ _ _ _ _ _ _
      | exact impl_KeepOk.mono _ _
      | exact slices_Contains_sstring_string.mono _ _ _
      | exact LeO.none _
      | refine LeO.ite ?_ ?_
      | refine LeO.bind ?_ (fun _ => ?_)
    · intro y0 y1 y2 y3 y4 y5 y6
      unfold impl_laid.l0
      repeat' first
      | (with_reducible exact ih0 _ _ _ _)
      | (with_reducible exact ih1 _ _ _ _ _ _ _)
      | (with_reducible exact ih2 _ _ _ _ _ _ _ _ _ _ _ _ _ _)
      | (with_reducible exact impl_KeepOk.mono _ _)
      | (with_reducible exact slices_Contains_sstring_string.mono _ _ _)
      | (with_reducible exact LeO.refl _)
      | (with_reducible exact LeO.none _)
      | (with_reducible refine LeO.ite ?_ ?_)
      | (with_reducible refine LeO.bind ?_ (fun _ => ?_))
      | exact ih0 _ _ _ _
      | exact ih1 _ _ _ _ _ _ _
      | exact ih2 _ _ _ _ _ _ _ _ _ _ _ _ _ _
      | exact impl_KeepOk.mono _ _
      | exact slices_Contains_sstring_string.mono _ _ _
      | exact LeO.none _
      | refine LeO.ite ?_ ?_
      | refine LeO.bind ?_ (fun _ => ?_)
    · intro y0 y1 y2 y3 y4 y5 y6 y7 y8 y9 y10 y11 y12 y13
      unfold impl_laid.l1
      repeat' first
      | (with_reducible exact ih0 _ _ _ _)
      | (with_reducible exact ih1 _ _ _ _ _ _ _)
      | (with_reducible exact ih2 _ _ _ _ _ _ _ _ _ _ _ _ _ _)
      | (with_reducible exact impl_KeepOk.mono _ _)
      | (with_reducible exact slices_Contains_sstring_string.mono _ _ _)
      | (with_reducible exact LeO.refl _)
      | (with_reducible exact LeO.none _)
      | (with_reducible refine LeO.ite ?_ ?_)
      | (with_reducible refine LeO.bind ?_ (fun _ => ?_))
      | exact ih0 _ _ _ _
      | exact ih1 _ _ _ _ _ _ _
      | exact ih2 _ _ _ _ _ _ _ _ _ _ _ _ _ _
      | exact impl_KeepOk.mono _ _
      | exact slices_Contains_sstring_string.mono _ _ _
      | exact LeO.none _
      | refine LeO.ite ?_ ?_
      | refine LeO.bind ?_ (fun _ => ?_)
theorem impl_laid.mono : ∀ a0 a1 a2 k, LeO (impl_laid.f k a0 a1 a2) (impl_laid.f (k + 1) a0 a1 a2) := by
  intro a0 a1 a2 k
  obtain ⟨ih0, ih1, ih2⟩ := impl_laid.mono_l k
  unfold impl_laid.f
  repeat' first
      | (with_reducible exact ih0 _ _ _ _)
      | (with_reducible exact ih1 _ _ _ _ _ _ _)
      | (with_reducible exact ih2 _ _ _ _ _ _ _ _ _ _ _ _ _ _)
      | (with_reducible exact impl_KeepOk.mono _ _)
      | (with_reducible exact slices_Contains_sstring_string.mono _ _ _)
      | (with_reducible exact LeO.refl _)
      | (with_reducible exact LeO.none _)
      | (with_reducible refine LeO.ite ?_ ?_)
      | (with_reducible refine LeO.bind ?_ (fun _ => ?_))
      | exact ih0 _ _ _ _
      | exact ih1 _ _ _ _ _ _ _
      | exact ih2 _ _ _ _ _ _ _ _ _ _ _ _ _ _
      | exact impl_KeepOk.mono _ _
      | exact slices_Contains_sstring_string.mono _ _ _
      | exact LeO.none _
      | refine LeO.ite ?_ ?_
      | refine LeO.bind ?_ (fun _ => ?_)
set_option maxHeartbeats 8000000 in
set_option maxRecDepth 100000 in
theorem impl_laid.calls (k : Nat) (A0 : Option Addr) (c0 : Nat) (l0 : List (S52)) (A1_0 : Option Addr) (c1_0 : Nat) (l1_0 : List Int) (A1_1 : Option Addr) (c1_1 : Nat) (l1_1 : List (List ByteArray)) (r : Bool) (w : World) (hr0 : Kd.C k52 w A0 l0.length l0) (hc0 : l0.length ≤ c0) (hr1_0 : Kd.C (Kd.int .i64) w A1_0 l1_0.length l1_0) (hc1_0 : l1_0.length ≤ c1_0) (hr1_1 : Kd.C (Kd.slice 9 Kd.string) w A1_1 l1_1.length l1_1) (hc1_1 : l1_1.length ≤ c1_1) (h : impl_laid.f k l0 l1_0 l1_1 = some r) :
    Calls Try.prog 113 #[.slice A0 l0.length c0, .agg #[.slice A1_0 l1_0.length c1_0, .slice A1_1 l1_1.length c1_1]] w fun e w' => e = .returned (.bool r) ∧ Below w.heap.size w w' := by
  have hu80 := Try.underlying80
  have hu52 := Try.underlying52
  have HR0 := Aside0.mk hr0
  have HC0 := Aside0.mk hc0
  clear hr0 hc0
  have HR1_0 := Aside0.mk hr1_0
  have HC1_0 := Aside0.mk hc1_0
  clear hr1_0 hc1_0
  have HR1_1 := Aside0.mk hr1_1
  have HC1_1 := Aside0.mk hc1_1
  clear hr1_1 hc1_1
  have HB := Aside0.mk (Below.refl w.heap.size w)
  have H : ((impl_KeepOk.f k l0).bind fun t1060 => (if t1060 = true then (if (l1_0.length : Int) = (l0.length : Int) then (impl_laid.j0 k l0 ((l1_1.length : Int) != (l0.length : Int)) l1_0 l1_1) else (impl_laid.j0 k l0 true l1_0 l1_1)) else (impl_laid.j0 k l0 true l1_0 l1_1))) = some r := h
  clear h
  have HC3 := Aside0.mk H
  clear H
  go_enter Try.func113, Try.ntmps113
  go_upto_region 1 with (first | ((with_reducible refine gate_dst (N := 3) rfl ?_); (try (refine gate_guard (by rfl) ?_; dsimp only)); refine box_event ?hg (N := 3) ?hd (cs := #[.slice A1_0 l1_0.length c1_0, .slice A1_1 l1_1.length c1_1]) (t := 80) ?hr ?_; (case hd => rfl); (case hg => rfl); (case hr => first | (go_simp; done) | (go_simp; rfl)); intro gb1059 hg w4 hbox hb; have n0_ := Aside0.mk (below_step (by repeat (first | (with_reducible first | exact HB.out | apply below_alloc | apply pw_below_drewN | apply below_drew1) | exact HB.out)) hb); have n1_ := Aside0.mk (hbox); have n2_ := Aside0.mk ((by rw [hg]; exact (below_size (by repeat (first | (with_reducible first | exact HB.out | apply below_alloc | apply pw_below_drewN | apply below_drew1) | exact HB.out))) : w.heap.size ≤ gb1059)); have n3_ := Aside0.mk ((by rw [hg]; exact (below_size (by repeat (first | (with_reducible first | exact HB.out | apply below_alloc | apply pw_below_drewN | apply below_drew1) | exact HB.out))) : w.heap.size ≤ gb1059)); clear HB; have HB := n0_; have BK1059 := n1_; have GW1059 := n2_; have GE1059 := n3_; clear n0_ n1_ n2_ n3_; clear hb hbox hg))
  skip
  (try simp only [Act.put, List.setIfInBounds_toArray, List.set_cons_zero, List.set_cons_succ])
  go_cut [28] (fun v28 wc => ∃ (kq : Nat) (x28_2 : Bool), v28 = .bool x28_2 ∧ Aside0 (impl_laid.j0 kq l0 x28_2 l1_0 l1_1 = some r) ∧ Aside0 (kq ≤ k) ∧ Aside0 (wc.heap[gb1059]? = some (.cells #[(.slice A1_0 l1_0.length c1_0), (.slice A1_1 l1_1.length c1_1)] 80 (0, 0))) ∧ Aside0 (Below w.heap.size w wc))
  case first =>
    have H := HC3.out
    clear HC3
    replace H := Option.bind_eq_some_iff.mp H
    obtain ⟨t1060, A50, H⟩ := H
    replace H : (if t1060 = true then (if (l1_0.length : Int) = (l0.length : Int) then (impl_laid.j0 k l0 ((l1_1.length : Int) != (l0.length : Int)) l1_0 l1_1) else (impl_laid.j0 k l0 true l1_0 l1_1)) else (impl_laid.j0 k l0 true l1_0 l1_1)) = some r := H
    have A5 := Aside0.mk A50
    clear A50
    by_cases c6 : t1060 = true
    · subst c6
      have H1 : (if (l1_0.length : Int) = (l0.length : Int) then (impl_laid.j0 k l0 ((l1_1.length : Int) != (l0.length : Int)) l1_0 l1_1) else (impl_laid.j0 k l0 true l1_0 l1_1)) = some r := by rw [if_pos rfl] at H; exact H
      clear H
      have H := H1
      clear H1
      by_cases c7 : (l1_0.length : Int) = (l0.length : Int)
      · rw [if_pos c7] at H
        have c7b0 : ((l1_0.length : Int) == (l0.length : Int)) = true := beq_iff_eq.mpr c7
        have c7b1 : ((l1_0.length : Int) != (l0.length : Int)) = false := bne_eq_false_iff_eq.mpr c7
        have c7b2 : (l1_0.length == l0.length) = true := by first | simpa using c7 | (simp at c7 ⊢; omega)
        clear c7
        (first | rw [c7b0] | (simp only [i64_w, i32_w]; rw [c7b0]) | (have cn_ := c7b0; simp only [bne] at cn_; rw [cn_]; clear cn_) | skip)
        have H' := Aside0.mk H
        clear H
        go_wp2_with (first | (go_at_call 32; (with_reducible refine (impl_KeepOk.calls k _ _ l0 true _ ?side1 ?side2 A5.out).mono ?_); (case side1 => repeat (first | exact (Kd.C_below HR0.out HB.out) | (with_reducible refine Kd.C_alloc ?_ _) | (with_reducible refine Kd.C_drewN ?_ _) | (with_reducible refine Kd.C_drew ?_))); (case side2 => exact HC0.out); rintro e w8 ⟨rfl, hb⟩; have n0_ := Aside0.mk (blk_below (g := gb1059) (o := .cells #[.slice A1_0 l1_0.length c1_0, .slice A1_1 l1_1.length c1_1] 80 (0, 0)) (by (with_reducible repeat (first | refine blk_drewN ?_ _ | refine blk_drew ?_ | refine blk_alloc ?_ _)); exact BK1059.out) hb); have n1_ := Aside0.mk (below_step (by repeat (first | (with_reducible first | exact HB.out | apply below_alloc | apply pw_below_drewN | apply below_drew1 | refine below_set ?_ GE1059.out) | exact HB.out)) hb); clear BK1059; clear HB; have BK1059 := n0_; have HB := n1_; clear n0_ n1_; (try clear hb); (try clear hb2); (try clear hk); (try clear hi); have hcz9_0 : w8.cell? ⟨gb1059, 0, none⟩ = some (.slice A1_0 l1_0.length c1_0) := (blk_cell BK1059.out 0).trans rfl; have hcz9_1 : w8.cell? ⟨gb1059, 1, none⟩ = some (.slice A1_1 l1_1.length c1_1) := (blk_cell BK1059.out 1).trans rfl; have hfz9_0 := blk_frozen BK1059.out 0; have hfz9_1 := blk_frozen BK1059.out 1))
        skip
        go_meet
        case rel => exact ⟨_, (((l1_1.length : Int) != (l0.length : Int))), (by first | rfl | (simp; done) | (simp [*]; done)), H', ⟨by first | omega | exact Nat.le_refl _⟩, ⟨by (with_reducible repeat (first | refine blk_drewN ?_ _ | refine blk_drew ?_ | refine blk_alloc ?_ _)); exact BK1059.out⟩, ⟨by repeat (first | (with_reducible first | exact HB.out | apply below_alloc | apply pw_below_drewN | apply below_drew1 | refine below_set ?_ GE1059.out) | exact HB.out)⟩⟩
      · rw [if_neg c7] at H
        have c7b0 : ((l1_0.length : Int) == (l0.length : Int)) = false := beq_eq_false_iff_ne.mpr c7
        have c7b1 : ((l1_0.length : Int) != (l0.length : Int)) = true := bne_iff_ne.mpr c7
        have c7b2 : (l1_0.length == l0.length) = false := by first | simpa using c7 | (simp at c7 ⊢; omega)
        (first | rw [c7b0] | (simp only [i64_w, i32_w]; rw [c7b0]) | (have cn_ := c7b0; simp only [bne] at cn_; rw [cn_]; clear cn_) | skip)
        have H' := Aside0.mk H
        clear H
        go_wp2_with (first | (go_at_call 32; (with_reducible refine (impl_KeepOk.calls k _ _ l0 true _ ?side1 ?side2 A5.out).mono ?_); (case side1 => repeat (first | exact (Kd.C_below HR0.out HB.out) | (with_reducible refine Kd.C_alloc ?_ _) | (with_reducible refine Kd.C_drewN ?_ _) | (with_reducible refine Kd.C_drew ?_))); (case side2 => exact HC0.out); rintro e w10 ⟨rfl, hb⟩; have n0_ := Aside0.mk (blk_below (g := gb1059) (o := .cells #[.slice A1_0 l1_0.length c1_0, .slice A1_1 l1_1.length c1_1] 80 (0, 0)) (by (with_reducible repeat (first | refine blk_drewN ?_ _ | refine blk_drew ?_ | refine blk_alloc ?_ _)); exact BK1059.out) hb); have n1_ := Aside0.mk (below_step (by repeat (first | (with_reducible first | exact HB.out | apply below_alloc | apply pw_below_drewN | apply below_drew1 | refine below_set ?_ GE1059.out) | exact HB.out)) hb); clear BK1059; clear HB; have BK1059 := n0_; have HB := n1_; clear n0_ n1_; (try clear hb); (try clear hb2); (try clear hk); (try clear hi); have hcz11_0 : w10.cell? ⟨gb1059, 0, none⟩ = some (.slice A1_0 l1_0.length c1_0) := (blk_cell BK1059.out 0).trans rfl; have hcz11_1 : w10.cell? ⟨gb1059, 1, none⟩ = some (.slice A1_1 l1_1.length c1_1) := (blk_cell BK1059.out 1).trans rfl; have hfz11_0 := blk_frozen BK1059.out 0; have hfz11_1 := blk_frozen BK1059.out 1))
        skip
        go_meet
        case rel => exact ⟨_, (true), (by first | rfl | (simp; done) | (simp [*]; done)), H', ⟨by first | omega | exact Nat.le_refl _⟩, ⟨by (with_reducible repeat (first | refine blk_drewN ?_ _ | refine blk_drew ?_ | refine blk_alloc ?_ _)); exact BK1059.out⟩, ⟨by repeat (first | (with_reducible first | exact HB.out | apply below_alloc | apply pw_below_drewN | apply below_drew1 | refine below_set ?_ GE1059.out) | exact HB.out)⟩⟩
    · replace c6 := Bool.eq_false_iff.mpr c6
      subst c6
      have H1 : (impl_laid.j0 k l0 true l1_0 l1_1) = some r := by rw [if_neg (show ¬ (false = true) by decide)] at H; exact H
      clear H
      have H := H1
      clear H1
      have H' := Aside0.mk H
      clear H
      go_wp2_with (first | (go_at_call 32; (with_reducible refine (impl_KeepOk.calls k _ _ l0 false _ ?side1 ?side2 A5.out).mono ?_); (case side1 => repeat (first | exact (Kd.C_below HR0.out HB.out) | (with_reducible refine Kd.C_alloc ?_ _) | (with_reducible refine Kd.C_drewN ?_ _) | (with_reducible refine Kd.C_drew ?_))); (case side2 => exact HC0.out); rintro e w12 ⟨rfl, hb⟩; have n0_ := Aside0.mk (blk_below (g := gb1059) (o := .cells #[.slice A1_0 l1_0.length c1_0, .slice A1_1 l1_1.length c1_1] 80 (0, 0)) (by (with_reducible repeat (first | refine blk_drewN ?_ _ | refine blk_drew ?_ | refine blk_alloc ?_ _)); exact BK1059.out) hb); have n1_ := Aside0.mk (below_step (by repeat (first | (with_reducible first | exact HB.out | apply below_alloc | apply pw_below_drewN | apply below_drew1 | refine below_set ?_ GE1059.out) | exact HB.out)) hb); clear BK1059; clear HB; have BK1059 := n0_; have HB := n1_; clear n0_ n1_; (try clear hb); (try clear hb2); (try clear hk); (try clear hi)))
      skip
      go_meet
      case rel => exact ⟨_, (true), (by first | rfl | (simp; done) | (simp [*]; done)), H', ⟨by first | omega | exact Nat.le_refl _⟩, ⟨by (with_reducible repeat (first | refine blk_drewN ?_ _ | refine blk_drew ?_ | refine blk_alloc ?_ _)); exact BK1059.out⟩, ⟨by repeat (first | (with_reducible first | exact HB.out | apply below_alloc | apply pw_below_drewN | apply below_drew1 | refine below_set ?_ GE1059.out) | exact HB.out)⟩⟩
  case rest =>
    clear HC3
    try clear c1
    try clear p2
    try clear c6
    try clear c7
    try clear c7b0
    try clear c7b1
    try clear c7b2
    try clear c11
    try clear hcz11_0
    try clear hcz11_1
    try clear hcz9_0
    try clear hcz9_1
    try clear hfz11_0
    try clear hfz11_1
    try clear hfz9_0
    try clear hfz9_1
    obtain ⟨kq, x28_2, rfl, HA, HJ2, BK1059, HB⟩ := hcut
    cases kq with
    | zero => exact absurd HA.out (by simp [impl_laid.j0])
    | succ kj2 =>
      have H := HA.out
      clear HA
      simp only [impl_laid.j0] at H
      by_cases c13 : x28_2 = true
      · subst c13
        have H1 : (some false) = some r := by rw [if_pos rfl] at H; exact H
        clear H
        have H := H1
        clear H1
        obtain rfl := Option.some.inj H
        go_wp2
        skip
        go_ret
        exact ⟨by first | rfl | (simp [errW_none, errW_some] <;> rfl) | (simp [*, errW_none, errW_some] <;> rfl), by repeat (first | (with_reducible first | exact HB.out | apply below_alloc | apply pw_below_drewN | apply below_drew1 | refine below_set ?_ GE1059.out) | exact HB.out)⟩
      · replace c13 := Bool.eq_false_iff.mpr c13
        subst c13
        have H1 : (impl_laid.l0 kj2 l0 0 l0 (l0.length : Int) 0 l1_0 l1_1) = some r := by rw [if_neg (show ¬ (false = true) by decide)] at H; exact H
        clear H
        have H := H1
        clear H1
        have H' := Aside0.mk H
        clear H
        go_wp2
        skip
        go_loopg [5, 31] kj2 (fun kq v5 v31 w' => ∃ (x5_2 : Int) (x31_2 : Int), v5 = .int .i64 x5_2 ∧ v31 = .int .i64 x31_2 ∧ Aside0 (impl_laid.l0 kq l0 x5_2 l0 (l0.length : Int) x31_2 l1_0 l1_1 = some r) ∧ Aside0 (kq ≤ kj2) ∧ Aside0 (w'.heap[gb1059]? = some (.cells #[(.slice A1_0 l1_0.length c1_0), (.slice A1_1 l1_1.length c1_1)] 80 (0, 0))) ∧ Aside0 (Below w.heap.size w w'))
        case atStart => exact ⟨(0), (0), (by first | rfl | (simp; done) | (simp [*]; done)), (by first | rfl | (simp; done) | (simp [*]; done)), H', ⟨Nat.le_refl _⟩, ⟨by (with_reducible repeat (first | refine blk_drewN ?_ _ | refine blk_drew ?_ | refine blk_alloc ?_ _)); exact BK1059.out⟩, ⟨by repeat (first | (with_reducible first | exact HB.out | apply below_alloc | apply pw_below_drewN | apply below_drew1 | refine below_set ?_ GE1059.out) | exact HB.out)⟩⟩
        case round =>
          clear H'
          try clear c1
          try clear p2
          try clear c6
          try clear c7
          try clear c7b0
          try clear c7b1
          try clear c7b2
          try clear c11
          try clear c13
          try clear hcz11_0
          try clear hcz11_1
          try clear hcz9_0
          try clear hcz9_1
          try clear hfz11_0
          try clear hfz11_1
          try clear hfz9_0
          try clear hfz9_1
          try clear p2
          obtain ⟨x5_2, x31_2, rfl, rfl, HA, HK2, BK1059, HB⟩ := hrel
          cases gk with
          | zero => exact absurd HA.out (by simp [impl_laid.l0])
          | succ k2 =>
            have H := HA.out
            clear HA
            simp only [impl_laid.l0] at H
            by_cases c14 : x31_2 < (l0.length : Int)
            · rw [if_pos c14] at H
              have c14b0 : decide (x31_2 < (l0.length : Int)) = true := decide_eq_true c14
              clear c14
              by_cases c15 : 0 ≤ x31_2
              · rw [if_pos c15] at H
                have c15b0 : decide (0 ≤ x31_2) = true := decide_eq_true c15
                clear c15
                by_cases c16 : x31_2 < (l0.length : Int)
                · rw [if_pos c16] at H
                  have c16b0 : decide (x31_2 < (l0.length : Int)) = true := decide_eq_true c16
                  clear c16
                  by_cases c17 : x31_2 < (l1_0.length : Int)
                  · rw [if_pos c17] at H
                    have c17b0 : decide (x31_2 < (l1_0.length : Int)) = true := decide_eq_true c17
                    clear c17
                    by_cases c18 : (rd l1_0 x31_2) = x5_2
                    · rw [if_pos c18] at H
                      have c18b0 : ((rd l1_0 x31_2) == x5_2) = true := beq_iff_eq.mpr c18
                      have c18b1 : ((rd l1_0 x31_2) != x5_2) = false := bne_eq_false_iff_eq.mpr c18
                      clear c18
                      by_cases c19 : x31_2 < (l1_1.length : Int)
                      · rw [if_pos c19] at H
                        have c19b0 : decide (x31_2 < (l1_1.length : Int)) = true := decide_eq_true c19
                        clear c19
                        have H' := Aside0.mk H
                        clear H
                        have p1061 : 0 ≤ (x31_2 : Int) := of_decide_eq_true (by first | (with_reducible assumption) | assumption)
                        have q1061 : x31_2 < (l0.length : Int) := of_decide_eq_true (by first | (with_reducible assumption) | assumption)
                        obtain ⟨ad1061, A1061_2, c1061_2, e1061, hx1061_0, hx1061_1, hx1061_2, hl1061_2, hi1061_2⟩ := at_T52 HR0.out x31_2 p1061 q1061
                        cases e1061
                        replace hx1061_0 := (HB.out.cell (World.block_lt_of_cell? w _ hx1061_0)).trans hx1061_0
                        replace hx1061_1 := (HB.out.cell (World.block_lt_of_cell? w _ hx1061_1)).trans hx1061_1
                        replace hx1061_2 := (HB.out.cell (World.block_lt_of_cell? w _ hx1061_2)).trans hx1061_2
                        have HR1061_2 := Aside0.mk hi1061_2
                        have HC1061_2 := Aside0.mk hl1061_2
                        clear hi1061_2 hl1061_2
                        replace p1061 := eq_true p1061
                        replace q1061 := eq_true q1061
                        go_wp2_with (first | ((with_reducible refine gate_dst (N := 7) rfl ?_); (try (refine gate_guard (by rfl) ?_; dsimp only)); refine box_event ?hg (N := 7) ?hd (cs := #[.string (⟨#[]⟩ : ByteArray), .bool false, .slice none 0 0]) (t := 52) ?hr ?_; (case hd => rfl); (case hg => rfl); (case hr => first | (go_simp; done) | (go_simp; rfl)); intro gb1062 hg w20 hbox hb; have n0_ := Aside0.mk (blk_below (g := gb1059) (o := .cells #[.slice A1_0 l1_0.length c1_0, .slice A1_1 l1_1.length c1_1] 80 (0, 0)) (by (with_reducible repeat (first | refine blk_drewN ?_ _ | refine blk_drew ?_ | refine blk_alloc ?_ _)); exact BK1059.out) hb); have n1_ := Aside0.mk (below_step (by repeat (first | (with_reducible first | exact HB.out | apply below_alloc | apply pw_below_drewN | apply below_drew1 | refine below_set ?_ GE1059.out) | exact HB.out)) hb); have n2_ := Aside0.mk (hbox); have n3_ := Aside0.mk ((by rw [hg]; exact (below_size (by repeat (first | (with_reducible first | exact HB.out | apply below_alloc | apply pw_below_drewN | apply below_drew1 | refine below_set ?_ GE1059.out) | exact HB.out))) : w.heap.size ≤ gb1062)); have n4_ := Aside0.mk ((by rw [hg]; exact (below_size (by repeat (first | (with_reducible first | exact HB.out | apply below_alloc | apply pw_below_drewN | apply below_drew1 | refine below_set ?_ GE1059.out) | exact HB.out))) : w.heap.size ≤ gb1062)); have n5_ := Aside0.mk ((by rw [hg]; exact Nat.ne_of_lt (blk_lt (g := gb1059) (o := .cells #[.slice A1_0 l1_0.length c1_0, .slice A1_1 l1_1.length c1_1] 80 (0, 0)) (by (with_reducible repeat (first | refine blk_drewN ?_ _ | refine blk_drew ?_ | refine blk_alloc ?_ _)); exact BK1059.out)) : gb1059 ≠ gb1062)); have n6_ := Aside0.mk ((by rw [hg]; exact Nat.ne_of_gt (blk_lt (g := gb1059) (o := .cells #[.slice A1_0 l1_0.length c1_0, .slice A1_1 l1_1.length c1_1] 80 (0, 0)) (by (with_reducible repeat (first | refine blk_drewN ?_ _ | refine blk_drew ?_ | refine blk_alloc ?_ _)); exact BK1059.out)) : gb1062 ≠ gb1059)); clear BK1059; clear HB; have BK1059 := n0_; have HB := n1_; have BK1062 := n2_; have GW1062 := n3_; have GE1062 := n4_; have NB1059_1062 := n5_; have NB1062_1059 := n6_; clear n0_ n1_ n2_ n3_ n4_ n5_ n6_; clear hb hbox hg; have hnb21 := NB1062_1059.out; have hnc21 := NB1059_1062.out; have hcz22_0 : w20.cell? ⟨gb1062, 0, none⟩ = some (.string (⟨#[]⟩ : ByteArray)) := (blk_cell BK1062.out 0).trans rfl; have hcz22_1 : w20.cell? ⟨gb1062, 1, none⟩ = some (.bool false) := (blk_cell BK1062.out 1).trans rfl; have hcz22_2 : w20.cell? ⟨gb1062, 2, none⟩ = some (.slice none 0 0) := (blk_cell BK1062.out 2).trans rfl; have hfz22_0 := blk_frozen BK1062.out 0; have hfz22_1 := blk_frozen BK1062.out 1; have hfz22_2 := blk_frozen BK1062.out 2; have hcz23_0 : w20.cell? ⟨gb1059, 0, none⟩ = some (.slice A1_0 l1_0.length c1_0) := (blk_cell BK1059.out 0).trans rfl; have hcz23_1 : w20.cell? ⟨gb1059, 1, none⟩ = some (.slice A1_1 l1_1.length c1_1) := (blk_cell BK1059.out 1).trans rfl; have hfz23_0 := blk_frozen BK1059.out 0; have hfz23_1 := blk_frozen BK1059.out 1; have p1063 : 0 ≤ (x31_2 : Int) := of_decide_eq_true (by first | (with_reducible assumption) | assumption); have q1063 : x31_2 < (l1_0.length : Int) := of_decide_eq_true (by first | (with_reducible assumption) | assumption); obtain ⟨ad1063, e1063, hx1063_0⟩ := Kd.at_int HR1_0.out x31_2 p1063 q1063; cases e1063; have hn1063_0 : ad1063.block ≠ gb1062 := Nat.ne_of_lt (Nat.lt_of_lt_of_le (by have := World.block_lt_of_cell? _ _ hx1063_0; first | rwa [add_block] at this | exact this) GW1062.out); have hn1063_1 : ad1063.block ≠ gb1062 := Nat.ne_of_lt (Nat.lt_of_lt_of_le (by have := World.block_lt_of_cell? _ _ hx1063_0; first | rwa [add_block] at this | exact this) GW1062.out); have hn1063_2 : ad1063.block ≠ gb1062 := Nat.ne_of_lt (Nat.lt_of_lt_of_le (by have := World.block_lt_of_cell? _ _ hx1063_0; first | rwa [add_block] at this | exact this) GW1062.out); replace hx1063_0 := (HB.out.cell (World.block_lt_of_cell? w _ hx1063_0)).trans hx1063_0; replace hx1063_0 := (cell_far (p := ⟨gb1062, 0, none⟩) (by first | (rw [add_block]; exact hn1063_0) | (show (Addr.add _ _).block ≠ _; rw [add_block]; exact hn1063_0) | exact hn1063_0) (.string ((rd_T52 l0 x31_2).f0))).trans hx1063_0; replace hx1063_0 := (cell_far (p := ⟨gb1062, 1, none⟩) (by first | (rw [add_block]; exact hn1063_1) | (show (Addr.add _ _).block ≠ _; rw [add_block]; exact hn1063_1) | exact hn1063_1) (.bool ((rd_T52 l0 x31_2).f1))).trans hx1063_0; replace hx1063_0 := (cell_far (p := ⟨gb1062, 2, none⟩) (by first | (rw [add_block]; exact hn1063_2) | (show (Addr.add _ _).block ≠ _; rw [add_block]; exact hn1063_2) | exact hn1063_2) (.slice A1061_2 ((rd_T52 l0 x31_2).f2).length c1061_2)).trans hx1063_0; (try have hy1063_0 := fun (n_ : Nat) => (show (((((w20.drewN n_).setCell ⟨gb1062, 0, none⟩ (.string ((rd_T52 l0 x31_2).f0))).setCell ⟨gb1062, 1, none⟩ (.bool ((rd_T52 l0 x31_2).f1))).setCell ⟨gb1062, 2, none⟩ (.slice A1061_2 ((rd_T52 l0 x31_2).f2).length c1061_2))).cell? _ = some _ from hx1063_0)); clear hn1063_0; clear hn1063_1; clear hn1063_2; replace p1063 := eq_true p1063; replace q1063 := eq_true q1063; have p1064 : 0 ≤ (x31_2 : Int) := of_decide_eq_true (by first | (with_reducible assumption) | assumption); have q1064 : x31_2 < (l1_1.length : Int) := of_decide_eq_true (by first | (with_reducible assumption) | assumption); obtain ⟨ad1064, A1064_0, c1064_0, e1064, hx1064_0, hl1064_0, hi1064_0⟩ := at_L14 HR1_1.out x31_2 p1064 q1064; cases e1064; have hn1064_0 : ad1064.block ≠ gb1062 := Nat.ne_of_lt (Nat.lt_of_lt_of_le (by have := World.block_lt_of_cell? _ _ hx1064_0; first | rwa [add_block] at this | exact this) GW1062.out); have hn1064_1 : ad1064.block ≠ gb1062 := Nat.ne_of_lt (Nat.lt_of_lt_of_le (by have := World.block_lt_of_cell? _ _ hx1064_0; first | rwa [add_block] at this | exact this) GW1062.out); have hn1064_2 : ad1064.block ≠ gb1062 := Nat.ne_of_lt (Nat.lt_of_lt_of_le (by have := World.block_lt_of_cell? _ _ hx1064_0; first | rwa [add_block] at this | exact this) GW1062.out); replace hx1064_0 := (HB.out.cell (World.block_lt_of_cell? w _ hx1064_0)).trans hx1064_0; have HR1064_0 := Aside0.mk hi1064_0; have HC1064_0 := Aside0.mk hl1064_0; clear hi1064_0 hl1064_0; replace hx1064_0 := (cell_far (p := ⟨gb1062, 0, none⟩) (by first | (rw [add_block]; exact hn1064_0) | (show (Addr.add _ _).block ≠ _; rw [add_block]; exact hn1064_0) | exact hn1064_0) (.string ((rd_T52 l0 x31_2).f0))).trans hx1064_0; replace hx1064_0 := (cell_far (p := ⟨gb1062, 1, none⟩) (by first | (rw [add_block]; exact hn1064_1) | (show (Addr.add _ _).block ≠ _; rw [add_block]; exact hn1064_1) | exact hn1064_1) (.bool ((rd_T52 l0 x31_2).f1))).trans hx1064_0; replace hx1064_0 := (cell_far (p := ⟨gb1062, 2, none⟩) (by first | (rw [add_block]; exact hn1064_2) | (show (Addr.add _ _).block ≠ _; rw [add_block]; exact hn1064_2) | exact hn1064_2) (.slice A1061_2 ((rd_T52 l0 x31_2).f2).length c1061_2)).trans hx1064_0; (try have hy1064_0 := fun (n_ : Nat) => (show (((((w20.drewN n_).setCell ⟨gb1062, 0, none⟩ (.string ((rd_T52 l0 x31_2).f0))).setCell ⟨gb1062, 1, none⟩ (.bool ((rd_T52 l0 x31_2).f1))).setCell ⟨gb1062, 2, none⟩ (.slice A1061_2 ((rd_T52 l0 x31_2).f2).length c1061_2))).cell? _ = some _ from hx1064_0)); clear hn1064_0; clear hn1064_1; clear hn1064_2; replace p1064 := eq_true p1064; replace q1064 := eq_true q1064))
                        skip
                        go_loopg [49] k2 (fun kq v49 w' => ∃ (x49_3 : Int), v49 = .int .i64 x49_3 ∧ Aside0 (impl_laid.l1 kq l0 x5_2 x31_2 l0 (l0.length : Int) x31_2 (rd_L14 l1_1 x31_2) ((rd_L14 l1_1 x31_2).length : Int) x49_3 l1_0 l1_1 ((rd_T52 l0 x31_2).f0) ((rd_T52 l0 x31_2).f1) ((rd_T52 l0 x31_2).f2) = some r) ∧ Aside0 (kq ≤ k2) ∧ Aside0 (w'.heap[gb1059]? = some (.cells #[(.slice (some ad1063) l1_0.length c1_0), (.slice (some ad1064) l1_1.length c1_1)] 80 (0, 0))) ∧ Aside0 (w'.heap[gb1062]? = some (.cells #[.string ((rd_T52 l0 x31_2).f0), .bool ((rd_T52 l0 x31_2).f1), (.slice A1061_2 ((rd_T52 l0 x31_2).f2).length c1061_2)] 52 (0, 0))) ∧ Aside0 (Below w.heap.size w w'))
                        case atStart => exact ⟨(0), (by first | rfl | (simp; done) | (simp [*]; done)), H', ⟨Nat.le_refl _⟩, ⟨by (with_reducible repeat (first | refine blk_drewN ?_ _ | refine blk_drew ?_ | refine blk_alloc ?_ _)); refine blk_far ?_ NB1059_1062.out _; (with_reducible repeat (first | refine blk_drewN ?_ _ | refine blk_drew ?_ | refine blk_alloc ?_ _)); refine blk_far ?_ NB1059_1062.out _; (with_reducible repeat (first | refine blk_drewN ?_ _ | refine blk_drew ?_ | refine blk_alloc ?_ _)); refine blk_far ?_ NB1059_1062.out _; (with_reducible repeat (first | refine blk_drewN ?_ _ | refine blk_drew ?_ | refine blk_alloc ?_ _)); exact BK1059.out⟩, ⟨by (with_reducible repeat (first | refine blk_drewN ?_ _ | refine blk_drew ?_ | refine blk_alloc ?_ _)); refine blk_put (cs := #[.string ((rd_T52 l0 x31_2).f0), .bool ((rd_T52 l0 x31_2).f1), .slice none 0 0]) ?_ 2 _ rfl; (with_reducible repeat (first | refine blk_drewN ?_ _ | refine blk_drew ?_ | refine blk_alloc ?_ _)); refine blk_put (cs := #[.string ((rd_T52 l0 x31_2).f0), .bool false, .slice none 0 0]) ?_ 1 _ rfl; (with_reducible repeat (first | refine blk_drewN ?_ _ | refine blk_drew ?_ | refine blk_alloc ?_ _)); refine blk_put (cs := #[.string (⟨#[]⟩ : ByteArray), .bool false, .slice none 0 0]) ?_ 0 _ rfl; (with_reducible repeat (first | refine blk_drewN ?_ _ | refine blk_drew ?_ | refine blk_alloc ?_ _)); exact BK1062.out⟩, ⟨by repeat (first | (with_reducible first | exact HB.out | apply below_alloc | apply pw_below_drewN | apply below_drew1 | refine below_set ?_ GE1059.out | refine below_set ?_ GE1062.out) | exact HB.out)⟩⟩
                        case round =>
                          clear H'
                          try clear c1
                          try clear p1
                          try clear q1
                          try clear hx1
                          try clear c2
                          try clear p2
                          try clear c6
                          try clear c7
                          try clear c7b0
                          try clear c7b1
                          try clear c7b2
                          try clear c10
                          try clear p10
                          try clear q10
                          try clear hx10
                          try clear c11
                          try clear c13
                          try clear c14
                          try clear c14b0
                          try clear c15
                          try clear c15b0
                          try clear c16
                          try clear c16b0
                          try clear c17
                          try clear c17b0
                          try clear c18
                          try clear c18b0
                          try clear c18b1
                          try clear c19
                          try clear c19b0
                          try clear c21
                          try clear hcz11_0
                          try clear hcz11_1
                          try clear hcz22_0
                          try clear hcz22_1
                          try clear hcz22_2
                          try clear hcz23_0
                          try clear hcz23_1
                          try clear hcz9_0
                          try clear hcz9_1
                          try clear hfz11_0
                          try clear hfz11_1
                          try clear hfz22_0
                          try clear hfz22_1
                          try clear hfz22_2
                          try clear hfz23_0
                          try clear hfz23_1
                          try clear hfz9_0
                          try clear hfz9_1
                          try clear hx1061_0
                          try clear hx1061_1
                          try clear hx1061_2
                          try clear hx1063_0
                          try clear hx1064_0
                          try clear p1061
                          try clear p1063
                          try clear p1064
                          try clear p2
                          try clear q1061
                          try clear q1063
                          try clear q1064
                          obtain ⟨x49_3, rfl, HA, HK3, BK1059, BK1062, HB⟩ := hrel
                          cases gk with
                          | zero => exact absurd HA.out (by simp [impl_laid.l1])
                          | succ k3 =>
                            have H := HA.out
                            clear HA
                            simp only [impl_laid.l1] at H
                            by_cases c24 : x49_3 < ((rd_L14 l1_1 x31_2).length : Int)
                            · rw [if_pos c24] at H
                              have c24b0 : decide (x49_3 < ((rd_L14 l1_1 x31_2).length : Int)) = true := decide_eq_true c24
                              clear c24
                              by_cases c25 : 0 ≤ x49_3
                              · rw [if_pos c25] at H
                                have c25b0 : decide (0 ≤ x49_3) = true := decide_eq_true c25
                                clear c25
                                by_cases c26 : x49_3 < ((rd_L14 l1_1 x31_2).length : Int)
                                · rw [if_pos c26] at H
                                  have c26b0 : decide (x49_3 < ((rd_L14 l1_1 x31_2).length : Int)) = true := decide_eq_true c26
                                  clear c26
                                  replace H := Option.bind_eq_some_iff.mp H
                                  obtain ⟨t1067, A270, H⟩ := H
                                  replace H : (if t1067 < 0 then (some false) else (if 0 ≤ x31_2 then (if x31_2 < (l1_1.length : Int) then (if x49_3 ≤ ((rd_L14 l1_1 x31_2).length : Int) then ((slices_Contains_sstring_string.f k3 ((rd_L14 l1_1 x31_2).take (x49_3 : Int).toNat) (rdOf ByteArray.empty (rd_L14 l1_1 x31_2) x49_3)).bind fun t1070 => (if t1070 = true then (some false) else (impl_laid.l1 k3 l0 x5_2 x31_2 l0 (l0.length : Int) x31_2 (rd_L14 l1_1 x31_2) ((rd_L14 l1_1 x31_2).length : Int) (wrap64 (x49_3 + 1)) l1_0 l1_1 ((rd_T52 l0 x31_2).f0) ((rd_T52 l0 x31_2).f1) ((rd_T52 l0 x31_2).f2)))) else (none)) else (none)) else (none))) = some r := H
                                  have A27 := Aside0.mk A270
                                  clear A270
                                  by_cases c28 : t1067 < 0
                                  · rw [if_pos c28] at H
                                    have c28b0 : decide (t1067 < 0) = true := decide_eq_true c28
                                    clear c28
                                    obtain rfl := Option.some.inj H
                                    have p1066 : 0 ≤ (x49_3 : Int) := of_decide_eq_true (by first | (with_reducible assumption) | assumption)
                                    have q1066 : x49_3 < ((rd_L14 l1_1 x31_2).length : Int) := of_decide_eq_true (by first | (with_reducible assumption) | assumption)
                                    obtain ⟨ad1066, e1066, hx1066_0⟩ := Kd.at_string HR1064_0.out x49_3 p1066 q1066
                                    cases e1066
                                    replace hx1066_0 := (HB.out.cell (World.block_lt_of_cell? w _ hx1066_0)).trans hx1066_0
                                    replace p1066 := eq_true p1066
                                    replace q1066 := eq_true q1066
                                    go_wp2_with (first | (go_at_call 82; (with_reducible refine (impl_find.calls _ _ l0 (rdOf ByteArray.empty (rd_L14 l1_1 x31_2) x49_3) t1067 _ ?side1 ?side2 A27.out).mono ?_); (case side1 => repeat (first | exact (Kd.C_below HR0.out HB.out) | (with_reducible refine Kd.C_alloc ?_ _) | (with_reducible refine Kd.C_drewN ?_ _) | (with_reducible refine Kd.C_drew ?_))); (case side2 => exact HC0.out); rintro e w29 ⟨rfl, hb⟩; have n0_ := Aside0.mk (blk_below (g := gb1059) (o := .cells #[.slice (some ad1063) l1_0.length c1_0, .slice (some ad1064) l1_1.length c1_1] 80 (0, 0)) (by (with_reducible repeat (first | refine blk_drewN ?_ _ | refine blk_drew ?_ | refine blk_alloc ?_ _)); exact BK1059.out) hb); have n1_ := Aside0.mk (blk_below (g := gb1062) (o := .cells #[.string ((rd_T52 l0 x31_2).f0), .bool ((rd_T52 l0 x31_2).f1), .slice A1061_2 ((rd_T52 l0 x31_2).f2).length c1061_2] 52 (0, 0)) (by (with_reducible repeat (first | refine blk_drewN ?_ _ | refine blk_drew ?_ | refine blk_alloc ?_ _)); exact BK1062.out) hb); have n2_ := Aside0.mk (below_step (by repeat (first | (with_reducible first | exact HB.out | apply below_alloc | apply pw_below_drewN | apply below_drew1 | refine below_set ?_ GE1059.out | refine below_set ?_ GE1062.out) | exact HB.out)) hb); clear BK1059; clear BK1062; clear HB; have BK1059 := n0_; have BK1062 := n1_; have HB := n2_; clear n0_ n1_ n2_; (try clear hb); (try clear hb2); (try clear hk); (try clear hi)))
                                    skip
                                    go_ret
                                    exact ⟨by first | rfl | (simp [errW_none, errW_some] <;> rfl) | (simp [*, errW_none, errW_some] <;> rfl), by repeat (first | (with_reducible first | exact HB.out | apply below_alloc | apply pw_below_drewN | apply below_drew1 | refine below_set ?_ GE1059.out | refine below_set ?_ GE1062.out) | exact HB.out)⟩
                                  · rw [if_neg c28] at H
                                    have c28b0 : decide (t1067 < 0) = false := decide_eq_false c28
                                    clear c28
                                    by_cases c30 : 0 ≤ x31_2
                                    · rw [if_pos c30] at H
                                      have c30b0 : decide (0 ≤ x31_2) = true := decide_eq_true c30
                                      clear c30
                                      by_cases c31 : x31_2 < (l1_1.length : Int)
                                      · rw [if_pos c31] at H
                                        have c31b0 : decide (x31_2 < (l1_1.length : Int)) = true := decide_eq_true c31
                                        clear c31
                                        have c32b0 := eq_true (of_decide_eq_true (by first | (with_reducible assumption) | assumption) : 0 ≤ x49_3)
                                        by_cases c33 : x49_3 ≤ ((rd_L14 l1_1 x31_2).length : Int)
                                        · rw [if_pos c33] at H
                                          have c33b0 := eq_true c33
                                          have c33b1 : decide (x49_3 ≤ ((rd_L14 l1_1 x31_2).length : Int)) = true := decide_eq_true c33
                                          clear c33
                                          replace H := Option.bind_eq_some_iff.mp H
                                          obtain ⟨t1070, A340, H⟩ := H
                                          replace H : (if t1070 = true then (some false) else (impl_laid.l1 k3 l0 x5_2 x31_2 l0 (l0.length : Int) x31_2 (rd_L14 l1_1 x31_2) ((rd_L14 l1_1 x31_2).length : Int) (wrap64 (x49_3 + 1)) l1_0 l1_1 ((rd_T52 l0 x31_2).f0) ((rd_T52 l0 x31_2).f1) ((rd_T52 l0 x31_2).f2))) = some r := H
                                          have A34 := Aside0.mk A340
                                          clear A340
                                          by_cases c35 : t1070 = true
                                          · subst c35
                                            have H1 : (some false) = some r := by rw [if_pos rfl] at H; exact H
                                            clear H
                                            have H := H1
                                            clear H1
                                            obtain rfl := Option.some.inj H
                                            have p1066 : 0 ≤ (x49_3 : Int) := of_decide_eq_true (by first | (with_reducible assumption) | assumption)
                                            have q1066 : x49_3 < ((rd_L14 l1_1 x31_2).length : Int) := of_decide_eq_true (by first | (with_reducible assumption) | assumption)
                                            obtain ⟨ad1066, e1066, hx1066_0⟩ := Kd.at_string HR1064_0.out x49_3 p1066 q1066
                                            cases e1066
                                            replace hx1066_0 := (HB.out.cell (World.block_lt_of_cell? w _ hx1066_0)).trans hx1066_0
                                            replace p1066 := eq_true p1066
                                            replace q1066 := eq_true q1066
                                            go_wp2_with (first | (go_at_call 82; (with_reducible refine (impl_find.calls _ _ l0 (rdOf ByteArray.empty (rd_L14 l1_1 x31_2) x49_3) t1067 _ ?side1 ?side2 A27.out).mono ?_); (case side1 => repeat (first | exact (Kd.C_below HR0.out HB.out) | (with_reducible refine Kd.C_alloc ?_ _) | (with_reducible refine Kd.C_drewN ?_ _) | (with_reducible refine Kd.C_drew ?_))); (case side2 => exact HC0.out); rintro e w36 ⟨rfl, hb⟩; have n0_ := Aside0.mk (blk_below (g := gb1059) (o := .cells #[.slice (some ad1063) l1_0.length c1_0, .slice (some ad1064) l1_1.length c1_1] 80 (0, 0)) (by (with_reducible repeat (first | refine blk_drewN ?_ _ | refine blk_drew ?_ | refine blk_alloc ?_ _)); exact BK1059.out) hb); have n1_ := Aside0.mk (blk_below (g := gb1062) (o := .cells #[.string ((rd_T52 l0 x31_2).f0), .bool ((rd_T52 l0 x31_2).f1), .slice A1061_2 ((rd_T52 l0 x31_2).f2).length c1061_2] 52 (0, 0)) (by (with_reducible repeat (first | refine blk_drewN ?_ _ | refine blk_drew ?_ | refine blk_alloc ?_ _)); exact BK1062.out) hb); have n2_ := Aside0.mk (below_step (by repeat (first | (with_reducible first | exact HB.out | apply below_alloc | apply pw_below_drewN | apply below_drew1 | refine below_set ?_ GE1059.out | refine below_set ?_ GE1062.out) | exact HB.out)) hb); clear BK1059; clear BK1062; clear HB; have BK1059 := n0_; have BK1062 := n1_; have HB := n2_; clear n0_ n1_ n2_; (try clear hb); (try clear hb2); (try clear hk); (try clear hi); have hnb37 := NB1059_1062.out; have hnc37 := NB1062_1059.out; have hcz38_0 : w36.cell? ⟨gb1059, 0, none⟩ = some (.slice (some ad1063) l1_0.length c1_0) := (blk_cell BK1059.out 0).trans rfl; have hcz38_1 : w36.cell? ⟨gb1059, 1, none⟩ = some (.slice (some ad1064) l1_1.length c1_1) := (blk_cell BK1059.out 1).trans rfl; have hfz38_0 := blk_frozen BK1059.out 0; have hfz38_1 := blk_frozen BK1059.out 1; have p1068 : 0 ≤ (x31_2 : Int) := of_decide_eq_true (by first | (with_reducible assumption) | assumption); have q1068 : x31_2 < (l1_1.length : Int) := of_decide_eq_true (by first | (with_reducible assumption) | assumption); obtain ⟨ad1068, A1068_0, c1068_0, e1068, hx1068_0, hl1068_0, hi1068_0⟩ := at_L14 HR1_1.out x31_2 p1068 q1068; obtain rfl : ad1064 = ad1068 := (by injection e1068); replace hx1068_0 := (HB.out.cell (World.block_lt_of_cell? w _ hx1068_0)).trans hx1068_0; have HR1068_0 := Aside0.mk hi1068_0; have HC1068_0 := Aside0.mk hl1068_0; clear hi1068_0 hl1068_0; replace p1068 := eq_true p1068; replace q1068 := eq_true q1068; obtain ⟨i039, hi039, _, hsz39, _⟩ := info_parts info9; obtain ⟨hcut39, hA39, hC39⟩ := print_take_of (P := Try.prog) Value.string (⟨#[]⟩ : ByteArray) 24 9 .i64 Try.underlying24 hi039 hsz39 A1068_0 c1068_0 (rd_L14 l1_1 x31_2) x49_3 (of_decide_eq_true (by first | (with_reducible assumption) | assumption)) (of_decide_eq_true (by first | (with_reducible assumption) | assumption)) HC1068_0.out; have HR1069 := Aside0.mk (Kd.C_of_reads (h1 := fun _ => rfl) (hA39 _ (Kd.reads_of_C HR1068_0.out))); have HC1069 := Aside0.mk hC39; clear hA39 hC39 hi039 hsz39) | (go_at_call 89; (first | rw [← (show (((rd_L14 l1_1 x31_2)).take (x49_3 : Int).toNat).length = (x49_3 : Int).toNat from (by have h_ : x49_3 ≤ (((rd_L14 l1_1 x31_2)).length : Int) := of_decide_eq_true (by assumption); rw [List.length_take]; omega))] | skip); (with_reducible refine (slices_Contains_sstring_string.calls k3 _ _ ((rd_L14 l1_1 x31_2).take (x49_3 : Int).toNat) (rdOf ByteArray.empty (rd_L14 l1_1 x31_2) x49_3) true _ ?side1 ?side2 A34.out).mono ?_); (case side1 => repeat (first | exact (Kd.C_below HR1069.out HB.out) | (with_reducible refine Kd.C_alloc ?_ _) | (with_reducible refine Kd.C_drewN ?_ _) | (with_reducible refine Kd.C_drew ?_))); (case side2 => exact HC1069.out); rintro e w' ⟨rfl, ⟨nd, rfl⟩⟩; (try first | exact ⟨rfl, _, World.drewN_drewN _ _ _⟩ | exact ⟨rfl, _, Eq.trans (World.drewN_drewN _ _ _) (congrArg (World.drewN _) (Nat.add_assoc _ _ _))⟩)))
                                            skip
                                            go_ret
                                            exact ⟨by first | rfl | (simp [errW_none, errW_some] <;> rfl) | (simp [*, errW_none, errW_some] <;> rfl), by repeat (first | (with_reducible first | exact HB.out | apply below_alloc | apply pw_below_drewN | apply below_drew1 | refine below_set ?_ GE1059.out | refine below_set ?_ GE1062.out) | exact HB.out)⟩
                                          · replace c35 := Bool.eq_false_iff.mpr c35
                                            subst c35
                                            have H1 : (impl_laid.l1 k3 l0 x5_2 x31_2 l0 (l0.length : Int) x31_2 (rd_L14 l1_1 x31_2) ((rd_L14 l1_1 x31_2).length : Int) (wrap64 (x49_3 + 1)) l1_0 l1_1 ((rd_T52 l0 x31_2).f0) ((rd_T52 l0 x31_2).f1) ((rd_T52 l0 x31_2).f2)) = some r := by rw [if_neg (show ¬ (false = true) by decide)] at H; exact H
                                            clear H
                                            have H := H1
                                            clear H1
                                            have H' := Aside0.mk H
                                            clear H
                                            have p1066 : 0 ≤ (x49_3 : Int) := of_decide_eq_true (by first | (with_reducible assumption) | assumption)
                                            have q1066 : x49_3 < ((rd_L14 l1_1 x31_2).length : Int) := of_decide_eq_true (by first | (with_reducible assumption) | assumption)
                                            obtain ⟨ad1066, e1066, hx1066_0⟩ := Kd.at_string HR1064_0.out x49_3 p1066 q1066
                                            cases e1066
                                            replace hx1066_0 := (HB.out.cell (World.block_lt_of_cell? w _ hx1066_0)).trans hx1066_0
                                            replace p1066 := eq_true p1066
                                            replace q1066 := eq_true q1066
                                            go_wp2_with (first | (go_at_call 82; (with_reducible refine (impl_find.calls _ _ l0 (rdOf ByteArray.empty (rd_L14 l1_1 x31_2) x49_3) t1067 _ ?side1 ?side2 A27.out).mono ?_); (case side1 => repeat (first | exact (Kd.C_below HR0.out HB.out) | (with_reducible refine Kd.C_alloc ?_ _) | (with_reducible refine Kd.C_drewN ?_ _) | (with_reducible refine Kd.C_drew ?_))); (case side2 => exact HC0.out); rintro e w40 ⟨rfl, hb⟩; have n0_ := Aside0.mk (blk_below (g := gb1059) (o := .cells #[.slice (some ad1063) l1_0.length c1_0, .slice (some ad1064) l1_1.length c1_1] 80 (0, 0)) (by (with_reducible repeat (first | refine blk_drewN ?_ _ | refine blk_drew ?_ | refine blk_alloc ?_ _)); exact BK1059.out) hb); have n1_ := Aside0.mk (blk_below (g := gb1062) (o := .cells #[.string ((rd_T52 l0 x31_2).f0), .bool ((rd_T52 l0 x31_2).f1), .slice A1061_2 ((rd_T52 l0 x31_2).f2).length c1061_2] 52 (0, 0)) (by (with_reducible repeat (first | refine blk_drewN ?_ _ | refine blk_drew ?_ | refine blk_alloc ?_ _)); exact BK1062.out) hb); have n2_ := Aside0.mk (below_step (by repeat (first | (with_reducible first | exact HB.out | apply below_alloc | apply pw_below_drewN | apply below_drew1 | refine below_set ?_ GE1059.out | refine below_set ?_ GE1062.out) | exact HB.out)) hb); clear BK1059; clear BK1062; clear HB; have BK1059 := n0_; have BK1062 := n1_; have HB := n2_; clear n0_ n1_ n2_; (try clear hb); (try clear hb2); (try clear hk); (try clear hi); have hnb41 := NB1059_1062.out; have hnc41 := NB1062_1059.out; have hcz42_0 : w40.cell? ⟨gb1059, 0, none⟩ = some (.slice (some ad1063) l1_0.length c1_0) := (blk_cell BK1059.out 0).trans rfl; have hcz42_1 : w40.cell? ⟨gb1059, 1, none⟩ = some (.slice (some ad1064) l1_1.length c1_1) := (blk_cell BK1059.out 1).trans rfl; have hfz42_0 := blk_frozen BK1059.out 0; have hfz42_1 := blk_frozen BK1059.out 1; have p1068 : 0 ≤ (x31_2 : Int) := of_decide_eq_true (by first | (with_reducible assumption) | assumption); have q1068 : x31_2 < (l1_1.length : Int) := of_decide_eq_true (by first | (with_reducible assumption) | assumption); obtain ⟨ad1068, A1068_0, c1068_0, e1068, hx1068_0, hl1068_0, hi1068_0⟩ := at_L14 HR1_1.out x31_2 p1068 q1068; obtain rfl : ad1064 = ad1068 := (by injection e1068); replace hx1068_0 := (HB.out.cell (World.block_lt_of_cell? w _ hx1068_0)).trans hx1068_0; have HR1068_0 := Aside0.mk hi1068_0; have HC1068_0 := Aside0.mk hl1068_0; clear hi1068_0 hl1068_0; replace p1068 := eq_true p1068; replace q1068 := eq_true q1068; obtain ⟨i043, hi043, _, hsz43, _⟩ := info_parts info9; obtain ⟨hcut43, hA43, hC43⟩ := print_take_of (P := Try.prog) Value.string (⟨#[]⟩ : ByteArray) 24 9 .i64 Try.underlying24 hi043 hsz43 A1068_0 c1068_0 (rd_L14 l1_1 x31_2) x49_3 (of_decide_eq_true (by first | (with_reducible assumption) | assumption)) (of_decide_eq_true (by first | (with_reducible assumption) | assumption)) HC1068_0.out; have HR1069 := Aside0.mk (Kd.C_of_reads (h1 := fun _ => rfl) (hA43 _ (Kd.reads_of_C HR1068_0.out))); have HC1069 := Aside0.mk hC43; clear hA43 hC43 hi043 hsz43) | (go_at_call 89; (first | rw [← (show (((rd_L14 l1_1 x31_2)).take (x49_3 : Int).toNat).length = (x49_3 : Int).toNat from (by have h_ : x49_3 ≤ (((rd_L14 l1_1 x31_2)).length : Int) := of_decide_eq_true (by assumption); rw [List.length_take]; omega))] | skip); (with_reducible refine (slices_Contains_sstring_string.calls k3 _ _ ((rd_L14 l1_1 x31_2).take (x49_3 : Int).toNat) (rdOf ByteArray.empty (rd_L14 l1_1 x31_2) x49_3) false _ ?side1 ?side2 A34.out).mono ?_); (case side1 => repeat (first | exact (Kd.C_below HR1069.out HB.out) | (with_reducible refine Kd.C_alloc ?_ _) | (with_reducible refine Kd.C_drewN ?_ _) | (with_reducible refine Kd.C_drew ?_))); (case side2 => exact HC1069.out); rintro e w' ⟨rfl, ⟨nd, rfl⟩⟩; (try first | exact ⟨rfl, _, World.drewN_drewN _ _ _⟩ | exact ⟨rfl, _, Eq.trans (World.drewN_drewN _ _ _) (congrArg (World.drewN _) (Nat.add_assoc _ _ _))⟩)))
                                            skip
                                            go_roundg k3
                                            case measure => have := HJ2.out; have := HK2.out; have := HK3.out; omega
                                            case rel => exact ⟨(wrap64 (x49_3 + 1)), (by first | rfl | (simp; done) | (simp [*]; done)), H', ⟨by have := HJ2.out; have := HK2.out; have := HK3.out; omega⟩, ⟨by (with_reducible repeat (first | refine blk_drewN ?_ _ | refine blk_drew ?_ | refine blk_alloc ?_ _)); exact BK1059.out⟩, ⟨by (with_reducible repeat (first | refine blk_drewN ?_ _ | refine blk_drew ?_ | refine blk_alloc ?_ _)); exact BK1062.out⟩, ⟨by repeat (first | (with_reducible first | exact HB.out | apply below_alloc | apply pw_below_drewN | apply below_drew1 | refine below_set ?_ GE1059.out | refine below_set ?_ GE1062.out) | exact HB.out)⟩⟩
                                        · rw [if_neg c33] at H
                                          exact absurd H (by simp)
                                      · rw [if_neg c31] at H
                                        exact absurd H (by simp)
                                    · rw [if_neg c30] at H
                                      exact absurd H (by simp)
                                · rw [if_neg c26] at H
                                  exact absurd H (by simp)
                              · rw [if_neg c25] at H
                                exact absurd H (by simp)
                            · rw [if_neg c24] at H
                              have c24b0 : decide (x49_3 < ((rd_L14 l1_1 x31_2).length : Int)) = false := decide_eq_false c24
                              clear c24
                              by_cases c44 : 0 ≤ x31_2
                              · rw [if_pos c44] at H
                                have c44b0 : decide (0 ≤ x31_2) = true := decide_eq_true c44
                                clear c44
                                by_cases c45 : x31_2 < (l1_1.length : Int)
                                · rw [if_pos c45] at H
                                  have c45b0 : decide (x31_2 < (l1_1.length : Int)) = true := decide_eq_true c45
                                  clear c45
                                  have H' := Aside0.mk H
                                  clear H
                                  have hnb46 := NB1062_1059.out
                                  have hnc46 := NB1059_1062.out
                                  have hcz47_0 : wr.cell? ⟨gb1062, 0, none⟩ = some (.string ((rd_T52 l0 x31_2).f0)) := (blk_cell BK1062.out 0).trans rfl
                                  have hcz47_1 : wr.cell? ⟨gb1062, 1, none⟩ = some (.bool ((rd_T52 l0 x31_2).f1)) := (blk_cell BK1062.out 1).trans rfl
                                  have hcz47_2 : wr.cell? ⟨gb1062, 2, none⟩ = some (.slice A1061_2 ((rd_T52 l0 x31_2).f2).length c1061_2) := (blk_cell BK1062.out 2).trans rfl
                                  have hfz47_0 := blk_frozen BK1062.out 0
                                  have hfz47_1 := blk_frozen BK1062.out 1
                                  have hfz47_2 := blk_frozen BK1062.out 2
                                  have hcz48_0 : wr.cell? ⟨gb1059, 0, none⟩ = some (.slice (some ad1063) l1_0.length c1_0) := (blk_cell BK1059.out 0).trans rfl
                                  have hcz48_1 : wr.cell? ⟨gb1059, 1, none⟩ = some (.slice (some ad1064) l1_1.length c1_1) := (blk_cell BK1059.out 1).trans rfl
                                  have hfz48_0 := blk_frozen BK1059.out 0
                                  have hfz48_1 := blk_frozen BK1059.out 1
                                  have p1065 : 0 ≤ (x31_2 : Int) := of_decide_eq_true (by first | (with_reducible assumption) | assumption)
                                  have q1065 : x31_2 < (l1_1.length : Int) := of_decide_eq_true (by first | (with_reducible assumption) | assumption)
                                  obtain ⟨ad1065, A1065_0, c1065_0, e1065, hx1065_0, hl1065_0, hi1065_0⟩ := at_L14 HR1_1.out x31_2 p1065 q1065
                                  obtain rfl : ad1064 = ad1065 := (by injection e1065)
                                  replace hx1065_0 := (HB.out.cell (World.block_lt_of_cell? w _ hx1065_0)).trans hx1065_0
                                  have HR1065_0 := Aside0.mk hi1065_0
                                  have HC1065_0 := Aside0.mk hl1065_0
                                  clear hi1065_0 hl1065_0
                                  replace p1065 := eq_true p1065
                                  replace q1065 := eq_true q1065
                                  go_wp2
                                  repeat (go_quiet (fail); try go_wp2)
                                  go_roundg k3
                                  case measure => have := HJ2.out; have := HK2.out; have := HK3.out; omega
                                  case rel => exact ⟨(wrap64 (x5_2 + (wrap64 ((((rd_T52 l0 x31_2).f2).length : Int) + ((rd_L14 l1_1 x31_2).length : Int))))), (wrap64 (x31_2 + 1)), (by first | rfl | (simp; done) | (simp [*]; done)), (by first | rfl | (simp; done) | (simp [*]; done)), H', ⟨by have := HJ2.out; have := HK2.out; have := HK3.out; omega⟩, ⟨by (with_reducible repeat (first | refine blk_drewN ?_ _ | refine blk_drew ?_ | refine blk_alloc ?_ _)); exact BK1059.out⟩, ⟨by repeat (first | (with_reducible first | exact HB.out | apply below_alloc | apply pw_below_drewN | apply below_drew1 | refine below_set ?_ GE1059.out | refine below_set ?_ GE1062.out) | exact HB.out)⟩⟩
                                · rw [if_neg c45] at H
                                  exact absurd H (by simp)
                              · rw [if_neg c44] at H
                                exact absurd H (by simp)
                      · rw [if_neg c19] at H
                        exact absurd H (by simp)
                    · rw [if_neg c18] at H
                      have c18b0 : ((rd l1_0 x31_2) == x5_2) = false := beq_eq_false_iff_ne.mpr c18
                      have c18b1 : ((rd l1_0 x31_2) != x5_2) = true := bne_iff_ne.mpr c18
                      obtain rfl := Option.some.inj H
                      have p1061 : 0 ≤ (x31_2 : Int) := of_decide_eq_true (by first | (with_reducible assumption) | assumption)
                      have q1061 : x31_2 < (l0.length : Int) := of_decide_eq_true (by first | (with_reducible assumption) | assumption)
                      obtain ⟨ad1061, A1061_2, c1061_2, e1061, hx1061_0, hx1061_1, hx1061_2, hl1061_2, hi1061_2⟩ := at_T52 HR0.out x31_2 p1061 q1061
                      cases e1061
                      replace hx1061_0 := (HB.out.cell (World.block_lt_of_cell? w _ hx1061_0)).trans hx1061_0
                      replace hx1061_1 := (HB.out.cell (World.block_lt_of_cell? w _ hx1061_1)).trans hx1061_1
                      replace hx1061_2 := (HB.out.cell (World.block_lt_of_cell? w _ hx1061_2)).trans hx1061_2
                      have HR1061_2 := Aside0.mk hi1061_2
                      have HC1061_2 := Aside0.mk hl1061_2
                      clear hi1061_2 hl1061_2
                      replace p1061 := eq_true p1061
                      replace q1061 := eq_true q1061
                      go_wp2_with (first | ((with_reducible refine gate_dst (N := 7) rfl ?_); (try (refine gate_guard (by rfl) ?_; dsimp only)); refine box_event ?hg (N := 7) ?hd (cs := #[.string (⟨#[]⟩ : ByteArray), .bool false, .slice none 0 0]) (t := 52) ?hr ?_; (case hd => rfl); (case hg => rfl); (case hr => first | (go_simp; done) | (go_simp; rfl)); intro gb1062 hg w49 hbox hb; have n0_ := Aside0.mk (blk_below (g := gb1059) (o := .cells #[.slice A1_0 l1_0.length c1_0, .slice A1_1 l1_1.length c1_1] 80 (0, 0)) (by (with_reducible repeat (first | refine blk_drewN ?_ _ | refine blk_drew ?_ | refine blk_alloc ?_ _)); exact BK1059.out) hb); have n1_ := Aside0.mk (below_step (by repeat (first | (with_reducible first | exact HB.out | apply below_alloc | apply pw_below_drewN | apply below_drew1 | refine below_set ?_ GE1059.out) | exact HB.out)) hb); have n2_ := Aside0.mk (hbox); have n3_ := Aside0.mk ((by rw [hg]; exact (below_size (by repeat (first | (with_reducible first | exact HB.out | apply below_alloc | apply pw_below_drewN | apply below_drew1 | refine below_set ?_ GE1059.out) | exact HB.out))) : w.heap.size ≤ gb1062)); have n4_ := Aside0.mk ((by rw [hg]; exact (below_size (by repeat (first | (with_reducible first | exact HB.out | apply below_alloc | apply pw_below_drewN | apply below_drew1 | refine below_set ?_ GE1059.out) | exact HB.out))) : w.heap.size ≤ gb1062)); have n5_ := Aside0.mk ((by rw [hg]; exact Nat.ne_of_lt (blk_lt (g := gb1059) (o := .cells #[.slice A1_0 l1_0.length c1_0, .slice A1_1 l1_1.length c1_1] 80 (0, 0)) (by (with_reducible repeat (first | refine blk_drewN ?_ _ | refine blk_drew ?_ | refine blk_alloc ?_ _)); exact BK1059.out)) : gb1059 ≠ gb1062)); have n6_ := Aside0.mk ((by rw [hg]; exact Nat.ne_of_gt (blk_lt (g := gb1059) (o := .cells #[.slice A1_0 l1_0.length c1_0, .slice A1_1 l1_1.length c1_1] 80 (0, 0)) (by (with_reducible repeat (first | refine blk_drewN ?_ _ | refine blk_drew ?_ | refine blk_alloc ?_ _)); exact BK1059.out)) : gb1062 ≠ gb1059)); clear BK1059; clear HB; have BK1059 := n0_; have HB := n1_; have BK1062 := n2_; have GW1062 := n3_; have GE1062 := n4_; have NB1059_1062 := n5_; have NB1062_1059 := n6_; clear n0_ n1_ n2_ n3_ n4_ n5_ n6_; clear hb hbox hg; have hnb50 := NB1062_1059.out; have hnc50 := NB1059_1062.out; have hcz51_0 : w49.cell? ⟨gb1062, 0, none⟩ = some (.string (⟨#[]⟩ : ByteArray)) := (blk_cell BK1062.out 0).trans rfl; have hcz51_1 : w49.cell? ⟨gb1062, 1, none⟩ = some (.bool false) := (blk_cell BK1062.out 1).trans rfl; have hcz51_2 : w49.cell? ⟨gb1062, 2, none⟩ = some (.slice none 0 0) := (blk_cell BK1062.out 2).trans rfl; have hfz51_0 := blk_frozen BK1062.out 0; have hfz51_1 := blk_frozen BK1062.out 1; have hfz51_2 := blk_frozen BK1062.out 2; have hcz52_0 : w49.cell? ⟨gb1059, 0, none⟩ = some (.slice A1_0 l1_0.length c1_0) := (blk_cell BK1059.out 0).trans rfl; have hcz52_1 : w49.cell? ⟨gb1059, 1, none⟩ = some (.slice A1_1 l1_1.length c1_1) := (blk_cell BK1059.out 1).trans rfl; have hfz52_0 := blk_frozen BK1059.out 0; have hfz52_1 := blk_frozen BK1059.out 1; have p1063 : 0 ≤ (x31_2 : Int) := of_decide_eq_true (by first | (with_reducible assumption) | assumption); have q1063 : x31_2 < (l1_0.length : Int) := of_decide_eq_true (by first | (with_reducible assumption) | assumption); obtain ⟨ad1063, e1063, hx1063_0⟩ := Kd.at_int HR1_0.out x31_2 p1063 q1063; cases e1063; have hn1063_0 : ad1063.block ≠ gb1062 := Nat.ne_of_lt (Nat.lt_of_lt_of_le (by have := World.block_lt_of_cell? _ _ hx1063_0; first | rwa [add_block] at this | exact this) GW1062.out); have hn1063_1 : ad1063.block ≠ gb1062 := Nat.ne_of_lt (Nat.lt_of_lt_of_le (by have := World.block_lt_of_cell? _ _ hx1063_0; first | rwa [add_block] at this | exact this) GW1062.out); have hn1063_2 : ad1063.block ≠ gb1062 := Nat.ne_of_lt (Nat.lt_of_lt_of_le (by have := World.block_lt_of_cell? _ _ hx1063_0; first | rwa [add_block] at this | exact this) GW1062.out); replace hx1063_0 := (HB.out.cell (World.block_lt_of_cell? w _ hx1063_0)).trans hx1063_0; replace hx1063_0 := (cell_far (p := ⟨gb1062, 0, none⟩) (by first | (rw [add_block]; exact hn1063_0) | (show (Addr.add _ _).block ≠ _; rw [add_block]; exact hn1063_0) | exact hn1063_0) (.string ((rd_T52 l0 x31_2).f0))).trans hx1063_0; replace hx1063_0 := (cell_far (p := ⟨gb1062, 1, none⟩) (by first | (rw [add_block]; exact hn1063_1) | (show (Addr.add _ _).block ≠ _; rw [add_block]; exact hn1063_1) | exact hn1063_1) (.bool ((rd_T52 l0 x31_2).f1))).trans hx1063_0; replace hx1063_0 := (cell_far (p := ⟨gb1062, 2, none⟩) (by first | (rw [add_block]; exact hn1063_2) | (show (Addr.add _ _).block ≠ _; rw [add_block]; exact hn1063_2) | exact hn1063_2) (.slice A1061_2 ((rd_T52 l0 x31_2).f2).length c1061_2)).trans hx1063_0; (try have hy1063_0 := fun (n_ : Nat) => (show (((((w49.drewN n_).setCell ⟨gb1062, 0, none⟩ (.string ((rd_T52 l0 x31_2).f0))).setCell ⟨gb1062, 1, none⟩ (.bool ((rd_T52 l0 x31_2).f1))).setCell ⟨gb1062, 2, none⟩ (.slice A1061_2 ((rd_T52 l0 x31_2).f2).length c1061_2))).cell? _ = some _ from hx1063_0)); clear hn1063_0; clear hn1063_1; clear hn1063_2; replace p1063 := eq_true p1063; replace q1063 := eq_true q1063))
                      skip
                      go_ret
                      exact ⟨by first | rfl | (simp [errW_none, errW_some] <;> rfl) | (simp [*, errW_none, errW_some] <;> rfl), by repeat (first | (with_reducible first | exact HB.out | apply below_alloc | apply pw_below_drewN | apply below_drew1 | refine below_set ?_ GE1059.out | refine below_set ?_ GE1062.out) | exact HB.out)⟩
                  · rw [if_neg c17] at H
                    exact absurd H (by simp)
                · rw [if_neg c16] at H
                  exact absurd H (by simp)
              · rw [if_neg c15] at H
                exact absurd H (by simp)
            · rw [if_neg c14] at H
              have c14b0 : decide (x31_2 < (l0.length : Int)) = false := decide_eq_false c14
              clear c14
              obtain rfl := Option.some.inj H
              go_wp2
              skip
              go_ret
              exact ⟨by first | rfl | (simp [errW_none, errW_some] <;> rfl) | (simp [*, errW_none, errW_some] <;> rfl), by repeat (first | (with_reducible first | exact HB.out | apply below_alloc | apply pw_below_drewN | apply below_drew1 | refine below_set ?_ GE1059.out) | exact HB.out)⟩

/-! ### impl_LayStone: function 55 -/
def impl_LayStone.f (k : Nat) (l0 : List (S52)) (l1_0 : List Int) (l1_1 : List (List ByteArray)) (a2 : Int) (a3 : Int) : Option (Int) := (impl_laid.f k l0 l1_0 l1_1).bind fun t1072 => (if t1072 = true then ((impl_in.f a2 0 (wrap64 ((l0.length : Int) - 1))).bind fun t1073 => (if t1073 = true then (if 0 ≤ a2 then (if a2 < (l1_1.length : Int) then ((impl_in.f a3 0 (wrap64 (((rd_L14 l1_1 a2).length : Int) - 1))).bind fun t1075 => (if t1075 = true then (if a2 < (l1_0.length : Int) then (if a2 < (l0.length : Int) then (some (wrap64 ((wrap64 ((rd l1_0 a2) + (((rd_T52 l0 a2).f2).length : Int))) + a3))) else (none)) else (none)) else (some (-1)))) else (none)) else (none)) else (some (-1)))) else (some (-1)))
theorem impl_LayStone.mono : ∀ a0 a1 a2 a3 a4 k, LeO (impl_LayStone.f k a0 a1 a2 a3 a4) (impl_LayStone.f (k + 1) a0 a1 a2 a3 a4) := by
  intro a0 a1 a2 a3 a4 k
  unfold impl_LayStone.f
  repeat' first
      | (with_reducible exact impl_laid.mono _ _ _ _)
      | (with_reducible exact LeO.refl _)
      | (with_reducible exact LeO.none _)
      | (with_reducible refine LeO.ite ?_ ?_)
      | (with_reducible refine LeO.bind ?_ (fun _ => ?_))
      | exact impl_laid.mono _ _ _ _
      | exact LeO.none _
      | refine LeO.ite ?_ ?_
      | refine LeO.bind ?_ (fun _ => ?_)
set_option maxHeartbeats 8000000 in
set_option maxRecDepth 100000 in
theorem impl_LayStone.calls (k : Nat) (A0 : Option Addr) (c0 : Nat) (l0 : List (S52)) (A1_0 : Option Addr) (c1_0 : Nat) (l1_0 : List Int) (A1_1 : Option Addr) (c1_1 : Nat) (l1_1 : List (List ByteArray)) (a2 : Int) (a3 : Int) (r : Int) (w : World) (hr0 : Kd.C k52 w A0 l0.length l0) (hc0 : l0.length ≤ c0) (hr1_0 : Kd.C (Kd.int .i64) w A1_0 l1_0.length l1_0) (hc1_0 : l1_0.length ≤ c1_0) (hr1_1 : Kd.C (Kd.slice 9 Kd.string) w A1_1 l1_1.length l1_1) (hc1_1 : l1_1.length ≤ c1_1) (h : impl_LayStone.f k l0 l1_0 l1_1 a2 a3 = some r) :
    Calls Try.prog 55 #[.slice A0 l0.length c0, .agg #[.slice A1_0 l1_0.length c1_0, .slice A1_1 l1_1.length c1_1], .int .i64 a2, .int .i64 a3] w fun e w' => e = .returned (.int .i64 r) ∧ Below w.heap.size w w' := by
  have hu80 := Try.underlying80
  have HR0 := Aside0.mk hr0
  have HC0 := Aside0.mk hc0
  clear hr0 hc0
  have HR1_0 := Aside0.mk hr1_0
  have HC1_0 := Aside0.mk hc1_0
  clear hr1_0 hc1_0
  have HR1_1 := Aside0.mk hr1_1
  have HC1_1 := Aside0.mk hc1_1
  clear hr1_1 hc1_1
  have HB := Aside0.mk (Below.refl w.heap.size w)
  have H : ((impl_laid.f k l0 l1_0 l1_1).bind fun t1072 => (if t1072 = true then ((impl_in.f a2 0 (wrap64 ((l0.length : Int) - 1))).bind fun t1073 => (if t1073 = true then (if 0 ≤ a2 then (if a2 < (l1_1.length : Int) then ((impl_in.f a3 0 (wrap64 (((rd_L14 l1_1 a2).length : Int) - 1))).bind fun t1075 => (if t1075 = true then (if a2 < (l1_0.length : Int) then (if a2 < (l0.length : Int) then (some (wrap64 ((wrap64 ((rd l1_0 a2) + (((rd_T52 l0 a2).f2).length : Int))) + a3))) else (none)) else (none)) else (some (-1)))) else (none)) else (none)) else (some (-1)))) else (some (-1)))) = some r := h
  clear h
  replace H := Option.bind_eq_some_iff.mp H
  obtain ⟨t1072, A50, H⟩ := H
  replace H : (if t1072 = true then ((impl_in.f a2 0 (wrap64 ((l0.length : Int) - 1))).bind fun t1073 => (if t1073 = true then (if 0 ≤ a2 then (if a2 < (l1_1.length : Int) then ((impl_in.f a3 0 (wrap64 (((rd_L14 l1_1 a2).length : Int) - 1))).bind fun t1075 => (if t1075 = true then (if a2 < (l1_0.length : Int) then (if a2 < (l0.length : Int) then (some (wrap64 ((wrap64 ((rd l1_0 a2) + (((rd_T52 l0 a2).f2).length : Int))) + a3))) else (none)) else (none)) else (some (-1)))) else (none)) else (none)) else (some (-1)))) else (some (-1))) = some r := H
  have A5 := Aside0.mk A50
  clear A50
  by_cases c6 : t1072 = true
  · subst c6
    have H1 : ((impl_in.f a2 0 (wrap64 ((l0.length : Int) - 1))).bind fun t1073 => (if t1073 = true then (if 0 ≤ a2 then (if a2 < (l1_1.length : Int) then ((impl_in.f a3 0 (wrap64 (((rd_L14 l1_1 a2).length : Int) - 1))).bind fun t1075 => (if t1075 = true then (if a2 < (l1_0.length : Int) then (if a2 < (l0.length : Int) then (some (wrap64 ((wrap64 ((rd l1_0 a2) + (((rd_T52 l0 a2).f2).length : Int))) + a3))) else (none)) else (none)) else (some (-1)))) else (none)) else (none)) else (some (-1)))) = some r := by rw [if_pos rfl] at H; exact H
    clear H
    have H := H1
    clear H1
    replace H := Option.bind_eq_some_iff.mp H
    obtain ⟨t1073, A70, H⟩ := H
    replace H : (if t1073 = true then (if 0 ≤ a2 then (if a2 < (l1_1.length : Int) then ((impl_in.f a3 0 (wrap64 (((rd_L14 l1_1 a2).length : Int) - 1))).bind fun t1075 => (if t1075 = true then (if a2 < (l1_0.length : Int) then (if a2 < (l0.length : Int) then (some (wrap64 ((wrap64 ((rd l1_0 a2) + (((rd_T52 l0 a2).f2).length : Int))) + a3))) else (none)) else (none)) else (some (-1)))) else (none)) else (none)) else (some (-1))) = some r := H
    have A7 := Aside0.mk A70
    clear A70
    by_cases c8 : t1073 = true
    · subst c8
      have H1 : (if 0 ≤ a2 then (if a2 < (l1_1.length : Int) then ((impl_in.f a3 0 (wrap64 (((rd_L14 l1_1 a2).length : Int) - 1))).bind fun t1075 => (if t1075 = true then (if a2 < (l1_0.length : Int) then (if a2 < (l0.length : Int) then (some (wrap64 ((wrap64 ((rd l1_0 a2) + (((rd_T52 l0 a2).f2).length : Int))) + a3))) else (none)) else (none)) else (some (-1)))) else (none)) else (none)) = some r := by rw [if_pos rfl] at H; exact H
      clear H
      have H := H1
      clear H1
      by_cases c9 : 0 ≤ a2
      · rw [if_pos c9] at H
        have c9b0 : decide (0 ≤ a2) = true := decide_eq_true c9
        clear c9
        by_cases c10 : a2 < (l1_1.length : Int)
        · rw [if_pos c10] at H
          have c10b0 : decide (a2 < (l1_1.length : Int)) = true := decide_eq_true c10
          clear c10
          replace H := Option.bind_eq_some_iff.mp H
          obtain ⟨t1075, A110, H⟩ := H
          replace H : (if t1075 = true then (if a2 < (l1_0.length : Int) then (if a2 < (l0.length : Int) then (some (wrap64 ((wrap64 ((rd l1_0 a2) + (((rd_T52 l0 a2).f2).length : Int))) + a3))) else (none)) else (none)) else (some (-1))) = some r := H
          have A11 := Aside0.mk A110
          clear A110
          by_cases c12 : t1075 = true
          · subst c12
            have H1 : (if a2 < (l1_0.length : Int) then (if a2 < (l0.length : Int) then (some (wrap64 ((wrap64 ((rd l1_0 a2) + (((rd_T52 l0 a2).f2).length : Int))) + a3))) else (none)) else (none)) = some r := by rw [if_pos rfl] at H; exact H
            clear H
            have H := H1
            clear H1
            by_cases c13 : a2 < (l1_0.length : Int)
            · rw [if_pos c13] at H
              have c13b0 : decide (a2 < (l1_0.length : Int)) = true := decide_eq_true c13
              clear c13
              by_cases c14 : a2 < (l0.length : Int)
              · rw [if_pos c14] at H
                have c14b0 : decide (a2 < (l0.length : Int)) = true := decide_eq_true c14
                clear c14
                obtain rfl := Option.some.inj H
                go_enter Try.func55, Try.ntmps55
                go_wp2_with (first | ((with_reducible refine gate_dst (N := 5) rfl ?_); (try (refine gate_guard (by rfl) ?_; dsimp only)); refine box_event ?hg (N := 5) ?hd (cs := #[.slice A1_0 l1_0.length c1_0, .slice A1_1 l1_1.length c1_1]) (t := 80) ?hr ?_; (case hd => rfl); (case hg => rfl); (case hr => first | (go_simp; done) | (go_simp; rfl)); intro gb1071 hg w15 hbox hb; have n0_ := Aside0.mk (below_step (by repeat (first | (with_reducible first | exact HB.out | apply below_alloc | apply pw_below_drewN | apply below_drew1) | exact HB.out)) hb); have n1_ := Aside0.mk (hbox); have n2_ := Aside0.mk ((by rw [hg]; exact (below_size (by repeat (first | (with_reducible first | exact HB.out | apply below_alloc | apply pw_below_drewN | apply below_drew1) | exact HB.out))) : w.heap.size ≤ gb1071)); have n3_ := Aside0.mk ((by rw [hg]; exact (below_size (by repeat (first | (with_reducible first | exact HB.out | apply below_alloc | apply pw_below_drewN | apply below_drew1) | exact HB.out))) : w.heap.size ≤ gb1071)); clear HB; have HB := n0_; have BK1071 := n1_; have GW1071 := n2_; have GE1071 := n3_; clear n0_ n1_ n2_ n3_; clear hb hbox hg; have hcz16_0 : w15.cell? ⟨gb1071, 0, none⟩ = some (.slice A1_0 l1_0.length c1_0) := (blk_cell BK1071.out 0).trans rfl; have hcz16_1 : w15.cell? ⟨gb1071, 1, none⟩ = some (.slice A1_1 l1_1.length c1_1) := (blk_cell BK1071.out 1).trans rfl; have hfz16_0 := blk_frozen BK1071.out 0; have hfz16_1 := blk_frozen BK1071.out 1) | (go_at_call 113; (with_reducible refine (impl_laid.calls k _ _ l0 _ _ l1_0 _ _ l1_1 true _ ?side1 ?side2 ?side3 ?side4 ?side5 ?side6 A5.out).mono ?_); (case side1 => repeat (first | exact (Kd.C_below HR0.out HB.out) | (with_reducible refine Kd.C_alloc ?_ _) | (with_reducible refine Kd.C_drewN ?_ _) | (with_reducible refine Kd.C_drew ?_))); (case side2 => exact HC0.out); (case side3 => repeat (first | exact (Kd.C_below HR1_0.out HB.out) | (with_reducible refine Kd.C_alloc ?_ _) | (with_reducible refine Kd.C_drewN ?_ _) | (with_reducible refine Kd.C_drew ?_))); (case side4 => exact HC1_0.out); (case side5 => repeat (first | exact (Kd.C_below HR1_1.out HB.out) | (with_reducible refine Kd.C_alloc ?_ _) | (with_reducible refine Kd.C_drewN ?_ _) | (with_reducible refine Kd.C_drew ?_))); (case side6 => exact HC1_1.out); rintro e w17 ⟨rfl, hb⟩; have n0_ := Aside0.mk (blk_below (g := gb1071) (o := .cells #[.slice A1_0 l1_0.length c1_0, .slice A1_1 l1_1.length c1_1] 80 (0, 0)) (by (with_reducible repeat (first | refine blk_drewN ?_ _ | refine blk_drew ?_ | refine blk_alloc ?_ _)); exact BK1071.out) hb); have n1_ := Aside0.mk (below_step (by repeat (first | (with_reducible first | exact HB.out | apply below_alloc | apply pw_below_drewN | apply below_drew1 | refine below_set ?_ GE1071.out) | exact HB.out)) hb); clear BK1071; clear HB; have BK1071 := n0_; have HB := n1_; clear n0_ n1_; (try clear hb); (try clear hb2); (try clear hk); (try clear hi)) | (go_at_call 75; (with_reducible refine (impl_in.calls a2 0 (wrap64 ((l0.length : Int) - 1)) true _ A7.out).mono ?_); rintro e w' ⟨rfl, ⟨nd, rfl⟩⟩; (try first | exact ⟨rfl, _, World.drewN_drewN _ _ _⟩ | exact ⟨rfl, _, Eq.trans (World.drewN_drewN _ _ _) (congrArg (World.drewN _) (Nat.add_assoc _ _ _))⟩); have hcz18_0 : w17.cell? ⟨gb1071, 0, none⟩ = some (.slice A1_0 l1_0.length c1_0) := (blk_cell BK1071.out 0).trans rfl; have hcz18_1 : w17.cell? ⟨gb1071, 1, none⟩ = some (.slice A1_1 l1_1.length c1_1) := (blk_cell BK1071.out 1).trans rfl; have hfz18_0 := blk_frozen BK1071.out 0; have hfz18_1 := blk_frozen BK1071.out 1; have p1074 : 0 ≤ (a2 : Int) := of_decide_eq_true (by first | (with_reducible assumption) | assumption); have q1074 : a2 < (l1_1.length : Int) := of_decide_eq_true (by first | (with_reducible assumption) | assumption); obtain ⟨ad1074, A1074_0, c1074_0, e1074, hx1074_0, hl1074_0, hi1074_0⟩ := at_L14 HR1_1.out a2 p1074 q1074; cases e1074; replace hx1074_0 := (HB.out.cell (World.block_lt_of_cell? w _ hx1074_0)).trans hx1074_0; have HR1074_0 := Aside0.mk hi1074_0; have HC1074_0 := Aside0.mk hl1074_0; clear hi1074_0 hl1074_0; replace p1074 := eq_true p1074; replace q1074 := eq_true q1074) | (go_at_call 75; (with_reducible refine (impl_in.calls a3 0 (wrap64 (((rd_L14 l1_1 a2).length : Int) - 1)) true _ A11.out).mono ?_); rintro e w' ⟨rfl, ⟨nd, rfl⟩⟩; (try first | exact ⟨rfl, _, World.drewN_drewN _ _ _⟩ | exact ⟨rfl, _, Eq.trans (World.drewN_drewN _ _ _) (congrArg (World.drewN _) (Nat.add_assoc _ _ _))⟩); have p1076 : 0 ≤ (a2 : Int) := of_decide_eq_true (by first | (with_reducible assumption) | assumption); have q1076 : a2 < (l1_0.length : Int) := of_decide_eq_true (by first | (with_reducible assumption) | assumption); obtain ⟨ad1076, e1076, hx1076_0⟩ := Kd.at_int HR1_0.out a2 p1076 q1076; cases e1076; replace hx1076_0 := (HB.out.cell (World.block_lt_of_cell? w _ hx1076_0)).trans hx1076_0; replace p1076 := eq_true p1076; replace q1076 := eq_true q1076; have p1077 : 0 ≤ (a2 : Int) := of_decide_eq_true (by first | (with_reducible assumption) | assumption); have q1077 : a2 < (l0.length : Int) := of_decide_eq_true (by first | (with_reducible assumption) | assumption); obtain ⟨ad1077, A1077_2, c1077_2, e1077, hx1077_0, hx1077_1, hx1077_2, hl1077_2, hi1077_2⟩ := at_T52 HR0.out a2 p1077 q1077; cases e1077; replace hx1077_0 := (HB.out.cell (World.block_lt_of_cell? w _ hx1077_0)).trans hx1077_0; replace hx1077_1 := (HB.out.cell (World.block_lt_of_cell? w _ hx1077_1)).trans hx1077_1; replace hx1077_2 := (HB.out.cell (World.block_lt_of_cell? w _ hx1077_2)).trans hx1077_2; have HR1077_2 := Aside0.mk hi1077_2; have HC1077_2 := Aside0.mk hl1077_2; clear hi1077_2 hl1077_2; replace p1077 := eq_true p1077; replace q1077 := eq_true q1077))
                repeat (go_quiet (first | ((with_reducible refine gate_dst (N := 5) rfl ?_); (try (refine gate_guard (by rfl) ?_; dsimp only)); refine box_event ?hg (N := 5) ?hd (cs := #[.slice A1_0 l1_0.length c1_0, .slice A1_1 l1_1.length c1_1]) (t := 80) ?hr ?_; (case hd => rfl); (case hg => rfl); (case hr => first | (go_simp; done) | (go_simp; rfl)); intro gb1071 hg w15 hbox hb; have n0_ := Aside0.mk (below_step (by repeat (first | (with_reducible first | exact HB.out | apply below_alloc | apply pw_below_drewN | apply below_drew1) | exact HB.out)) hb); have n1_ := Aside0.mk (hbox); have n2_ := Aside0.mk ((by rw [hg]; exact (below_size (by repeat (first | (with_reducible first | exact HB.out | apply below_alloc | apply pw_below_drewN | apply below_drew1) | exact HB.out))) : w.heap.size ≤ gb1071)); have n3_ := Aside0.mk ((by rw [hg]; exact (below_size (by repeat (first | (with_reducible first | exact HB.out | apply below_alloc | apply pw_below_drewN | apply below_drew1) | exact HB.out))) : w.heap.size ≤ gb1071)); clear HB; have HB := n0_; have BK1071 := n1_; have GW1071 := n2_; have GE1071 := n3_; clear n0_ n1_ n2_ n3_; clear hb hbox hg; have hcz16_0 : w15.cell? ⟨gb1071, 0, none⟩ = some (.slice A1_0 l1_0.length c1_0) := (blk_cell BK1071.out 0).trans rfl; have hcz16_1 : w15.cell? ⟨gb1071, 1, none⟩ = some (.slice A1_1 l1_1.length c1_1) := (blk_cell BK1071.out 1).trans rfl; have hfz16_0 := blk_frozen BK1071.out 0; have hfz16_1 := blk_frozen BK1071.out 1) | (go_at_call 113; (with_reducible refine (impl_laid.calls k _ _ l0 _ _ l1_0 _ _ l1_1 true _ ?side1 ?side2 ?side3 ?side4 ?side5 ?side6 A5.out).mono ?_); (case side1 => repeat (first | exact (Kd.C_below HR0.out HB.out) | (with_reducible refine Kd.C_alloc ?_ _) | (with_reducible refine Kd.C_drewN ?_ _) | (with_reducible refine Kd.C_drew ?_))); (case side2 => exact HC0.out); (case side3 => repeat (first | exact (Kd.C_below HR1_0.out HB.out) | (with_reducible refine Kd.C_alloc ?_ _) | (with_reducible refine Kd.C_drewN ?_ _) | (with_reducible refine Kd.C_drew ?_))); (case side4 => exact HC1_0.out); (case side5 => repeat (first | exact (Kd.C_below HR1_1.out HB.out) | (with_reducible refine Kd.C_alloc ?_ _) | (with_reducible refine Kd.C_drewN ?_ _) | (with_reducible refine Kd.C_drew ?_))); (case side6 => exact HC1_1.out); rintro e w17 ⟨rfl, hb⟩; have n0_ := Aside0.mk (blk_below (g := gb1071) (o := .cells #[.slice A1_0 l1_0.length c1_0, .slice A1_1 l1_1.length c1_1] 80 (0, 0)) (by (with_reducible repeat (first | refine blk_drewN ?_ _ | refine blk_drew ?_ | refine blk_alloc ?_ _)); exact BK1071.out) hb); have n1_ := Aside0.mk (below_step (by repeat (first | (with_reducible first | exact HB.out | apply below_alloc | apply pw_below_drewN | apply below_drew1 | refine below_set ?_ GE1071.out) | exact HB.out)) hb); clear BK1071; clear HB; have BK1071 := n0_; have HB := n1_; clear n0_ n1_; (try clear hb); (try clear hb2); (try clear hk); (try clear hi)) | (go_at_call 75; (with_reducible refine (impl_in.calls a2 0 (wrap64 ((l0.length : Int) - 1)) true _ A7.out).mono ?_); rintro e w' ⟨rfl, ⟨nd, rfl⟩⟩; (try first | exact ⟨rfl, _, World.drewN_drewN _ _ _⟩ | exact ⟨rfl, _, Eq.trans (World.drewN_drewN _ _ _) (congrArg (World.drewN _) (Nat.add_assoc _ _ _))⟩); have hcz18_0 : w17.cell? ⟨gb1071, 0, none⟩ = some (.slice A1_0 l1_0.length c1_0) := (blk_cell BK1071.out 0).trans rfl; have hcz18_1 : w17.cell? ⟨gb1071, 1, none⟩ = some (.slice A1_1 l1_1.length c1_1) := (blk_cell BK1071.out 1).trans rfl; have hfz18_0 := blk_frozen BK1071.out 0; have hfz18_1 := blk_frozen BK1071.out 1; have p1074 : 0 ≤ (a2 : Int) := of_decide_eq_true (by first | (with_reducible assumption) | assumption); have q1074 : a2 < (l1_1.length : Int) := of_decide_eq_true (by first | (with_reducible assumption) | assumption); obtain ⟨ad1074, A1074_0, c1074_0, e1074, hx1074_0, hl1074_0, hi1074_0⟩ := at_L14 HR1_1.out a2 p1074 q1074; cases e1074; replace hx1074_0 := (HB.out.cell (World.block_lt_of_cell? w _ hx1074_0)).trans hx1074_0; have HR1074_0 := Aside0.mk hi1074_0; have HC1074_0 := Aside0.mk hl1074_0; clear hi1074_0 hl1074_0; replace p1074 := eq_true p1074; replace q1074 := eq_true q1074) | (go_at_call 75; (with_reducible refine (impl_in.calls a3 0 (wrap64 (((rd_L14 l1_1 a2).length : Int) - 1)) true _ A11.out).mono ?_); rintro e w' ⟨rfl, ⟨nd, rfl⟩⟩; (try first | exact ⟨rfl, _, World.drewN_drewN _ _ _⟩ | exact ⟨rfl, _, Eq.trans (World.drewN_drewN _ _ _) (congrArg (World.drewN _) (Nat.add_assoc _ _ _))⟩); have p1076 : 0 ≤ (a2 : Int) := of_decide_eq_true (by first | (with_reducible assumption) | assumption); have q1076 : a2 < (l1_0.length : Int) := of_decide_eq_true (by first | (with_reducible assumption) | assumption); obtain ⟨ad1076, e1076, hx1076_0⟩ := Kd.at_int HR1_0.out a2 p1076 q1076; cases e1076; replace hx1076_0 := (HB.out.cell (World.block_lt_of_cell? w _ hx1076_0)).trans hx1076_0; replace p1076 := eq_true p1076; replace q1076 := eq_true q1076; have p1077 : 0 ≤ (a2 : Int) := of_decide_eq_true (by first | (with_reducible assumption) | assumption); have q1077 : a2 < (l0.length : Int) := of_decide_eq_true (by first | (with_reducible assumption) | assumption); obtain ⟨ad1077, A1077_2, c1077_2, e1077, hx1077_0, hx1077_1, hx1077_2, hl1077_2, hi1077_2⟩ := at_T52 HR0.out a2 p1077 q1077; cases e1077; replace hx1077_0 := (HB.out.cell (World.block_lt_of_cell? w _ hx1077_0)).trans hx1077_0; replace hx1077_1 := (HB.out.cell (World.block_lt_of_cell? w _ hx1077_1)).trans hx1077_1; replace hx1077_2 := (HB.out.cell (World.block_lt_of_cell? w _ hx1077_2)).trans hx1077_2; have HR1077_2 := Aside0.mk hi1077_2; have HC1077_2 := Aside0.mk hl1077_2; clear hi1077_2 hl1077_2; replace p1077 := eq_true p1077; replace q1077 := eq_true q1077)); try go_wp2_with (first | ((with_reducible refine gate_dst (N := 5) rfl ?_); (try (refine gate_guard (by rfl) ?_; dsimp only)); refine box_event ?hg (N := 5) ?hd (cs := #[.slice A1_0 l1_0.length c1_0, .slice A1_1 l1_1.length c1_1]) (t := 80) ?hr ?_; (case hd => rfl); (case hg => rfl); (case hr => first | (go_simp; done) | (go_simp; rfl)); intro gb1071 hg w15 hbox hb; have n0_ := Aside0.mk (below_step (by repeat (first | (with_reducible first | exact HB.out | apply below_alloc | apply pw_below_drewN | apply below_drew1) | exact HB.out)) hb); have n1_ := Aside0.mk (hbox); have n2_ := Aside0.mk ((by rw [hg]; exact (below_size (by repeat (first | (with_reducible first | exact HB.out | apply below_alloc | apply pw_below_drewN | apply below_drew1) | exact HB.out))) : w.heap.size ≤ gb1071)); have n3_ := Aside0.mk ((by rw [hg]; exact (below_size (by repeat (first | (with_reducible first | exact HB.out | apply below_alloc | apply pw_below_drewN | apply below_drew1) | exact HB.out))) : w.heap.size ≤ gb1071)); clear HB; have HB := n0_; have BK1071 := n1_; have GW1071 := n2_; have GE1071 := n3_; clear n0_ n1_ n2_ n3_; clear hb hbox hg; have hcz16_0 : w15.cell? ⟨gb1071, 0, none⟩ = some (.slice A1_0 l1_0.length c1_0) := (blk_cell BK1071.out 0).trans rfl; have hcz16_1 : w15.cell? ⟨gb1071, 1, none⟩ = some (.slice A1_1 l1_1.length c1_1) := (blk_cell BK1071.out 1).trans rfl; have hfz16_0 := blk_frozen BK1071.out 0; have hfz16_1 := blk_frozen BK1071.out 1) | (go_at_call 113; (with_reducible refine (impl_laid.calls k _ _ l0 _ _ l1_0 _ _ l1_1 true _ ?side1 ?side2 ?side3 ?side4 ?side5 ?side6 A5.out).mono ?_); (case side1 => repeat (first | exact (Kd.C_below HR0.out HB.out) | (with_reducible refine Kd.C_alloc ?_ _) | (with_reducible refine Kd.C_drewN ?_ _) | (with_reducible refine Kd.C_drew ?_))); (case side2 => exact HC0.out); (case side3 => repeat (first | exact (Kd.C_below HR1_0.out HB.out) | (with_reducible refine Kd.C_alloc ?_ _) | (with_reducible refine Kd.C_drewN ?_ _) | (with_reducible refine Kd.C_drew ?_))); (case side4 => exact HC1_0.out); (case side5 => repeat (first | exact (Kd.C_below HR1_1.out HB.out) | (with_reducible refine Kd.C_alloc ?_ _) | (with_reducible refine Kd.C_drewN ?_ _) | (with_reducible refine Kd.C_drew ?_))); (case side6 => exact HC1_1.out); rintro e w17 ⟨rfl, hb⟩; have n0_ := Aside0.mk (blk_below (g := gb1071) (o := .cells #[.slice A1_0 l1_0.length c1_0, .slice A1_1 l1_1.length c1_1] 80 (0, 0)) (by (with_reducible repeat (first | refine blk_drewN ?_ _ | refine blk_drew ?_ | refine blk_alloc ?_ _)); exact BK1071.out) hb); have n1_ := Aside0.mk (below_step (by repeat (first | (with_reducible first | exact HB.out | apply below_alloc | apply pw_below_drewN | apply below_drew1 | refine below_set ?_ GE1071.out) | exact HB.out)) hb); clear BK1071; clear HB; have BK1071 := n0_; have HB := n1_; clear n0_ n1_; (try clear hb); (try clear hb2); (try clear hk); (try clear hi)) | (go_at_call 75; (with_reducible refine (impl_in.calls a2 0 (wrap64 ((l0.length : Int) - 1)) true _ A7.out).mono ?_); rintro e w' ⟨rfl, ⟨nd, rfl⟩⟩; (try first | exact ⟨rfl, _, World.drewN_drewN _ _ _⟩ | exact ⟨rfl, _, Eq.trans (World.drewN_drewN _ _ _) (congrArg (World.drewN _) (Nat.add_assoc _ _ _))⟩); have hcz18_0 : w17.cell? ⟨gb1071, 0, none⟩ = some (.slice A1_0 l1_0.length c1_0) := (blk_cell BK1071.out 0).trans rfl; have hcz18_1 : w17.cell? ⟨gb1071, 1, none⟩ = some (.slice A1_1 l1_1.length c1_1) := (blk_cell BK1071.out 1).trans rfl; have hfz18_0 := blk_frozen BK1071.out 0; have hfz18_1 := blk_frozen BK1071.out 1; have p1074 : 0 ≤ (a2 : Int) := of_decide_eq_true (by first | (with_reducible assumption) | assumption); have q1074 : a2 < (l1_1.length : Int) := of_decide_eq_true (by first | (with_reducible assumption) | assumption); obtain ⟨ad1074, A1074_0, c1074_0, e1074, hx1074_0, hl1074_0, hi1074_0⟩ := at_L14 HR1_1.out a2 p1074 q1074; cases e1074; replace hx1074_0 := (HB.out.cell (World.block_lt_of_cell? w _ hx1074_0)).trans hx1074_0; have HR1074_0 := Aside0.mk hi1074_0; have HC1074_0 := Aside0.mk hl1074_0; clear hi1074_0 hl1074_0; replace p1074 := eq_true p1074; replace q1074 := eq_true q1074) | (go_at_call 75; (with_reducible refine (impl_in.calls a3 0 (wrap64 (((rd_L14 l1_1 a2).length : Int) - 1)) true _ A11.out).mono ?_); rintro e w' ⟨rfl, ⟨nd, rfl⟩⟩; (try first | exact ⟨rfl, _, World.drewN_drewN _ _ _⟩ | exact ⟨rfl, _, Eq.trans (World.drewN_drewN _ _ _) (congrArg (World.drewN _) (Nat.add_assoc _ _ _))⟩); have p1076 : 0 ≤ (a2 : Int) := of_decide_eq_true (by first | (with_reducible assumption) | assumption); have q1076 : a2 < (l1_0.length : Int) := of_decide_eq_true (by first | (with_reducible assumption) | assumption); obtain ⟨ad1076, e1076, hx1076_0⟩ := Kd.at_int HR1_0.out a2 p1076 q1076; cases e1076; replace hx1076_0 := (HB.out.cell (World.block_lt_of_cell? w _ hx1076_0)).trans hx1076_0; replace p1076 := eq_true p1076; replace q1076 := eq_true q1076; have p1077 : 0 ≤ (a2 : Int) := of_decide_eq_true (by first | (with_reducible assumption) | assumption); have q1077 : a2 < (l0.length : Int) := of_decide_eq_true (by first | (with_reducible assumption) | assumption); obtain ⟨ad1077, A1077_2, c1077_2, e1077, hx1077_0, hx1077_1, hx1077_2, hl1077_2, hi1077_2⟩ := at_T52 HR0.out a2 p1077 q1077; cases e1077; replace hx1077_0 := (HB.out.cell (World.block_lt_of_cell? w _ hx1077_0)).trans hx1077_0; replace hx1077_1 := (HB.out.cell (World.block_lt_of_cell? w _ hx1077_1)).trans hx1077_1; replace hx1077_2 := (HB.out.cell (World.block_lt_of_cell? w _ hx1077_2)).trans hx1077_2; have HR1077_2 := Aside0.mk hi1077_2; have HC1077_2 := Aside0.mk hl1077_2; clear hi1077_2 hl1077_2; replace p1077 := eq_true p1077; replace q1077 := eq_true q1077)))
                go_ret
                exact ⟨by first | rfl | (simp [errW_none, errW_some] <;> rfl) | (simp [*, errW_none, errW_some] <;> rfl), by repeat (first | (with_reducible first | exact HB.out | apply below_alloc | apply pw_below_drewN | apply below_drew1 | refine below_set ?_ GE1071.out) | exact HB.out)⟩
              · rw [if_neg c14] at H
                exact absurd H (by simp)
            · rw [if_neg c13] at H
              exact absurd H (by simp)
          · replace c12 := Bool.eq_false_iff.mpr c12
            subst c12
            have H1 : (some (-1)) = some r := by rw [if_neg (show ¬ (false = true) by decide)] at H; exact H
            clear H
            have H := H1
            clear H1
            obtain rfl := Option.some.inj H
            go_enter Try.func55, Try.ntmps55
            go_wp2_with (first | ((with_reducible refine gate_dst (N := 5) rfl ?_); (try (refine gate_guard (by rfl) ?_; dsimp only)); refine box_event ?hg (N := 5) ?hd (cs := #[.slice A1_0 l1_0.length c1_0, .slice A1_1 l1_1.length c1_1]) (t := 80) ?hr ?_; (case hd => rfl); (case hg => rfl); (case hr => first | (go_simp; done) | (go_simp; rfl)); intro gb1071 hg w19 hbox hb; have n0_ := Aside0.mk (below_step (by repeat (first | (with_reducible first | exact HB.out | apply below_alloc | apply pw_below_drewN | apply below_drew1) | exact HB.out)) hb); have n1_ := Aside0.mk (hbox); have n2_ := Aside0.mk ((by rw [hg]; exact (below_size (by repeat (first | (with_reducible first | exact HB.out | apply below_alloc | apply pw_below_drewN | apply below_drew1) | exact HB.out))) : w.heap.size ≤ gb1071)); have n3_ := Aside0.mk ((by rw [hg]; exact (below_size (by repeat (first | (with_reducible first | exact HB.out | apply below_alloc | apply pw_below_drewN | apply below_drew1) | exact HB.out))) : w.heap.size ≤ gb1071)); clear HB; have HB := n0_; have BK1071 := n1_; have GW1071 := n2_; have GE1071 := n3_; clear n0_ n1_ n2_ n3_; clear hb hbox hg; have hcz20_0 : w19.cell? ⟨gb1071, 0, none⟩ = some (.slice A1_0 l1_0.length c1_0) := (blk_cell BK1071.out 0).trans rfl; have hcz20_1 : w19.cell? ⟨gb1071, 1, none⟩ = some (.slice A1_1 l1_1.length c1_1) := (blk_cell BK1071.out 1).trans rfl; have hfz20_0 := blk_frozen BK1071.out 0; have hfz20_1 := blk_frozen BK1071.out 1) | (go_at_call 113; (with_reducible refine (impl_laid.calls k _ _ l0 _ _ l1_0 _ _ l1_1 true _ ?side1 ?side2 ?side3 ?side4 ?side5 ?side6 A5.out).mono ?_); (case side1 => repeat (first | exact (Kd.C_below HR0.out HB.out) | (with_reducible refine Kd.C_alloc ?_ _) | (with_reducible refine Kd.C_drewN ?_ _) | (with_reducible refine Kd.C_drew ?_))); (case side2 => exact HC0.out); (case side3 => repeat (first | exact (Kd.C_below HR1_0.out HB.out) | (with_reducible refine Kd.C_alloc ?_ _) | (with_reducible refine Kd.C_drewN ?_ _) | (with_reducible refine Kd.C_drew ?_))); (case side4 => exact HC1_0.out); (case side5 => repeat (first | exact (Kd.C_below HR1_1.out HB.out) | (with_reducible refine Kd.C_alloc ?_ _) | (with_reducible refine Kd.C_drewN ?_ _) | (with_reducible refine Kd.C_drew ?_))); (case side6 => exact HC1_1.out); rintro e w21 ⟨rfl, hb⟩; have n0_ := Aside0.mk (blk_below (g := gb1071) (o := .cells #[.slice A1_0 l1_0.length c1_0, .slice A1_1 l1_1.length c1_1] 80 (0, 0)) (by (with_reducible repeat (first | refine blk_drewN ?_ _ | refine blk_drew ?_ | refine blk_alloc ?_ _)); exact BK1071.out) hb); have n1_ := Aside0.mk (below_step (by repeat (first | (with_reducible first | exact HB.out | apply below_alloc | apply pw_below_drewN | apply below_drew1 | refine below_set ?_ GE1071.out) | exact HB.out)) hb); clear BK1071; clear HB; have BK1071 := n0_; have HB := n1_; clear n0_ n1_; (try clear hb); (try clear hb2); (try clear hk); (try clear hi)) | (go_at_call 75; (with_reducible refine (impl_in.calls a2 0 (wrap64 ((l0.length : Int) - 1)) true _ A7.out).mono ?_); rintro e w' ⟨rfl, ⟨nd, rfl⟩⟩; (try first | exact ⟨rfl, _, World.drewN_drewN _ _ _⟩ | exact ⟨rfl, _, Eq.trans (World.drewN_drewN _ _ _) (congrArg (World.drewN _) (Nat.add_assoc _ _ _))⟩); have hcz22_0 : w21.cell? ⟨gb1071, 0, none⟩ = some (.slice A1_0 l1_0.length c1_0) := (blk_cell BK1071.out 0).trans rfl; have hcz22_1 : w21.cell? ⟨gb1071, 1, none⟩ = some (.slice A1_1 l1_1.length c1_1) := (blk_cell BK1071.out 1).trans rfl; have hfz22_0 := blk_frozen BK1071.out 0; have hfz22_1 := blk_frozen BK1071.out 1; have p1074 : 0 ≤ (a2 : Int) := of_decide_eq_true (by first | (with_reducible assumption) | assumption); have q1074 : a2 < (l1_1.length : Int) := of_decide_eq_true (by first | (with_reducible assumption) | assumption); obtain ⟨ad1074, A1074_0, c1074_0, e1074, hx1074_0, hl1074_0, hi1074_0⟩ := at_L14 HR1_1.out a2 p1074 q1074; cases e1074; replace hx1074_0 := (HB.out.cell (World.block_lt_of_cell? w _ hx1074_0)).trans hx1074_0; have HR1074_0 := Aside0.mk hi1074_0; have HC1074_0 := Aside0.mk hl1074_0; clear hi1074_0 hl1074_0; replace p1074 := eq_true p1074; replace q1074 := eq_true q1074) | (go_at_call 75; (with_reducible refine (impl_in.calls a3 0 (wrap64 (((rd_L14 l1_1 a2).length : Int) - 1)) false _ A11.out).mono ?_); rintro e w' ⟨rfl, ⟨nd, rfl⟩⟩; (try first | exact ⟨rfl, _, World.drewN_drewN _ _ _⟩ | exact ⟨rfl, _, Eq.trans (World.drewN_drewN _ _ _) (congrArg (World.drewN _) (Nat.add_assoc _ _ _))⟩)))
            skip
            go_ret
            exact ⟨by first | rfl | (simp [errW_none, errW_some] <;> rfl) | (simp [*, errW_none, errW_some] <;> rfl), by repeat (first | (with_reducible first | exact HB.out | apply below_alloc | apply pw_below_drewN | apply below_drew1 | refine below_set ?_ GE1071.out) | exact HB.out)⟩
        · rw [if_neg c10] at H
          exact absurd H (by simp)
      · rw [if_neg c9] at H
        exact absurd H (by simp)
    · replace c8 := Bool.eq_false_iff.mpr c8
      subst c8
      have H1 : (some (-1)) = some r := by rw [if_neg (show ¬ (false = true) by decide)] at H; exact H
      clear H
      have H := H1
      clear H1
      obtain rfl := Option.some.inj H
      go_enter Try.func55, Try.ntmps55
      go_wp2_with (first | ((with_reducible refine gate_dst (N := 5) rfl ?_); (try (refine gate_guard (by rfl) ?_; dsimp only)); refine box_event ?hg (N := 5) ?hd (cs := #[.slice A1_0 l1_0.length c1_0, .slice A1_1 l1_1.length c1_1]) (t := 80) ?hr ?_; (case hd => rfl); (case hg => rfl); (case hr => first | (go_simp; done) | (go_simp; rfl)); intro gb1071 hg w23 hbox hb; have n0_ := Aside0.mk (below_step (by repeat (first | (with_reducible first | exact HB.out | apply below_alloc | apply pw_below_drewN | apply below_drew1) | exact HB.out)) hb); have n1_ := Aside0.mk (hbox); have n2_ := Aside0.mk ((by rw [hg]; exact (below_size (by repeat (first | (with_reducible first | exact HB.out | apply below_alloc | apply pw_below_drewN | apply below_drew1) | exact HB.out))) : w.heap.size ≤ gb1071)); have n3_ := Aside0.mk ((by rw [hg]; exact (below_size (by repeat (first | (with_reducible first | exact HB.out | apply below_alloc | apply pw_below_drewN | apply below_drew1) | exact HB.out))) : w.heap.size ≤ gb1071)); clear HB; have HB := n0_; have BK1071 := n1_; have GW1071 := n2_; have GE1071 := n3_; clear n0_ n1_ n2_ n3_; clear hb hbox hg; have hcz24_0 : w23.cell? ⟨gb1071, 0, none⟩ = some (.slice A1_0 l1_0.length c1_0) := (blk_cell BK1071.out 0).trans rfl; have hcz24_1 : w23.cell? ⟨gb1071, 1, none⟩ = some (.slice A1_1 l1_1.length c1_1) := (blk_cell BK1071.out 1).trans rfl; have hfz24_0 := blk_frozen BK1071.out 0; have hfz24_1 := blk_frozen BK1071.out 1) | (go_at_call 113; (with_reducible refine (impl_laid.calls k _ _ l0 _ _ l1_0 _ _ l1_1 true _ ?side1 ?side2 ?side3 ?side4 ?side5 ?side6 A5.out).mono ?_); (case side1 => repeat (first | exact (Kd.C_below HR0.out HB.out) | (with_reducible refine Kd.C_alloc ?_ _) | (with_reducible refine Kd.C_drewN ?_ _) | (with_reducible refine Kd.C_drew ?_))); (case side2 => exact HC0.out); (case side3 => repeat (first | exact (Kd.C_below HR1_0.out HB.out) | (with_reducible refine Kd.C_alloc ?_ _) | (with_reducible refine Kd.C_drewN ?_ _) | (with_reducible refine Kd.C_drew ?_))); (case side4 => exact HC1_0.out); (case side5 => repeat (first | exact (Kd.C_below HR1_1.out HB.out) | (with_reducible refine Kd.C_alloc ?_ _) | (with_reducible refine Kd.C_drewN ?_ _) | (with_reducible refine Kd.C_drew ?_))); (case side6 => exact HC1_1.out); rintro e w25 ⟨rfl, hb⟩; have n0_ := Aside0.mk (blk_below (g := gb1071) (o := .cells #[.slice A1_0 l1_0.length c1_0, .slice A1_1 l1_1.length c1_1] 80 (0, 0)) (by (with_reducible repeat (first | refine blk_drewN ?_ _ | refine blk_drew ?_ | refine blk_alloc ?_ _)); exact BK1071.out) hb); have n1_ := Aside0.mk (below_step (by repeat (first | (with_reducible first | exact HB.out | apply below_alloc | apply pw_below_drewN | apply below_drew1 | refine below_set ?_ GE1071.out) | exact HB.out)) hb); clear BK1071; clear HB; have BK1071 := n0_; have HB := n1_; clear n0_ n1_; (try clear hb); (try clear hb2); (try clear hk); (try clear hi)) | (go_at_call 75; (with_reducible refine (impl_in.calls a2 0 (wrap64 ((l0.length : Int) - 1)) false _ A7.out).mono ?_); rintro e w' ⟨rfl, ⟨nd, rfl⟩⟩; (try first | exact ⟨rfl, _, World.drewN_drewN _ _ _⟩ | exact ⟨rfl, _, Eq.trans (World.drewN_drewN _ _ _) (congrArg (World.drewN _) (Nat.add_assoc _ _ _))⟩)))
      skip
      go_ret
      exact ⟨by first | rfl | (simp [errW_none, errW_some] <;> rfl) | (simp [*, errW_none, errW_some] <;> rfl), by repeat (first | (with_reducible first | exact HB.out | apply below_alloc | apply pw_below_drewN | apply below_drew1 | refine below_set ?_ GE1071.out) | exact HB.out)⟩
  · replace c6 := Bool.eq_false_iff.mpr c6
    subst c6
    have H1 : (some (-1)) = some r := by rw [if_neg (show ¬ (false = true) by decide)] at H; exact H
    clear H
    have H := H1
    clear H1
    obtain rfl := Option.some.inj H
    go_enter Try.func55, Try.ntmps55
    go_wp2_with (first | ((with_reducible refine gate_dst (N := 5) rfl ?_); (try (refine gate_guard (by rfl) ?_; dsimp only)); refine box_event ?hg (N := 5) ?hd (cs := #[.slice A1_0 l1_0.length c1_0, .slice A1_1 l1_1.length c1_1]) (t := 80) ?hr ?_; (case hd => rfl); (case hg => rfl); (case hr => first | (go_simp; done) | (go_simp; rfl)); intro gb1071 hg w26 hbox hb; have n0_ := Aside0.mk (below_step (by repeat (first | (with_reducible first | exact HB.out | apply below_alloc | apply pw_below_drewN | apply below_drew1) | exact HB.out)) hb); have n1_ := Aside0.mk (hbox); have n2_ := Aside0.mk ((by rw [hg]; exact (below_size (by repeat (first | (with_reducible first | exact HB.out | apply below_alloc | apply pw_below_drewN | apply below_drew1) | exact HB.out))) : w.heap.size ≤ gb1071)); have n3_ := Aside0.mk ((by rw [hg]; exact (below_size (by repeat (first | (with_reducible first | exact HB.out | apply below_alloc | apply pw_below_drewN | apply below_drew1) | exact HB.out))) : w.heap.size ≤ gb1071)); clear HB; have HB := n0_; have BK1071 := n1_; have GW1071 := n2_; have GE1071 := n3_; clear n0_ n1_ n2_ n3_; clear hb hbox hg; have hcz27_0 : w26.cell? ⟨gb1071, 0, none⟩ = some (.slice A1_0 l1_0.length c1_0) := (blk_cell BK1071.out 0).trans rfl; have hcz27_1 : w26.cell? ⟨gb1071, 1, none⟩ = some (.slice A1_1 l1_1.length c1_1) := (blk_cell BK1071.out 1).trans rfl; have hfz27_0 := blk_frozen BK1071.out 0; have hfz27_1 := blk_frozen BK1071.out 1) | (go_at_call 113; (with_reducible refine (impl_laid.calls k _ _ l0 _ _ l1_0 _ _ l1_1 false _ ?side1 ?side2 ?side3 ?side4 ?side5 ?side6 A5.out).mono ?_); (case side1 => repeat (first | exact (Kd.C_below HR0.out HB.out) | (with_reducible refine Kd.C_alloc ?_ _) | (with_reducible refine Kd.C_drewN ?_ _) | (with_reducible refine Kd.C_drew ?_))); (case side2 => exact HC0.out); (case side3 => repeat (first | exact (Kd.C_below HR1_0.out HB.out) | (with_reducible refine Kd.C_alloc ?_ _) | (with_reducible refine Kd.C_drewN ?_ _) | (with_reducible refine Kd.C_drew ?_))); (case side4 => exact HC1_0.out); (case side5 => repeat (first | exact (Kd.C_below HR1_1.out HB.out) | (with_reducible refine Kd.C_alloc ?_ _) | (with_reducible refine Kd.C_drewN ?_ _) | (with_reducible refine Kd.C_drew ?_))); (case side6 => exact HC1_1.out); rintro e w28 ⟨rfl, hb⟩; have n0_ := Aside0.mk (blk_below (g := gb1071) (o := .cells #[.slice A1_0 l1_0.length c1_0, .slice A1_1 l1_1.length c1_1] 80 (0, 0)) (by (with_reducible repeat (first | refine blk_drewN ?_ _ | refine blk_drew ?_ | refine blk_alloc ?_ _)); exact BK1071.out) hb); have n1_ := Aside0.mk (below_step (by repeat (first | (with_reducible first | exact HB.out | apply below_alloc | apply pw_below_drewN | apply below_drew1 | refine below_set ?_ GE1071.out) | exact HB.out)) hb); clear BK1071; clear HB; have BK1071 := n0_; have HB := n1_; clear n0_ n1_; (try clear hb); (try clear hb2); (try clear hk); (try clear hi)))
    skip
    go_ret
    exact ⟨by first | rfl | (simp [errW_none, errW_some] <;> rfl) | (simp [*, errW_none, errW_some] <;> rfl), by repeat (first | (with_reducible first | exact HB.out | apply below_alloc | apply pw_below_drewN | apply below_drew1 | refine below_set ?_ GE1071.out) | exact HB.out)⟩

end Go.Proofs.Ytppmalfpggkpdaa.P
