-- PxspecKeepOk, Pxspecl7Form: put together by squash.py
import Derived.Test.YtppmalfpggkpdaaSqFnExactLayStone3
import Derived.Test.YtppmalfpggkpdaaSqFnExactLayStone6

-- made by printx.py (own driver over the kit's print); Lean checks it
namespace Go.Proofs.Ytppmalfpggkpdaa.P
open Go.RowKit Go.Proofs.YtppmalfpggkpdaaW.PrintWords Go.Proofs.YtppmalfpggkpdaaW.PrintLast Go.Proofs.YtppmalfpggkpdaaW.PrintMore
attribute [local go_sem] max2_int min2_int max_two min_two max_three min_three max_four min_four   -- for this text's walks alone
set_option linter.unusedVariables false
set_option linter.unusedSimpArgs false

/-! ### spec_KeepOk: function 30 -/
mutual
def spec_KeepOk.j0 : Nat → List (S52) → Bool → Option (Bool)
  | 0, _, _ => none
  | k + 1, x0, x14 => if x14 = true then (some false) else (spec_KeepOk.l0 k x0 0)
def spec_KeepOk.l0 : Nat → List (S52) → Int → Option (Bool)
  | 0, _, _ => none
  | k + 1, x0, x3 => if x3 < (x0.length : Int) then (if 0 ≤ x3 then ((spec_FunOk.f k ((rd_T52 x0 x3).f0) ((rd_T52 x0 x3).f1) ((rd_T52 x0 x3).f2)).bind fun t693 => (if t693 = true then ((spec_l2Find.f k x0 ((rd_T52 x0 x3).f0)).bind fun t695 => (if t695 = x3 then (spec_KeepOk.l0 k x0 (wrap64 (x3 + 1))) else (some false))) else (some false))) else (none)) else (spec_KeepOk.l1 k x0 0)
def spec_KeepOk.l1 : Nat → List (S52) → Int → Option (Bool)
  | 0, _, _ => none
  | k + 1, x0, x4 => if x4 < (x0.length : Int) then (if 0 ≤ x4 then ((spec_l2Refs.f k ((rd_T52 x0 x4).f2)).bind fun t697 => (spec_KeepOk.l2 k x0 x4 t697 0)) else (none)) else (some true)
def spec_KeepOk.l2 : Nat → List (S52) → Int → List ByteArray → Int → Option (Bool)
  | 0, _, _, _, _ => none
  | k + 1, x0, x4, x5, x6 => if x6 < (x5.length : Int) then (if 0 ≤ x6 then ((spec_l2Find.f k x0 (rdOf ByteArray.empty x5 x6)).bind fun t701 => (if t701 < 0 then (some false) else (spec_KeepOk.l2 k x0 x4 x5 (wrap64 (x6 + 1))))) else (none)) else (spec_KeepOk.l1 k x0 (wrap64 (x4 + 1)))
end
def spec_KeepOk.f (k : Nat) (l0 : List (S52)) : Option (Bool) := if (l0.length : Int) < 1 then (spec_KeepOk.j0 k l0 true) else (spec_KeepOk.j0 k l0 (decide ((l0.length : Int) > 40)))
theorem spec_KeepOk.mono_l : ∀ k, (∀ y0 y1, LeO (spec_KeepOk.j0 k y0 y1) (spec_KeepOk.j0 (k + 1) y0 y1)) ∧ (∀ y0 y1, LeO (spec_KeepOk.l0 k y0 y1) (spec_KeepOk.l0 (k + 1) y0 y1)) ∧ (∀ y0 y1, LeO (spec_KeepOk.l1 k y0 y1) (spec_KeepOk.l1 (k + 1) y0 y1)) ∧ (∀ y0 y1 y2 y3, LeO (spec_KeepOk.l2 k y0 y1 y2 y3) (spec_KeepOk.l2 (k + 1) y0 y1 y2 y3))
  | 0 => ⟨fun _ _ r h => by simp [spec_KeepOk.j0] at h, fun _ _ r h => by simp [spec_KeepOk.l0] at h, fun _ _ r h => by simp [spec_KeepOk.l1] at h, fun _ _ _ _ r h => by simp [spec_KeepOk.l2] at h⟩
  | k + 1 => by
    obtain ⟨ih0, ih1, ih2, ih3⟩ := spec_KeepOk.mono_l k
    refine ⟨?_, ?_, ?_, ?_⟩
    · intro y0 y1
      unfold spec_KeepOk.j0
      repeat' first
      | (with_reducible exact ih0 _ _)
      | (with_reducible exact ih1 _ _)
      | (with_reducible exact ih2 _ _)
      | (with_reducible exact ih3 _ _ _ _)
      | (with_reducible exact spec_FunOk.mono _ _ _ _)
      | (with_reducible exact spec_l2Find.mono _ _ _)
      | (with_reducible exact spec_l2Refs.mono _ _)
      | (with_reducible exact LeO.refl _)
      | (with_reducible exact LeO.none _)
      | (with_reducible refine LeO.ite ?_ ?_)
      | (with_reducible refine LeO.bind ?_ (fun _ => ?_))
      | exact ih0 _ _
      | exact ih1 _ _
      | exact ih2 _ _
      | exact ih3 _ _ _ _
      | exact spec_FunOk.mono _ _ _ _
      | exact spec_l2Find.mono _ _ _
      | exact spec_l2Refs.mono _ _
      | exact LeO.none _
      | refine LeO.ite ?_ ?_
      | refine LeO.bind ?_ (fun _ => ?_)
    · intro y0 y1
      unfold spec_KeepOk.l0
      repeat' first
      | (with_reducible exact ih0 _ _)
      | (with_reducible exact ih1 _ _)
      | (with_reducible exact ih2 _ _)
      | (with_reducible exact ih3 _ _ _ _)
      | (with_reducible exact spec_FunOk.mono _ _ _ _)
      | (with_reducible exact spec_l2Find.mono _ _ _)
      | (with_reducible exact spec_l2Refs.mono _ _)
      | (with_reducible exact LeO.refl _)
      | (with_reducible exact LeO.none _)
      | (with_reducible refine LeO.ite ?_ ?_)
      | (with_reducible refine LeO.bind ?_ (fun _ => ?_))
      | exact ih0 _ _
      | exact ih1 _ _
      | exact ih2 _ _
      | exact ih3 _ _ _ _
      | exact spec_FunOk.mono _ _ _ _
      | exact spec_l2Find.mono _ _ _
      | exact spec_l2Refs.mono _ _
      | exact LeO.none _
      | refine LeO.ite ?_ ?_
      | refine LeO.bind ?_ (fun _ => ?_)
    · intro y0 y1
      unfold spec_KeepOk.l1
      repeat' first
      | (with_reducible exact ih0 _ _)
      | (with_reducible exact ih1 _ _)
      | (with_reducible exact ih2 _ _)
      | (with_reducible exact ih3 _ _ _ _)
      | (with_reducible exact spec_FunOk.mono _ _ _ _)
      | (with_reducible exact spec_l2Find.mono _ _ _)
      | (with_reducible exact spec_l2Refs.mono _ _)
      | (with_reducible exact LeO.refl _)
      | (with_reducible exact LeO.none _)
      | (with_reducible refine LeO.ite ?_ ?_)
      | (with_reducible refine LeO.bind ?_ (fun _ => ?_))
      | exact ih0 _ _
      | exact ih1 _ _
      | exact ih2 _ _
      | exact ih3 _ _ _ _
      | exact spec_FunOk.mono _ _ _ _
      | exact spec_l2Find.mono _ _ _
      | exact spec_l2Refs.mono _ _
      | exact LeO.none _
      | refine LeO.ite ?_ ?_
      | refine LeO.bind ?_ (fun _ => ?_)
    · intro y0 y1 y2 y3
      unfold spec_KeepOk.l2
      repeat' first
      | (with_reducible exact ih0 _ _)
      | (with_reducible exact ih1 _ _)
      | (with_reducible exact ih2 _ _)
      | (with_reducible exact ih3 _ _ _ _)
      | (with_reducible exact spec_FunOk.mono _ _ _ _)
      | (with_reducible exact spec_l2Find.mono _ _ _)
      | (with_reducible exact spec_l2Refs.mono _ _)
      | (with_reducible exact LeO.refl _)
      | (with_reducible exact LeO.none _)
      | (with_reducible refine LeO.ite ?_ ?_)
      | (with_reducible refine LeO.bind ?_ (fun _ => ?_))
      | exact ih0 _ _
      | exact ih1 _ _
      | exact ih2 _ _
      | exact ih3 _ _ _ _
      | exact spec_FunOk.mono _ _ _ _
      | exact spec_l2Find.mono _ _ _
      | exact spec_l2Refs.mono _ _
      | exact LeO.none _
      | refine LeO.ite ?_ ?_
      | refine LeO.bind ?_ (fun _ => ?_)
theorem spec_KeepOk.mono : ∀ a0 k, LeO (spec_KeepOk.f k a0) (spec_KeepOk.f (k + 1) a0) := by
  intro a0 k
  obtain ⟨ih0, ih1, ih2, ih3⟩ := spec_KeepOk.mono_l k
  unfold spec_KeepOk.f
  repeat' first
      | (with_reducible exact ih0 _ _)
      | (with_reducible exact ih1 _ _)
      | (with_reducible exact ih2 _ _)
      | (with_reducible exact ih3 _ _ _ _)
      | (with_reducible exact spec_FunOk.mono _ _ _ _)
      | (with_reducible exact spec_l2Find.mono _ _ _)
      | (with_reducible exact spec_l2Refs.mono _ _)
      | (with_reducible exact LeO.refl _)
      | (with_reducible exact LeO.none _)
      | (with_reducible refine LeO.ite ?_ ?_)
      | (with_reducible refine LeO.bind ?_ (fun _ => ?_))
      | exact ih0 _ _
      | exact ih1 _ _
      | exact ih2 _ _
      | exact ih3 _ _ _ _
      | exact spec_FunOk.mono _ _ _ _
      | exact spec_l2Find.mono _ _ _
      | exact spec_l2Refs.mono _ _
      | exact LeO.none _
      | refine LeO.ite ?_ ?_
      | refine LeO.bind ?_ (fun _ => ?_)
set_option maxHeartbeats 8000000 in
set_option maxRecDepth 100000 in
theorem spec_KeepOk.calls (k : Nat) (A0 : Option Addr) (c0 : Nat) (l0 : List (S52)) (r : Bool) (w : World) (hr0 : Kd.C k52 w A0 l0.length l0) (hc0 : l0.length ≤ c0) (h : spec_KeepOk.f k l0 = some r) :
    Calls Try.prog 30 #[.slice A0 l0.length c0] w fun e w' => e = .returned (.bool r) ∧ Below w.heap.size w w' := by
  have hu52 := Try.underlying52
  have HR0 := Aside0.mk hr0
  have HC0 := Aside0.mk hc0
  clear hr0 hc0
  have HB := Aside0.mk (Below.refl w.heap.size w)
  have H : (if (l0.length : Int) < 1 then (spec_KeepOk.j0 k l0 true) else (spec_KeepOk.j0 k l0 (decide ((l0.length : Int) > 40)))) = some r := h
  clear h
  have HC2 := Aside0.mk H
  clear H
  go_enter Try.func30, Try.ntmps30
  go_upto_region 1 with (fail)
  go_cut [14] (fun v14 wc => ∃ (kq : Nat) (x14_1 : Bool), v14 = .bool x14_1 ∧ Aside0 (spec_KeepOk.j0 kq l0 x14_1 = some r) ∧ Aside0 (kq ≤ k) ∧ Aside0 (Below w.heap.size w wc))
  case first =>
    have H := HC2.out
    clear HC2
    by_cases c3 : (l0.length : Int) < 1
    · rw [if_pos c3] at H
      have c3b0 : decide ((l0.length : Int) < 1) = true := decide_eq_true c3
      have c3b1 : decide (l0.length < 1) = true := decide_eq_true (by omega)
      clear c3
      (first | rw [c3b0] | (simp only [i64_w, i32_w]; rw [c3b0]) | (have cn_ := c3b0; simp only [bne] at cn_; rw [cn_]; clear cn_) | skip)
      have H' := Aside0.mk H
      clear H
      go_wp2
      go_meet
      case rel => exact ⟨_, (true), (by first | rfl | (simp; done) | (simp [*]; done)), H', ⟨by first | omega | exact Nat.le_refl _⟩, ⟨by repeat (first | (with_reducible first | exact HB.out | apply below_alloc | apply pw_below_drewN | apply below_drew1) | exact HB.out)⟩⟩
    · rw [if_neg c3] at H
      have c3b0 : decide ((l0.length : Int) < 1) = false := decide_eq_false c3
      have c3b1 : decide (l0.length < 1) = false := decide_eq_false (by omega)
      clear c3
      (first | rw [c3b0] | (simp only [i64_w, i32_w]; rw [c3b0]) | (have cn_ := c3b0; simp only [bne] at cn_; rw [cn_]; clear cn_) | skip)
      have H' := Aside0.mk H
      clear H
      go_wp2
      go_meet
      case rel => exact ⟨_, (decide ((l0.length : Int) > 40)), (by first | rfl | (simp; done) | (simp [*]; done)), H', ⟨by first | omega | exact Nat.le_refl _⟩, ⟨by repeat (first | (with_reducible first | exact HB.out | apply below_alloc | apply pw_below_drewN | apply below_drew1) | exact HB.out)⟩⟩
  case rest =>
    clear HC2
    try clear p2
    try clear c3
    try clear c3b0
    try clear c3b1
    obtain ⟨kq, x14_1, rfl, HA, HJ1, HB⟩ := hcut
    cases kq with
    | zero => exact absurd HA.out (by simp [spec_KeepOk.j0])
    | succ kj1 =>
      have H := HA.out
      clear HA
      simp only [spec_KeepOk.j0] at H
      by_cases c4 : x14_1 = true
      · subst c4
        have H1 : (some false) = some r := by rw [if_pos rfl] at H; exact H
        clear H
        have H := H1
        clear H1
        obtain rfl := Option.some.inj H
        go_wp2
        go_ret
        exact ⟨by first | rfl | (simp [errW_none, errW_some] <;> rfl) | (simp [*, errW_none, errW_some] <;> rfl), by repeat (first | (with_reducible first | exact HB.out | apply below_alloc | apply pw_below_drewN | apply below_drew1) | exact HB.out)⟩
      · replace c4 := Bool.eq_false_iff.mpr c4
        subst c4
        have H1 : (spec_KeepOk.l0 kj1 l0 0) = some r := by rw [if_neg (show ¬ (false = true) by decide)] at H; exact H
        clear H
        have H := H1
        clear H1
        have H' := Aside0.mk H
        clear H
        go_wp2
        go_loopg [3] kj1 (fun kq v3 w' => ∃ (x3_2 : Int), v3 = .int .i64 x3_2 ∧ Aside0 (spec_KeepOk.l0 kq l0 x3_2 = some r) ∧ Aside0 (kq ≤ kj1) ∧ Aside0 (Below w.heap.size w w'))
        case atStart => exact ⟨(0), (by first | rfl | (simp; done) | (simp [*]; done)), H', ⟨Nat.le_refl _⟩, ⟨by repeat (first | (with_reducible first | exact HB.out | apply below_alloc | apply pw_below_drewN | apply below_drew1) | exact HB.out)⟩⟩
        case round =>
          clear H'
          try clear p2
          try clear c3
          try clear c3b0
          try clear c3b1
          try clear c4
          try clear p2
          obtain ⟨x3_2, rfl, HA, HK2, HB⟩ := hrel
          cases gk with
          | zero => exact absurd HA.out (by simp [spec_KeepOk.l0])
          | succ k2 =>
            have H := HA.out
            clear HA
            simp only [spec_KeepOk.l0] at H
            by_cases c5 : x3_2 < (l0.length : Int)
            · rw [if_pos c5] at H
              have c5b0 : decide (x3_2 < (l0.length : Int)) = true := decide_eq_true c5
              clear c5
              by_cases c6 : 0 ≤ x3_2
              · rw [if_pos c6] at H
                have c6b0 : decide (0 ≤ x3_2) = true := decide_eq_true c6
                clear c6
                replace H := Option.bind_eq_some_iff.mp H
                obtain ⟨t693, A70, H⟩ := H
                replace H : (if t693 = true then ((spec_l2Find.f k2 l0 ((rd_T52 l0 x3_2).f0)).bind fun t695 => (if t695 = x3_2 then (spec_KeepOk.l0 k2 l0 (wrap64 (x3_2 + 1))) else (some false))) else (some false)) = some r := H
                have A7 := Aside0.mk A70
                clear A70
                by_cases c8 : t693 = true
                · subst c8
                  have H1 : ((spec_l2Find.f k2 l0 ((rd_T52 l0 x3_2).f0)).bind fun t695 => (if t695 = x3_2 then (spec_KeepOk.l0 k2 l0 (wrap64 (x3_2 + 1))) else (some false))) = some r := by rw [if_pos rfl] at H; exact H
                  clear H
                  have H := H1
                  clear H1
                  replace H := Option.bind_eq_some_iff.mp H
                  obtain ⟨t695, A90, H⟩ := H
                  replace H : (if t695 = x3_2 then (spec_KeepOk.l0 k2 l0 (wrap64 (x3_2 + 1))) else (some false)) = some r := H
                  have A9 := Aside0.mk A90
                  clear A90
                  by_cases c10 : t695 = x3_2
                  · rw [if_pos c10] at H
                    have c10b0 : (t695 == x3_2) = true := beq_iff_eq.mpr c10
                    have c10b1 : (t695 != x3_2) = false := bne_eq_false_iff_eq.mpr c10
                    clear c10
                    have H' := Aside0.mk H
                    clear H
                    have p692 : 0 ≤ (x3_2 : Int) := of_decide_eq_true (by first | (with_reducible assumption) | assumption)
                    have q692 : x3_2 < (l0.length : Int) := of_decide_eq_true (by first | (with_reducible assumption) | assumption)
                    obtain ⟨ad692, A692_2, c692_2, e692, hx692_0, hx692_1, hx692_2, hl692_2, hi692_2⟩ := at_T52 HR0.out x3_2 p692 q692
                    cases e692
                    replace hx692_0 := (HB.out.cell (World.block_lt_of_cell? w _ hx692_0)).trans hx692_0
                    replace hx692_1 := (HB.out.cell (World.block_lt_of_cell? w _ hx692_1)).trans hx692_1
                    replace hx692_2 := (HB.out.cell (World.block_lt_of_cell? w _ hx692_2)).trans hx692_2
                    have HR692_2 := Aside0.mk hi692_2
                    have HC692_2 := Aside0.mk hl692_2
                    clear hi692_2 hl692_2
                    replace p692 := eq_true p692
                    replace q692 := eq_true q692
                    go_wp2_with (first | ((with_reducible refine gate_callee (f := 71) rfl ?_); refine goesL_ (some 25) rfl rfl Try.func71 (by kernel_rfl) rfl #[.agg #[.string ((rd_T52 l0 x3_2).f0), .bool ((rd_T52 l0 x3_2).f1), .slice A692_2 ((rd_T52 l0 x3_2).f2).length c692_2]] rfl (by (try simp only [List.map_toArray, List.map_cons, List.map_nil]); first | done | rfl | (simp only [List.length_drop, List.length_take]; rfl)) ?_; (with_reducible refine (spec_FunOk.calls k2 ((rd_T52 l0 x3_2).f0) ((rd_T52 l0 x3_2).f1) _ _ ((rd_T52 l0 x3_2).f2) true _ ?side1 ?side2 A7.out).mono ?_); (case side1 => repeat (first | exact (Kd.C_below HR692_2.out HB.out) | (with_reducible refine Kd.C_alloc ?_ _) | (with_reducible refine Kd.C_drewN ?_ _) | (with_reducible refine Kd.C_drew ?_))); (case side2 => exact HC692_2.out); rintro e w11 ⟨rfl, hb⟩; refine ⟨_, rfl, ?_⟩; have n0_ := Aside0.mk (below_step (by repeat (first | (with_reducible first | exact HB.out | apply below_alloc | apply pw_below_drewN | apply below_drew1) | exact HB.out)) hb); clear HB; have HB := n0_; clear n0_; (try clear hb); (try clear hb2); (try clear hk); (try clear hi); have p694 : 0 ≤ (x3_2 : Int) := of_decide_eq_true (by first | (with_reducible assumption) | assumption); have q694 : x3_2 < (l0.length : Int) := of_decide_eq_true (by first | (with_reducible assumption) | assumption); obtain ⟨ad694, A694_2, c694_2, e694, hx694_0, hx694_1, hx694_2, hl694_2, hi694_2⟩ := at_T52 HR0.out x3_2 p694 q694; obtain rfl : ad692 = ad694 := (by injection e694); replace hx694_0 := (HB.out.cell (World.block_lt_of_cell? w _ hx694_0)).trans hx694_0; replace hx694_1 := (HB.out.cell (World.block_lt_of_cell? w _ hx694_1)).trans hx694_1; replace hx694_2 := (HB.out.cell (World.block_lt_of_cell? w _ hx694_2)).trans hx694_2; have HR694_2 := Aside0.mk hi694_2; have HC694_2 := Aside0.mk hl694_2; clear hi694_2 hl694_2; replace p694 := eq_true p694; replace q694 := eq_true q694) | (go_at_call 72; (with_reducible refine (spec_l2Find.calls k2 _ _ l0 ((rd_T52 l0 x3_2).f0) t695 _ ?side1 ?side2 A9.out).mono ?_); (case side1 => repeat (first | exact (Kd.C_below HR0.out HB.out) | (with_reducible refine Kd.C_alloc ?_ _) | (with_reducible refine Kd.C_drewN ?_ _) | (with_reducible refine Kd.C_drew ?_))); (case side2 => exact HC0.out); rintro e w' ⟨rfl, ⟨nd, rfl⟩⟩))
                    go_roundg k2
                    case measure => have := HJ1.out; have := HK2.out; omega
                    case rel => exact ⟨(wrap64 (x3_2 + 1)), (by first | rfl | (simp; done) | (simp [*]; done)), H', ⟨by have := HJ1.out; have := HK2.out; omega⟩, ⟨by repeat (first | (with_reducible first | exact HB.out | apply below_alloc | apply pw_below_drewN | apply below_drew1) | exact HB.out)⟩⟩
                  · rw [if_neg c10] at H
                    have c10b0 : (t695 == x3_2) = false := beq_eq_false_iff_ne.mpr c10
                    have c10b1 : (t695 != x3_2) = true := bne_iff_ne.mpr c10
                    obtain rfl := Option.some.inj H
                    have p692 : 0 ≤ (x3_2 : Int) := of_decide_eq_true (by first | (with_reducible assumption) | assumption)
                    have q692 : x3_2 < (l0.length : Int) := of_decide_eq_true (by first | (with_reducible assumption) | assumption)
                    obtain ⟨ad692, A692_2, c692_2, e692, hx692_0, hx692_1, hx692_2, hl692_2, hi692_2⟩ := at_T52 HR0.out x3_2 p692 q692
                    cases e692
                    replace hx692_0 := (HB.out.cell (World.block_lt_of_cell? w _ hx692_0)).trans hx692_0
                    replace hx692_1 := (HB.out.cell (World.block_lt_of_cell? w _ hx692_1)).trans hx692_1
                    replace hx692_2 := (HB.out.cell (World.block_lt_of_cell? w _ hx692_2)).trans hx692_2
                    have HR692_2 := Aside0.mk hi692_2
                    have HC692_2 := Aside0.mk hl692_2
                    clear hi692_2 hl692_2
                    replace p692 := eq_true p692
                    replace q692 := eq_true q692
                    go_wp2_with (first | ((with_reducible refine gate_callee (f := 71) rfl ?_); refine goesL_ (some 25) rfl rfl Try.func71 (by kernel_rfl) rfl #[.agg #[.string ((rd_T52 l0 x3_2).f0), .bool ((rd_T52 l0 x3_2).f1), .slice A692_2 ((rd_T52 l0 x3_2).f2).length c692_2]] rfl (by (try simp only [List.map_toArray, List.map_cons, List.map_nil]); first | done | rfl | (simp only [List.length_drop, List.length_take]; rfl)) ?_; (with_reducible refine (spec_FunOk.calls k2 ((rd_T52 l0 x3_2).f0) ((rd_T52 l0 x3_2).f1) _ _ ((rd_T52 l0 x3_2).f2) true _ ?side1 ?side2 A7.out).mono ?_); (case side1 => repeat (first | exact (Kd.C_below HR692_2.out HB.out) | (with_reducible refine Kd.C_alloc ?_ _) | (with_reducible refine Kd.C_drewN ?_ _) | (with_reducible refine Kd.C_drew ?_))); (case side2 => exact HC692_2.out); rintro e w12 ⟨rfl, hb⟩; refine ⟨_, rfl, ?_⟩; have n0_ := Aside0.mk (below_step (by repeat (first | (with_reducible first | exact HB.out | apply below_alloc | apply pw_below_drewN | apply below_drew1) | exact HB.out)) hb); clear HB; have HB := n0_; clear n0_; (try clear hb); (try clear hb2); (try clear hk); (try clear hi); have p694 : 0 ≤ (x3_2 : Int) := of_decide_eq_true (by first | (with_reducible assumption) | assumption); have q694 : x3_2 < (l0.length : Int) := of_decide_eq_true (by first | (with_reducible assumption) | assumption); obtain ⟨ad694, A694_2, c694_2, e694, hx694_0, hx694_1, hx694_2, hl694_2, hi694_2⟩ := at_T52 HR0.out x3_2 p694 q694; obtain rfl : ad692 = ad694 := (by injection e694); replace hx694_0 := (HB.out.cell (World.block_lt_of_cell? w _ hx694_0)).trans hx694_0; replace hx694_1 := (HB.out.cell (World.block_lt_of_cell? w _ hx694_1)).trans hx694_1; replace hx694_2 := (HB.out.cell (World.block_lt_of_cell? w _ hx694_2)).trans hx694_2; have HR694_2 := Aside0.mk hi694_2; have HC694_2 := Aside0.mk hl694_2; clear hi694_2 hl694_2; replace p694 := eq_true p694; replace q694 := eq_true q694) | (go_at_call 72; (with_reducible refine (spec_l2Find.calls k2 _ _ l0 ((rd_T52 l0 x3_2).f0) t695 _ ?side1 ?side2 A9.out).mono ?_); (case side1 => repeat (first | exact (Kd.C_below HR0.out HB.out) | (with_reducible refine Kd.C_alloc ?_ _) | (with_reducible refine Kd.C_drewN ?_ _) | (with_reducible refine Kd.C_drew ?_))); (case side2 => exact HC0.out); rintro e w' ⟨rfl, ⟨nd, rfl⟩⟩))
                    go_ret
                    exact ⟨by first | rfl | (simp [errW_none, errW_some] <;> rfl) | (simp [*, errW_none, errW_some] <;> rfl), by repeat (first | (with_reducible first | exact HB.out | apply below_alloc | apply pw_below_drewN | apply below_drew1) | exact HB.out)⟩
                · replace c8 := Bool.eq_false_iff.mpr c8
                  subst c8
                  have H1 : (some false) = some r := by rw [if_neg (show ¬ (false = true) by decide)] at H; exact H
                  clear H
                  have H := H1
                  clear H1
                  obtain rfl := Option.some.inj H
                  have p692 : 0 ≤ (x3_2 : Int) := of_decide_eq_true (by first | (with_reducible assumption) | assumption)
                  have q692 : x3_2 < (l0.length : Int) := of_decide_eq_true (by first | (with_reducible assumption) | assumption)
                  obtain ⟨ad692, A692_2, c692_2, e692, hx692_0, hx692_1, hx692_2, hl692_2, hi692_2⟩ := at_T52 HR0.out x3_2 p692 q692
                  cases e692
                  replace hx692_0 := (HB.out.cell (World.block_lt_of_cell? w _ hx692_0)).trans hx692_0
                  replace hx692_1 := (HB.out.cell (World.block_lt_of_cell? w _ hx692_1)).trans hx692_1
                  replace hx692_2 := (HB.out.cell (World.block_lt_of_cell? w _ hx692_2)).trans hx692_2
                  have HR692_2 := Aside0.mk hi692_2
                  have HC692_2 := Aside0.mk hl692_2
                  clear hi692_2 hl692_2
                  replace p692 := eq_true p692
                  replace q692 := eq_true q692
                  go_wp2_with (first | ((with_reducible refine gate_callee (f := 71) rfl ?_); refine goesL_ (some 25) rfl rfl Try.func71 (by kernel_rfl) rfl #[.agg #[.string ((rd_T52 l0 x3_2).f0), .bool ((rd_T52 l0 x3_2).f1), .slice A692_2 ((rd_T52 l0 x3_2).f2).length c692_2]] rfl (by (try simp only [List.map_toArray, List.map_cons, List.map_nil]); first | done | rfl | (simp only [List.length_drop, List.length_take]; rfl)) ?_; (with_reducible refine (spec_FunOk.calls k2 ((rd_T52 l0 x3_2).f0) ((rd_T52 l0 x3_2).f1) _ _ ((rd_T52 l0 x3_2).f2) false _ ?side1 ?side2 A7.out).mono ?_); (case side1 => repeat (first | exact (Kd.C_below HR692_2.out HB.out) | (with_reducible refine Kd.C_alloc ?_ _) | (with_reducible refine Kd.C_drewN ?_ _) | (with_reducible refine Kd.C_drew ?_))); (case side2 => exact HC692_2.out); rintro e w13 ⟨rfl, hb⟩; refine ⟨_, rfl, ?_⟩; have n0_ := Aside0.mk (below_step (by repeat (first | (with_reducible first | exact HB.out | apply below_alloc | apply pw_below_drewN | apply below_drew1) | exact HB.out)) hb); clear HB; have HB := n0_; clear n0_; (try clear hb); (try clear hb2); (try clear hk); (try clear hi)))
                  go_ret
                  exact ⟨by first | rfl | (simp [errW_none, errW_some] <;> rfl) | (simp [*, errW_none, errW_some] <;> rfl), by repeat (first | (with_reducible first | exact HB.out | apply below_alloc | apply pw_below_drewN | apply below_drew1) | exact HB.out)⟩
              · rw [if_neg c6] at H
                exact absurd H (by simp)
            · rw [if_neg c5] at H
              have c5b0 : decide (x3_2 < (l0.length : Int)) = false := decide_eq_false c5
              clear c5
              have H' := Aside0.mk H
              clear H
              go_wp2
              go_loopg [4] k2 (fun kq v4 w' => ∃ (x4_3 : Int), v4 = .int .i64 x4_3 ∧ Aside0 (spec_KeepOk.l1 kq l0 x4_3 = some r) ∧ Aside0 (kq ≤ k2) ∧ Aside0 (Below w.heap.size w w'))
              case atStart => exact ⟨(0), (by first | rfl | (simp; done) | (simp [*]; done)), H', ⟨Nat.le_refl _⟩, ⟨by repeat (first | (with_reducible first | exact HB.out | apply below_alloc | apply pw_below_drewN | apply below_drew1) | exact HB.out)⟩⟩
              case round =>
                clear H'
                try clear c1
                try clear p2
                try clear c3
                try clear c3b0
                try clear c3b1
                try clear c4
                try clear c5
                try clear c5b0
                try clear c6
                try clear c6b0
                try clear p6
                try clear q6
                try clear hx6
                try clear c7
                try clear c8
                try clear c10
                try clear c10b0
                try clear c10b1
                try clear hx692_0
                try clear hx692_1
                try clear hx692_2
                try clear hx694_0
                try clear hx694_1
                try clear hx694_2
                try clear p2
                try clear p692
                try clear p694
                try clear q692
                try clear q694
                obtain ⟨x4_3, rfl, HA, HK3, HB⟩ := hrel
                cases gk with
                | zero => exact absurd HA.out (by simp [spec_KeepOk.l1])
                | succ k3 =>
                  have H := HA.out
                  clear HA
                  simp only [spec_KeepOk.l1] at H
                  by_cases c14 : x4_3 < (l0.length : Int)
                  · rw [if_pos c14] at H
                    have c14b0 : decide (x4_3 < (l0.length : Int)) = true := decide_eq_true c14
                    clear c14
                    by_cases c15 : 0 ≤ x4_3
                    · rw [if_pos c15] at H
                      have c15b0 : decide (0 ≤ x4_3) = true := decide_eq_true c15
                      clear c15
                      replace H := Option.bind_eq_some_iff.mp H
                      obtain ⟨t697, A160, H⟩ := H
                      replace H : (spec_KeepOk.l2 k3 l0 x4_3 t697 0) = some r := H
                      have A16 := Aside0.mk A160
                      clear A160
                      have H' := Aside0.mk H
                      clear H
                      have p696 : 0 ≤ (x4_3 : Int) := of_decide_eq_true (by first | (with_reducible assumption) | assumption)
                      have q696 : x4_3 < (l0.length : Int) := of_decide_eq_true (by first | (with_reducible assumption) | assumption)
                      obtain ⟨ad696, A696_2, c696_2, e696, hx696_0, hx696_1, hx696_2, hl696_2, hi696_2⟩ := at_T52 HR0.out x4_3 p696 q696
                      cases e696
                      replace hx696_0 := (HB.out.cell (World.block_lt_of_cell? w _ hx696_0)).trans hx696_0
                      replace hx696_1 := (HB.out.cell (World.block_lt_of_cell? w _ hx696_1)).trans hx696_1
                      replace hx696_2 := (HB.out.cell (World.block_lt_of_cell? w _ hx696_2)).trans hx696_2
                      have HR696_2 := Aside0.mk hi696_2
                      have HC696_2 := Aside0.mk hl696_2
                      clear hi696_2 hl696_2
                      replace p696 := eq_true p696
                      replace q696 := eq_true q696
                      go_wp2_with (first | ((with_reducible refine gate_callee (f := 73) rfl ?_); refine goesL_ (some 49) rfl rfl Try.func73 (by kernel_rfl) rfl #[.slice A696_2 ((rd_T52 l0 x4_3).f2).length c696_2] rfl (by (try simp only [List.map_toArray, List.map_cons, List.map_nil]); first | done | rfl | (simp only [List.length_drop, List.length_take]; rfl)) ?_; (with_reducible refine (spec_l2Refs.calls k3 _ _ ((rd_T52 l0 x4_3).f2) t697 _ ?side1 ?side2 A16.out).mono ?_); (case side1 => repeat (first | exact (Kd.C_below HR696_2.out HB.out) | (with_reducible refine Kd.C_alloc ?_ _) | (with_reducible refine Kd.C_drewN ?_ _) | (with_reducible refine Kd.C_drew ?_))); (case side2 => exact HC696_2.out); rintro e w17 ⟨v698, rfl, ho0, hb⟩; refine ⟨_, rfl, ?_⟩; have n0_ := Aside0.mk (Kd.R_lower ho0 (below_size (by repeat (first | (with_reducible first | exact HB.out | apply below_alloc | apply pw_below_drewN | apply below_drew1) | exact HB.out)))); have n1_ := Aside0.mk (below_step (by repeat (first | (with_reducible first | exact HB.out | apply below_alloc | apply pw_below_drewN | apply below_drew1) | exact HB.out)) hb); clear HB; have HO699 := n0_; have HB := n1_; clear n0_ n1_; (try clear hb); (try clear hb2); (try clear hk); (try clear hi); (try clear ho0)))
                      go_loopg [6] k3 (fun kq v6 w' => ∃ (x6_4 : Int), v6 = .int .i64 x6_4 ∧ Aside0 (spec_KeepOk.l2 kq l0 x4_3 t697 x6_4 = some r) ∧ Aside0 (kq ≤ k3) ∧ Aside0 (Kd.R Kd.string 9 w' w.heap.size (fun _ => True) v698 t697) ∧ Aside0 (Below w.heap.size w w'))
                      case atStart => exact ⟨(0), (by first | rfl | (simp; done) | (simp [*]; done)), H', ⟨Nat.le_refl _⟩, ⟨by (with_reducible repeat (first | apply Kd.R_alloc | apply Kd.R_drewN | apply Kd.R_drew)); exact HO699.out⟩, ⟨by repeat (first | (with_reducible first | exact HB.out | apply below_alloc | apply pw_below_drewN | apply below_drew1) | exact HB.out)⟩⟩
                      case round =>
                        clear H'
                        try clear c1
                        try clear p2
                        try clear c3
                        try clear c3b0
                        try clear c3b1
                        try clear c4
                        try clear c5
                        try clear c5b0
                        try clear c6
                        try clear c6b0
                        try clear p6
                        try clear q6
                        try clear hx6
                        try clear c7
                        try clear c8
                        try clear c10
                        try clear c10b0
                        try clear c10b1
                        try clear c14
                        try clear c14b0
                        try clear c15
                        try clear c15b0
                        try clear hx692_0
                        try clear hx692_1
                        try clear hx692_2
                        try clear hx694_0
                        try clear hx694_1
                        try clear hx694_2
                        try clear hx696_0
                        try clear hx696_1
                        try clear hx696_2
                        try clear p2
                        try clear p6
                        try clear p692
                        try clear p694
                        try clear p696
                        try clear q6
                        try clear q692
                        try clear q694
                        try clear q696
                        obtain ⟨x6_4, rfl, HA, HK4, HO_5, HB⟩ := hrel
                        cases gk with
                        | zero => exact absurd HA.out (by simp [spec_KeepOk.l2])
                        | succ k4 =>
                          have H := HA.out
                          clear HA
                          simp only [spec_KeepOk.l2] at H
                          by_cases c18 : x6_4 < (t697.length : Int)
                          · rw [if_pos c18] at H
                            have c18b0 : decide (x6_4 < (t697.length : Int)) = true := decide_eq_true c18
                            clear c18
                            by_cases c19 : 0 ≤ x6_4
                            · rw [if_pos c19] at H
                              have c19b0 : decide (0 ≤ x6_4) = true := decide_eq_true c19
                              clear c19
                              replace H := Option.bind_eq_some_iff.mp H
                              obtain ⟨t701, A200, H⟩ := H
                              replace H : (if t701 < 0 then (some false) else (spec_KeepOk.l2 k4 l0 x4_3 t697 (wrap64 (x6_4 + 1)))) = some r := H
                              have A20 := Aside0.mk A200
                              clear A200
                              by_cases c21 : t701 < 0
                              · rw [if_pos c21] at H
                                have c21b0 : decide (t701 < 0) = true := decide_eq_true c21
                                clear c21
                                obtain rfl := Option.some.inj H
                                obtain ⟨Ao22, co22, eo22⟩ := Kd.R_slice HO_5.out
                                subst eo22
                                have p700 : 0 ≤ (x6_4 : Int) := of_decide_eq_true (by first | (with_reducible assumption) | assumption)
                                have q700 : x6_4 < (t697.length : Int) := of_decide_eq_true (by first | (with_reducible assumption) | assumption)
                                obtain ⟨ad700, e700, hx700_0⟩ := Kd.at_string (Kd.R_reads' HO_5.out).2.2 x6_4 p700 q700
                                cases e700
                                replace p700 := eq_true p700
                                replace q700 := eq_true q700
                                go_wp2_with (first | ((with_reducible refine gate_callee (f := 72) rfl ?_); refine goesL_ (some 61) rfl rfl Try.func72 (by kernel_rfl) rfl #[.slice (some ad696) l0.length c0, .string (rdOf ByteArray.empty t697 x6_4)] rfl (by (try simp only [List.map_toArray, List.map_cons, List.map_nil]); first | done | rfl | (simp only [List.length_drop, List.length_take]; rfl)) ?_; (with_reducible refine (spec_l2Find.calls k4 _ _ l0 (rdOf ByteArray.empty t697 x6_4) t701 _ ?side1 ?side2 A20.out).mono ?_); (case side1 => repeat (first | exact (Kd.C_below HR0.out HB.out) | (with_reducible refine Kd.C_alloc ?_ _) | (with_reducible refine Kd.C_drewN ?_ _) | (with_reducible refine Kd.C_drew ?_))); (case side2 => exact HC0.out); rintro e w' ⟨rfl, ⟨nd, rfl⟩⟩; refine ⟨_, rfl, ?_⟩))
                                go_ret
                                exact ⟨by first | rfl | (simp [errW_none, errW_some] <;> rfl) | (simp [*, errW_none, errW_some] <;> rfl), by repeat (first | (with_reducible first | exact HB.out | apply below_alloc | apply pw_below_drewN | apply below_drew1) | exact HB.out)⟩
                              · rw [if_neg c21] at H
                                have c21b0 : decide (t701 < 0) = false := decide_eq_false c21
                                clear c21
                                have H' := Aside0.mk H
                                clear H
                                obtain ⟨Ao23, co23, eo23⟩ := Kd.R_slice HO_5.out
                                subst eo23
                                have p700 : 0 ≤ (x6_4 : Int) := of_decide_eq_true (by first | (with_reducible assumption) | assumption)
                                have q700 : x6_4 < (t697.length : Int) := of_decide_eq_true (by first | (with_reducible assumption) | assumption)
                                obtain ⟨ad700, e700, hx700_0⟩ := Kd.at_string (Kd.R_reads' HO_5.out).2.2 x6_4 p700 q700
                                cases e700
                                replace p700 := eq_true p700
                                replace q700 := eq_true q700
                                go_wp2_with (first | ((with_reducible refine gate_callee (f := 72) rfl ?_); refine goesL_ (some 61) rfl rfl Try.func72 (by kernel_rfl) rfl #[.slice (some ad696) l0.length c0, .string (rdOf ByteArray.empty t697 x6_4)] rfl (by (try simp only [List.map_toArray, List.map_cons, List.map_nil]); first | done | rfl | (simp only [List.length_drop, List.length_take]; rfl)) ?_; (with_reducible refine (spec_l2Find.calls k4 _ _ l0 (rdOf ByteArray.empty t697 x6_4) t701 _ ?side1 ?side2 A20.out).mono ?_); (case side1 => repeat (first | exact (Kd.C_below HR0.out HB.out) | (with_reducible refine Kd.C_alloc ?_ _) | (with_reducible refine Kd.C_drewN ?_ _) | (with_reducible refine Kd.C_drew ?_))); (case side2 => exact HC0.out); rintro e w' ⟨rfl, ⟨nd, rfl⟩⟩; refine ⟨_, rfl, ?_⟩))
                                go_roundg k4
                                case measure => have := HJ1.out; have := HK2.out; have := HK3.out; have := HK4.out; omega
                                case rel => exact ⟨(wrap64 (x6_4 + 1)), (by first | rfl | (simp; done) | (simp [*]; done)), H', ⟨by have := HJ1.out; have := HK2.out; have := HK3.out; have := HK4.out; omega⟩, ⟨by (with_reducible repeat (first | apply Kd.R_alloc | apply Kd.R_drewN | apply Kd.R_drew)); exact HO_5.out⟩, ⟨by repeat (first | (with_reducible first | exact HB.out | apply below_alloc | apply pw_below_drewN | apply below_drew1) | exact HB.out)⟩⟩
                            · rw [if_neg c19] at H
                              exact absurd H (by simp)
                          · rw [if_neg c18] at H
                            have c18b0 : decide (x6_4 < (t697.length : Int)) = false := decide_eq_false c18
                            clear c18
                            have H' := Aside0.mk H
                            clear H
                            obtain ⟨Ao24, co24, eo24⟩ := Kd.R_slice HO_5.out
                            subst eo24
                            go_wp2
                            go_roundg k4
                            case measure => have := HJ1.out; have := HK2.out; have := HK3.out; have := HK4.out; omega
                            case rel => exact ⟨(wrap64 (x4_3 + 1)), (by first | rfl | (simp; done) | (simp [*]; done)), H', ⟨by have := HJ1.out; have := HK2.out; have := HK3.out; have := HK4.out; omega⟩, ⟨by repeat (first | (with_reducible first | exact HB.out | apply below_alloc | apply pw_below_drewN | apply below_drew1) | exact HB.out)⟩⟩
                    · rw [if_neg c15] at H
                      exact absurd H (by simp)
                  · rw [if_neg c14] at H
                    have c14b0 : decide (x4_3 < (l0.length : Int)) = false := decide_eq_false c14
                    clear c14
                    obtain rfl := Option.some.inj H
                    go_wp2
                    go_ret
                    exact ⟨by first | rfl | (simp [errW_none, errW_some] <;> rfl) | (simp [*, errW_none, errW_some] <;> rfl), by repeat (first | (with_reducible first | exact HB.out | apply below_alloc | apply pw_below_drewN | apply below_drew1) | exact HB.out)⟩

end Go.Proofs.Ytppmalfpggkpdaa.P

-- made by printx.py (own driver over the kit's print); Lean checks it
namespace Go.Proofs.Ytppmalfpggkpdaa.P
open Go.RowKit Go.Proofs.YtppmalfpggkpdaaW.PrintWords Go.Proofs.YtppmalfpggkpdaaW.PrintLast Go.Proofs.YtppmalfpggkpdaaW.PrintMore
attribute [local go_sem] max2_int min2_int max_two min_two max_three min_three max_four min_four   -- for this text's walks alone
set_option linter.unusedVariables false
set_option linter.unusedSimpArgs false

/-! ### spec_l7Form: function 110 -/
mutual
def spec_l7Form.j0 : Nat → List (S52) → Bool → List Int → List (List ByteArray) → Option (Bool)
  | 0, _, _, _, _ => none
  | k + 1, x0, x27, x1018000, x1018001 => if x27 = true then (some false) else (spec_l7Form.l0 k x0 0 0 x1018000 x1018001)
def spec_l7Form.l0 : Nat → List (S52) → Int → Int → List Int → List (List ByteArray) → Option (Bool)
  | 0, _, _, _, _, _ => none
  | k + 1, x0, x5, x6, x1018000, x1018001 => if x6 < (x0.length : Int) then (if 0 ≤ x6 then (if x6 < (x1018000.length : Int) then (if (rd x1018000 x6) = x5 then (spec_l7Form.l1 k x0 x5 x6 0 x1018000 x1018001) else (some false)) else (none)) else (none)) else (some true)
def spec_l7Form.l1 : Nat → List (S52) → Int → Int → Int → List Int → List (List ByteArray) → Option (Bool)
  | 0, _, _, _, _, _, _ => none
  | k + 1, x0, x5, x6, x7, x1018000, x1018001 => if 0 ≤ x6 then (if x6 < (x1018001.length : Int) then (if x7 < ((rd_L14 x1018001 x6).length : Int) then (if 0 ≤ x7 then ((spec_l2Find.f k x0 (rdOf ByteArray.empty (rd_L14 x1018001 x6) x7)).bind fun t1025 => (if t1025 < 0 then (some false) else (spec_l7Form.l2 k x0 x5 x6 x7 0 x1018000 x1018001))) else (none)) else (if x6 < (x0.length : Int) then (spec_l7Form.l0 k x0 (wrap64 ((wrap64 (x5 + (((rd_T52 x0 x6).f2).length : Int))) + ((rd_L14 x1018001 x6).length : Int))) (wrap64 (x6 + 1)) x1018000 x1018001) else (none))) else (none)) else (none)
def spec_l7Form.l2 : Nat → List (S52) → Int → Int → Int → Int → List Int → List (List ByteArray) → Option (Bool)
  | 0, _, _, _, _, _, _, _ => none
  | k + 1, x0, x5, x6, x7, x8, x1018000, x1018001 => if x8 < x7 then (if 0 ≤ x6 then (if x6 < (x1018001.length : Int) then (if 0 ≤ x8 then (if x8 < ((rd_L14 x1018001 x6).length : Int) then (if 0 ≤ x7 then (if x7 < ((rd_L14 x1018001 x6).length : Int) then (if (rdOf ByteArray.empty (rd_L14 x1018001 x6) x8).toList = (rdOf ByteArray.empty (rd_L14 x1018001 x6) x7).toList then (some false) else (spec_l7Form.l2 k x0 x5 x6 x7 (wrap64 (x8 + 1)) x1018000 x1018001)) else (none)) else (none)) else (none)) else (none)) else (none)) else (none)) else (spec_l7Form.l1 k x0 x5 x6 (wrap64 (x7 + 1)) x1018000 x1018001)
end
def spec_l7Form.f (k : Nat) (l0 : List (S52)) (l1_0 : List Int) (l1_1 : List (List ByteArray)) : Option (Bool) := (spec_KeepOk.f k l0).bind fun t1018 => (if t1018 = true then (if (l1_0.length : Int) = (l0.length : Int) then (spec_l7Form.j0 k l0 ((l1_1.length : Int) != (l0.length : Int)) l1_0 l1_1) else (spec_l7Form.j0 k l0 true l1_0 l1_1)) else (spec_l7Form.j0 k l0 true l1_0 l1_1))
theorem spec_l7Form.mono_l : ∀ k, (∀ y0 y1 y2 y3, LeO (spec_l7Form.j0 k y0 y1 y2 y3) (spec_l7Form.j0 (k + 1) y0 y1 y2 y3)) ∧ (∀ y0 y1 y2 y3 y4, LeO (spec_l7Form.l0 k y0 y1 y2 y3 y4) (spec_l7Form.l0 (k + 1) y0 y1 y2 y3 y4)) ∧ (∀ y0 y1 y2 y3 y4 y5, LeO (spec_l7Form.l1 k y0 y1 y2 y3 y4 y5) (spec_l7Form.l1 (k + 1) y0 y1 y2 y3 y4 y5)) ∧ (∀ y0 y1 y2 y3 y4 y5 y6, LeO (spec_l7Form.l2 k y0 y1 y2 y3 y4 y5 y6) (spec_l7Form.l2 (k + 1) y0 y1 y2 y3 y4 y5 y6))
  | 0 => ⟨fun _ _ _ _ r h => by simp [spec_l7Form.j0] at h, fun _ _ _ _ _ r h => by simp [spec_l7Form.l0] at h, fun _ _ _ _ _ _ r h => by simp [spec_l7Form.l1] at h, fun _ _ _ _ _ _ _ r h => by simp [spec_l7Form.l2] at h⟩
  | k + 1 => by
    obtain ⟨ih0, ih1, ih2, ih3⟩ := spec_l7Form.mono_l k
    refine ⟨?_, ?_, ?_, ?_⟩
    · intro y0 y1 y2 y3
      unfold spec_l7Form.j0
      repeat' first
      | (with_reducible exact ih0 _ _ _ _)
      | (with_reducible exact ih1 _ _ _ _ _)
      | (with_reducible exact ih2 _ _ _ _ _ _)
      | (with_reducible exact ih3 _ _ _ _ _ _ _)
      | (with_reducible exact spec_KeepOk.mono _ _)
      | (with_reducible exact spec_l2Find.mono _ _ _)
      | (with_reducible exact LeO.refl _)
      | (with_reducible exact LeO.none _)
      | (with_reducible refine LeO.ite ?_ ?_)
      | (with_reducible refine LeO.bind ?_ (fun _ => ?_))
      | exact ih0 _ _ _ _
      | exact ih1 _ _ _ _ _
      | exact ih2 _ _ _ _ _ _
      | exact ih3 _ _ _ _ _ _ _
      | exact spec_KeepOk.mono _ _
      | exact spec_l2Find.mono _ _ _
      | exact LeO.none _
      | refine LeO.ite ?_ ?_
      | refine LeO.bind ?_ (fun _ => ?_)
    · intro y0 y1 y2 y3 y4
      unfold spec_l7Form.l0
      repeat' first
      | (with_reducible exact ih0 _ _ _ _)
      | (with_reducible exact ih1 _ _ _ _ _)
      | (with_reducible exact ih2 _ _ _ _ _ _)
      | (with_reducible exact ih3 _ _ _ _ _ _ _)
      | (with_reducible exact spec_KeepOk.mono _ _)
      | (with_reducible exact spec_l2Find.mono _ _ _)
      | (with_reducible exact LeO.refl _)
      | (with_reducible exact LeO.none _)
      | (with_reducible refine LeO.ite ?_ ?_)
      | (with_reducible refine LeO.bind ?_ (fun _ => ?_))
      | exact ih0 _ _ _ _
      | exact ih1 _ _ _ _ _
      | exact ih2 _ _ _ _ _ _
      | exact ih3 _ _ _ _ _ _ _
      | exact spec_KeepOk.mono _ _
      | exact spec_l2Find.mono _ _ _
      | exact LeO.none _
      | refine LeO.ite ?_ ?_
      | refine LeO.bind ?_ (fun _ => ?_)
    · intro y0 y1 y2 y3 y4 y5
      unfold spec_l7Form.l1
      repeat' first
      | (with_reducible exact ih0 _ _ _ _)
      | (with_reducible exact ih1 _ _ _ _ _)
      | (with_reducible exact ih2 _ _ _ _ _ _)
      | (with_reducible exact ih3 _ _ _ _ _ _ _)
      | (with_reducible exact spec_KeepOk.mono _ _)
      | (with_reducible exact spec_l2Find.mono _ _ _)
      | (with_reducible exact LeO.refl _)
      | (with_reducible exact LeO.none _)
      | (with_reducible refine LeO.ite ?_ ?_)
      | (with_reducible refine LeO.bind ?_ (fun _ => ?_))
      | exact ih0 _ _ _ _
      | exact ih1 _ _ _ _ _
      | exact ih2 _ _ _ _ _ _
      | exact ih3 _ _ _ _ _ _ _
      | exact spec_KeepOk.mono _ _
      | exact spec_l2Find.mono _ _ _
      | exact LeO.none _
      | refine LeO.ite ?_ ?_
      | refine LeO.bind ?_ (fun _ => ?_)
    · intro y0 y1 y2 y3 y4 y5 y6
      unfold spec_l7Form.l2
      repeat' first
      | (with_reducible exact ih0 _ _ _ _)
      | (with_reducible exact ih1 _ _ _ _ _)
      | (with_reducible exact ih2 _ _ _ _ _ _)
      | (with_reducible exact ih3 _ _ _ _ _ _ _)
      | (with_reducible exact spec_KeepOk.mono _ _)
      | (with_reducible exact spec_l2Find.mono _ _ _)
      | (with_reducible exact LeO.refl _)
      | (with_reducible exact LeO.none _)
      | (with_reducible refine LeO.ite ?_ ?_)
      | (with_reducible refine LeO.bind ?_ (fun _ => ?_))
      | exact ih0 _ _ _ _
      | exact ih1 _ _ _ _ _
      | exact ih2 _ _ _ _ _ _
      | exact ih3 _ _ _ _ _ _ _
      | exact spec_KeepOk.mono _ _
      | exact spec_l2Find.mono _ _ _
      | exact LeO.none _
      | refine LeO.ite ?_ ?_
      | refine LeO.bind ?_ (fun _ => ?_)
theorem spec_l7Form.mono : ∀ a0 a1 a2 k, LeO (spec_l7Form.f k a0 a1 a2) (spec_l7Form.f (k + 1) a0 a1 a2) := by
  intro a0 a1 a2 k
  obtain ⟨ih0, ih1, ih2, ih3⟩ := spec_l7Form.mono_l k
  unfold spec_l7Form.f
  repeat' first
      | (with_reducible exact ih0 _ _ _ _)
      | (with_reducible exact ih1 _ _ _ _ _)
      | (with_reducible exact ih2 _ _ _ _ _ _)
      | (with_reducible exact ih3 _ _ _ _ _ _ _)
      | (with_reducible exact spec_KeepOk.mono _ _)
      | (with_reducible exact spec_l2Find.mono _ _ _)
      | (with_reducible exact LeO.refl _)
      | (with_reducible exact LeO.none _)
      | (with_reducible refine LeO.ite ?_ ?_)
      | (with_reducible refine LeO.bind ?_ (fun _ => ?_))
      | exact ih0 _ _ _ _
      | exact ih1 _ _ _ _ _
      | exact ih2 _ _ _ _ _ _
      | exact ih3 _ _ _ _ _ _ _
      | exact spec_KeepOk.mono _ _
      | exact spec_l2Find.mono _ _ _
      | exact LeO.none _
      | refine LeO.ite ?_ ?_
      | refine LeO.bind ?_ (fun _ => ?_)
set_option maxHeartbeats 8000000 in
set_option maxRecDepth 100000 in
theorem spec_l7Form.calls (k : Nat) (A0 : Option Addr) (c0 : Nat) (l0 : List (S52)) (A1_0 : Option Addr) (c1_0 : Nat) (l1_0 : List Int) (A1_1 : Option Addr) (c1_1 : Nat) (l1_1 : List (List ByteArray)) (r : Bool) (w : World) (hr0 : Kd.C k52 w A0 l0.length l0) (hc0 : l0.length ≤ c0) (hr1_0 : Kd.C (Kd.int .i64) w A1_0 l1_0.length l1_0) (hc1_0 : l1_0.length ≤ c1_0) (hr1_1 : Kd.C (Kd.slice 9 Kd.string) w A1_1 l1_1.length l1_1) (hc1_1 : l1_1.length ≤ c1_1) (h : spec_l7Form.f k l0 l1_0 l1_1 = some r) :
    Calls Try.prog 110 #[.slice A0 l0.length c0, .agg #[.slice A1_0 l1_0.length c1_0, .slice A1_1 l1_1.length c1_1]] w fun e w' => e = .returned (.bool r) ∧ Below w.heap.size w w' := by
  have hu80 := Try.underlying80
  have HR0 := Aside0.mk hr0
  have HC0 := Aside0.mk hc0
  clear hr0 hc0
  have HR1_0 := Aside0.mk hr1_0
  have HC1_0 := Aside0.mk hc1_0
  clear hr1_0 hc1_0
  have HR1_1 := Aside0.mk hr1_1
  have HC1_1 := Aside0.mk hc1_1
  clear hr1_1 hc1_1
  have HB := Aside0.mk (Below.refl w.heap.size w)
  have H : ((spec_KeepOk.f k l0).bind fun t1018 => (if t1018 = true then (if (l1_0.length : Int) = (l0.length : Int) then (spec_l7Form.j0 k l0 ((l1_1.length : Int) != (l0.length : Int)) l1_0 l1_1) else (spec_l7Form.j0 k l0 true l1_0 l1_1)) else (spec_l7Form.j0 k l0 true l1_0 l1_1))) = some r := h
  clear h
  have HC3 := Aside0.mk H
  clear H
  go_enter Try.func110, Try.ntmps110
  go_upto_region 1 with (first | ((with_reducible refine gate_dst (N := 3) rfl ?_); (try (refine gate_guard (by rfl) ?_; dsimp only)); refine box_event ?hg (N := 3) ?hd (cs := #[.slice A1_0 l1_0.length c1_0, .slice A1_1 l1_1.length c1_1]) (t := 80) ?hr ?_; (case hd => rfl); (case hg => rfl); (case hr => first | (go_simp; done) | (go_simp; rfl)); intro gb1017 hg w4 hbox hb; have n0_ := Aside0.mk (below_step (by repeat (first | (with_reducible first | exact HB.out | apply below_alloc | apply pw_below_drewN | apply below_drew1) | exact HB.out)) hb); have n1_ := Aside0.mk (hbox); have n2_ := Aside0.mk ((by rw [hg]; exact (below_size (by repeat (first | (with_reducible first | exact HB.out | apply below_alloc | apply pw_below_drewN | apply below_drew1) | exact HB.out))) : w.heap.size ≤ gb1017)); have n3_ := Aside0.mk ((by rw [hg]; exact (below_size (by repeat (first | (with_reducible first | exact HB.out | apply below_alloc | apply pw_below_drewN | apply below_drew1) | exact HB.out))) : w.heap.size ≤ gb1017)); clear HB; have HB := n0_; have BK1017 := n1_; have GW1017 := n2_; have GE1017 := n3_; clear n0_ n1_ n2_ n3_; clear hb hbox hg))
  skip
  (try simp only [Act.put, List.setIfInBounds_toArray, List.set_cons_zero, List.set_cons_succ])
  go_cut [27] (fun v27 wc => ∃ (kq : Nat) (x27_2 : Bool), v27 = .bool x27_2 ∧ Aside0 (spec_l7Form.j0 kq l0 x27_2 l1_0 l1_1 = some r) ∧ Aside0 (kq ≤ k) ∧ Aside0 (wc.heap[gb1017]? = some (.cells #[(.slice A1_0 l1_0.length c1_0), (.slice A1_1 l1_1.length c1_1)] 80 (0, 0))) ∧ Aside0 (Below w.heap.size w wc))
  case first =>
    have H := HC3.out
    clear HC3
    replace H := Option.bind_eq_some_iff.mp H
    obtain ⟨t1018, A50, H⟩ := H
    replace H : (if t1018 = true then (if (l1_0.length : Int) = (l0.length : Int) then (spec_l7Form.j0 k l0 ((l1_1.length : Int) != (l0.length : Int)) l1_0 l1_1) else (spec_l7Form.j0 k l0 true l1_0 l1_1)) else (spec_l7Form.j0 k l0 true l1_0 l1_1)) = some r := H
    have A5 := Aside0.mk A50
    clear A50
    by_cases c6 : t1018 = true
    · subst c6
      have H1 : (if (l1_0.length : Int) = (l0.length : Int) then (spec_l7Form.j0 k l0 ((l1_1.length : Int) != (l0.length : Int)) l1_0 l1_1) else (spec_l7Form.j0 k l0 true l1_0 l1_1)) = some r := by rw [if_pos rfl] at H; exact H
      clear H
      have H := H1
      clear H1
      by_cases c7 : (l1_0.length : Int) = (l0.length : Int)
      · rw [if_pos c7] at H
        have c7b0 : ((l1_0.length : Int) == (l0.length : Int)) = true := beq_iff_eq.mpr c7
        have c7b1 : ((l1_0.length : Int) != (l0.length : Int)) = false := bne_eq_false_iff_eq.mpr c7
        have c7b2 : (l1_0.length == l0.length) = true := by first | simpa using c7 | (simp at c7 ⊢; omega)
        clear c7
        (first | rw [c7b0] | (simp only [i64_w, i32_w]; rw [c7b0]) | (have cn_ := c7b0; simp only [bne] at cn_; rw [cn_]; clear cn_) | skip)
        have H' := Aside0.mk H
        clear H
        go_wp2_with (first | (go_at_call 30; (with_reducible refine (spec_KeepOk.calls k _ _ l0 true _ ?side1 ?side2 A5.out).mono ?_); (case side1 => repeat (first | exact (Kd.C_below HR0.out HB.out) | (with_reducible refine Kd.C_alloc ?_ _) | (with_reducible refine Kd.C_drewN ?_ _) | (with_reducible refine Kd.C_drew ?_))); (case side2 => exact HC0.out); rintro e w8 ⟨rfl, hb⟩; have n0_ := Aside0.mk (blk_below (g := gb1017) (o := .cells #[.slice A1_0 l1_0.length c1_0, .slice A1_1 l1_1.length c1_1] 80 (0, 0)) (by (with_reducible repeat (first | refine blk_drewN ?_ _ | refine blk_drew ?_ | refine blk_alloc ?_ _)); exact BK1017.out) hb); have n1_ := Aside0.mk (below_step (by repeat (first | (with_reducible first | exact HB.out | apply below_alloc | apply pw_below_drewN | apply below_drew1 | refine below_set ?_ GE1017.out) | exact HB.out)) hb); clear BK1017; clear HB; have BK1017 := n0_; have HB := n1_; clear n0_ n1_; (try clear hb); (try clear hb2); (try clear hk); (try clear hi); have hcz9_0 : w8.cell? ⟨gb1017, 0, none⟩ = some (.slice A1_0 l1_0.length c1_0) := (blk_cell BK1017.out 0).trans rfl; have hcz9_1 : w8.cell? ⟨gb1017, 1, none⟩ = some (.slice A1_1 l1_1.length c1_1) := (blk_cell BK1017.out 1).trans rfl; have hfz9_0 := blk_frozen BK1017.out 0; have hfz9_1 := blk_frozen BK1017.out 1))
        skip
        go_meet
        case rel => exact ⟨_, (((l1_1.length : Int) != (l0.length : Int))), (by first | rfl | (simp; done) | (simp [*]; done)), H', ⟨by first | omega | exact Nat.le_refl _⟩, ⟨by (with_reducible repeat (first | refine blk_drewN ?_ _ | refine blk_drew ?_ | refine blk_alloc ?_ _)); exact BK1017.out⟩, ⟨by repeat (first | (with_reducible first | exact HB.out | apply below_alloc | apply pw_below_drewN | apply below_drew1 | refine below_set ?_ GE1017.out) | exact HB.out)⟩⟩
      · rw [if_neg c7] at H
        have c7b0 : ((l1_0.length : Int) == (l0.length : Int)) = false := beq_eq_false_iff_ne.mpr c7
        have c7b1 : ((l1_0.length : Int) != (l0.length : Int)) = true := bne_iff_ne.mpr c7
        have c7b2 : (l1_0.length == l0.length) = false := by first | simpa using c7 | (simp at c7 ⊢; omega)
        (first | rw [c7b0] | (simp only [i64_w, i32_w]; rw [c7b0]) | (have cn_ := c7b0; simp only [bne] at cn_; rw [cn_]; clear cn_) | skip)
        have H' := Aside0.mk H
        clear H
        go_wp2_with (first | (go_at_call 30; (with_reducible refine (spec_KeepOk.calls k _ _ l0 true _ ?side1 ?side2 A5.out).mono ?_); (case side1 => repeat (first | exact (Kd.C_below HR0.out HB.out) | (with_reducible refine Kd.C_alloc ?_ _) | (with_reducible refine Kd.C_drewN ?_ _) | (with_reducible refine Kd.C_drew ?_))); (case side2 => exact HC0.out); rintro e w10 ⟨rfl, hb⟩; have n0_ := Aside0.mk (blk_below (g := gb1017) (o := .cells #[.slice A1_0 l1_0.length c1_0, .slice A1_1 l1_1.length c1_1] 80 (0, 0)) (by (with_reducible repeat (first | refine blk_drewN ?_ _ | refine blk_drew ?_ | refine blk_alloc ?_ _)); exact BK1017.out) hb); have n1_ := Aside0.mk (below_step (by repeat (first | (with_reducible first | exact HB.out | apply below_alloc | apply pw_below_drewN | apply below_drew1 | refine below_set ?_ GE1017.out) | exact HB.out)) hb); clear BK1017; clear HB; have BK1017 := n0_; have HB := n1_; clear n0_ n1_; (try clear hb); (try clear hb2); (try clear hk); (try clear hi); have hcz11_0 : w10.cell? ⟨gb1017, 0, none⟩ = some (.slice A1_0 l1_0.length c1_0) := (blk_cell BK1017.out 0).trans rfl; have hcz11_1 : w10.cell? ⟨gb1017, 1, none⟩ = some (.slice A1_1 l1_1.length c1_1) := (blk_cell BK1017.out 1).trans rfl; have hfz11_0 := blk_frozen BK1017.out 0; have hfz11_1 := blk_frozen BK1017.out 1))
        skip
        go_meet
        case rel => exact ⟨_, (true), (by first | rfl | (simp; done) | (simp [*]; done)), H', ⟨by first | omega | exact Nat.le_refl _⟩, ⟨by (with_reducible repeat (first | refine blk_drewN ?_ _ | refine blk_drew ?_ | refine blk_alloc ?_ _)); exact BK1017.out⟩, ⟨by repeat (first | (with_reducible first | exact HB.out | apply below_alloc | apply pw_below_drewN | apply below_drew1 | refine below_set ?_ GE1017.out) | exact HB.out)⟩⟩
    · replace c6 := Bool.eq_false_iff.mpr c6
      subst c6
      have H1 : (spec_l7Form.j0 k l0 true l1_0 l1_1) = some r := by rw [if_neg (show ¬ (false = true) by decide)] at H; exact H
      clear H
      have H := H1
      clear H1
      have H' := Aside0.mk H
      clear H
      go_wp2_with (first | (go_at_call 30; (with_reducible refine (spec_KeepOk.calls k _ _ l0 false _ ?side1 ?side2 A5.out).mono ?_); (case side1 => repeat (first | exact (Kd.C_below HR0.out HB.out) | (with_reducible refine Kd.C_alloc ?_ _) | (with_reducible refine Kd.C_drewN ?_ _) | (with_reducible refine Kd.C_drew ?_))); (case side2 => exact HC0.out); rintro e w12 ⟨rfl, hb⟩; have n0_ := Aside0.mk (blk_below (g := gb1017) (o := .cells #[.slice A1_0 l1_0.length c1_0, .slice A1_1 l1_1.length c1_1] 80 (0, 0)) (by (with_reducible repeat (first | refine blk_drewN ?_ _ | refine blk_drew ?_ | refine blk_alloc ?_ _)); exact BK1017.out) hb); have n1_ := Aside0.mk (below_step (by repeat (first | (with_reducible first | exact HB.out | apply below_alloc | apply pw_below_drewN | apply below_drew1 | refine below_set ?_ GE1017.out) | exact HB.out)) hb); clear BK1017; clear HB; have BK1017 := n0_; have HB := n1_; clear n0_ n1_; (try clear hb); (try clear hb2); (try clear hk); (try clear hi)))
      skip
      go_meet
      case rel => exact ⟨_, (true), (by first | rfl | (simp; done) | (simp [*]; done)), H', ⟨by first | omega | exact Nat.le_refl _⟩, ⟨by (with_reducible repeat (first | refine blk_drewN ?_ _ | refine blk_drew ?_ | refine blk_alloc ?_ _)); exact BK1017.out⟩, ⟨by repeat (first | (with_reducible first | exact HB.out | apply below_alloc | apply pw_below_drewN | apply below_drew1 | refine below_set ?_ GE1017.out) | exact HB.out)⟩⟩
  case rest =>
    clear HC3
    try clear c1
    try clear p2
    try clear c6
    try clear c7
    try clear c7b0
    try clear c7b1
    try clear c7b2
    try clear c11
    try clear hcz11_0
    try clear hcz11_1
    try clear hcz9_0
    try clear hcz9_1
    try clear hfz11_0
    try clear hfz11_1
    try clear hfz9_0
    try clear hfz9_1
    obtain ⟨kq, x27_2, rfl, HA, HJ2, BK1017, HB⟩ := hcut
    cases kq with
    | zero => exact absurd HA.out (by simp [spec_l7Form.j0])
    | succ kj2 =>
      have H := HA.out
      clear HA
      simp only [spec_l7Form.j0] at H
      by_cases c13 : x27_2 = true
      · subst c13
        have H1 : (some false) = some r := by rw [if_pos rfl] at H; exact H
        clear H
        have H := H1
        clear H1
        obtain rfl := Option.some.inj H
        go_wp2
        skip
        go_ret
        exact ⟨by first | rfl | (simp [errW_none, errW_some] <;> rfl) | (simp [*, errW_none, errW_some] <;> rfl), by repeat (first | (with_reducible first | exact HB.out | apply below_alloc | apply pw_below_drewN | apply below_drew1 | refine below_set ?_ GE1017.out) | exact HB.out)⟩
      · replace c13 := Bool.eq_false_iff.mpr c13
        subst c13
        have H1 : (spec_l7Form.l0 kj2 l0 0 0 l1_0 l1_1) = some r := by rw [if_neg (show ¬ (false = true) by decide)] at H; exact H
        clear H
        have H := H1
        clear H1
        have H' := Aside0.mk H
        clear H
        go_wp2
        skip
        go_loopg [5, 6] kj2 (fun kq v5 v6 w' => ∃ (x5_2 : Int) (x6_2 : Int), v5 = .int .i64 x5_2 ∧ v6 = .int .i64 x6_2 ∧ Aside0 (spec_l7Form.l0 kq l0 x5_2 x6_2 l1_0 l1_1 = some r) ∧ Aside0 (kq ≤ kj2) ∧ Aside0 (w'.heap[gb1017]? = some (.cells #[(.slice A1_0 l1_0.length c1_0), (.slice A1_1 l1_1.length c1_1)] 80 (0, 0))) ∧ Aside0 (Below w.heap.size w w'))
        case atStart => exact ⟨(0), (0), (by first | rfl | (simp; done) | (simp [*]; done)), (by first | rfl | (simp; done) | (simp [*]; done)), H', ⟨Nat.le_refl _⟩, ⟨by (with_reducible repeat (first | refine blk_drewN ?_ _ | refine blk_drew ?_ | refine blk_alloc ?_ _)); exact BK1017.out⟩, ⟨by repeat (first | (with_reducible first | exact HB.out | apply below_alloc | apply pw_below_drewN | apply below_drew1 | refine below_set ?_ GE1017.out) | exact HB.out)⟩⟩
        case round =>
          clear H'
          try clear c1
          try clear p2
          try clear c6
          try clear c7
          try clear c7b0
          try clear c7b1
          try clear c7b2
          try clear c11
          try clear c13
          try clear hcz11_0
          try clear hcz11_1
          try clear hcz9_0
          try clear hcz9_1
          try clear hfz11_0
          try clear hfz11_1
          try clear hfz9_0
          try clear hfz9_1
          try clear p2
          obtain ⟨x5_2, x6_2, rfl, rfl, HA, HK2, BK1017, HB⟩ := hrel
          cases gk with
          | zero => exact absurd HA.out (by simp [spec_l7Form.l0])
          | succ k2 =>
            have H := HA.out
            clear HA
            simp only [spec_l7Form.l0] at H
            by_cases c14 : x6_2 < (l0.length : Int)
            · rw [if_pos c14] at H
              have c14b0 : decide (x6_2 < (l0.length : Int)) = true := decide_eq_true c14
              clear c14
              by_cases c15 : 0 ≤ x6_2
              · rw [if_pos c15] at H
                have c15b0 : decide (0 ≤ x6_2) = true := decide_eq_true c15
                clear c15
                by_cases c16 : x6_2 < (l1_0.length : Int)
                · rw [if_pos c16] at H
                  have c16b0 : decide (x6_2 < (l1_0.length : Int)) = true := decide_eq_true c16
                  clear c16
                  by_cases c17 : (rd l1_0 x6_2) = x5_2
                  · rw [if_pos c17] at H
                    have c17b0 : ((rd l1_0 x6_2) == x5_2) = true := beq_iff_eq.mpr c17
                    have c17b1 : ((rd l1_0 x6_2) != x5_2) = false := bne_eq_false_iff_eq.mpr c17
                    clear c17
                    have H' := Aside0.mk H
                    clear H
                    have hcz18_0 : wr.cell? ⟨gb1017, 0, none⟩ = some (.slice A1_0 l1_0.length c1_0) := (blk_cell BK1017.out 0).trans rfl
                    have hcz18_1 : wr.cell? ⟨gb1017, 1, none⟩ = some (.slice A1_1 l1_1.length c1_1) := (blk_cell BK1017.out 1).trans rfl
                    have hfz18_0 := blk_frozen BK1017.out 0
                    have hfz18_1 := blk_frozen BK1017.out 1
                    have p1019 : 0 ≤ (x6_2 : Int) := of_decide_eq_true (by first | (with_reducible assumption) | assumption)
                    have q1019 : x6_2 < (l1_0.length : Int) := of_decide_eq_true (by first | (with_reducible assumption) | assumption)
                    obtain ⟨ad1019, e1019, hx1019_0⟩ := Kd.at_int HR1_0.out x6_2 p1019 q1019
                    cases e1019
                    replace hx1019_0 := (HB.out.cell (World.block_lt_of_cell? w _ hx1019_0)).trans hx1019_0
                    replace p1019 := eq_true p1019
                    replace q1019 := eq_true q1019
                    go_wp2
                    skip
                    go_loopg [7] k2 (fun kq v7 w' => ∃ (x7_3 : Int), v7 = .int .i64 x7_3 ∧ Aside0 (spec_l7Form.l1 kq l0 x5_2 x6_2 x7_3 l1_0 l1_1 = some r) ∧ Aside0 (kq ≤ k2) ∧ Aside0 (w'.heap[gb1017]? = some (.cells #[(.slice (some ad1019) l1_0.length c1_0), (.slice A1_1 l1_1.length c1_1)] 80 (0, 0))) ∧ Aside0 (Below w.heap.size w w'))
                    case atStart => exact ⟨(0), (by first | rfl | (simp; done) | (simp [*]; done)), H', ⟨Nat.le_refl _⟩, ⟨by (with_reducible repeat (first | refine blk_drewN ?_ _ | refine blk_drew ?_ | refine blk_alloc ?_ _)); exact BK1017.out⟩, ⟨by repeat (first | (with_reducible first | exact HB.out | apply below_alloc | apply pw_below_drewN | apply below_drew1 | refine below_set ?_ GE1017.out) | exact HB.out)⟩⟩
                    case round =>
                      clear H'
                      try clear c1
                      try clear p1
                      try clear q1
                      try clear hx1
                      try clear p2
                      try clear c6
                      try clear c7
                      try clear c7b0
                      try clear c7b1
                      try clear c7b2
                      try clear p10
                      try clear q10
                      try clear hx10
                      try clear c11
                      try clear c13
                      try clear c14
                      try clear c14b0
                      try clear c15
                      try clear c15b0
                      try clear c16
                      try clear c16b0
                      try clear c17
                      try clear c17b0
                      try clear c17b1
                      try clear hcz11_0
                      try clear hcz11_1
                      try clear hcz18_0
                      try clear hcz18_1
                      try clear hcz9_0
                      try clear hcz9_1
                      try clear hfz11_0
                      try clear hfz11_1
                      try clear hfz18_0
                      try clear hfz18_1
                      try clear hfz9_0
                      try clear hfz9_1
                      try clear hx1019_0
                      try clear p1019
                      try clear p2
                      try clear q1019
                      obtain ⟨x7_3, rfl, HA, HK3, BK1017, HB⟩ := hrel
                      cases gk with
                      | zero => exact absurd HA.out (by simp [spec_l7Form.l1])
                      | succ k3 =>
                        have H := HA.out
                        clear HA
                        simp only [spec_l7Form.l1] at H
                        by_cases c19 : 0 ≤ x6_2
                        · rw [if_pos c19] at H
                          have c19b0 : decide (0 ≤ x6_2) = true := decide_eq_true c19
                          clear c19
                          by_cases c20 : x6_2 < (l1_1.length : Int)
                          · rw [if_pos c20] at H
                            have c20b0 : decide (x6_2 < (l1_1.length : Int)) = true := decide_eq_true c20
                            clear c20
                            by_cases c21 : x7_3 < ((rd_L14 l1_1 x6_2).length : Int)
                            · rw [if_pos c21] at H
                              have c21b0 : decide (x7_3 < ((rd_L14 l1_1 x6_2).length : Int)) = true := decide_eq_true c21
                              clear c21
                              by_cases c22 : 0 ≤ x7_3
                              · rw [if_pos c22] at H
                                have c22b0 : decide (0 ≤ x7_3) = true := decide_eq_true c22
                                clear c22
                                replace H := Option.bind_eq_some_iff.mp H
                                obtain ⟨t1025, A230, H⟩ := H
                                replace H : (if t1025 < 0 then (some false) else (spec_l7Form.l2 k3 l0 x5_2 x6_2 x7_3 0 l1_0 l1_1)) = some r := H
                                have A23 := Aside0.mk A230
                                clear A230
                                by_cases c24 : t1025 < 0
                                · rw [if_pos c24] at H
                                  have c24b0 : decide (t1025 < 0) = true := decide_eq_true c24
                                  clear c24
                                  obtain rfl := Option.some.inj H
                                  have hcz25_0 : wr.cell? ⟨gb1017, 0, none⟩ = some (.slice (some ad1019) l1_0.length c1_0) := (blk_cell BK1017.out 0).trans rfl
                                  have hcz25_1 : wr.cell? ⟨gb1017, 1, none⟩ = some (.slice A1_1 l1_1.length c1_1) := (blk_cell BK1017.out 1).trans rfl
                                  have hfz25_0 := blk_frozen BK1017.out 0
                                  have hfz25_1 := blk_frozen BK1017.out 1
                                  have p1020 : 0 ≤ (x6_2 : Int) := of_decide_eq_true (by first | (with_reducible assumption) | assumption)
                                  have q1020 : x6_2 < (l1_1.length : Int) := of_decide_eq_true (by first | (with_reducible assumption) | assumption)
                                  obtain ⟨ad1020, A1020_0, c1020_0, e1020, hx1020_0, hl1020_0, hi1020_0⟩ := at_L14 HR1_1.out x6_2 p1020 q1020
                                  cases e1020
                                  replace hx1020_0 := (HB.out.cell (World.block_lt_of_cell? w _ hx1020_0)).trans hx1020_0
                                  have HR1020_0 := Aside0.mk hi1020_0
                                  have HC1020_0 := Aside0.mk hl1020_0
                                  clear hi1020_0 hl1020_0
                                  replace p1020 := eq_true p1020
                                  replace q1020 := eq_true q1020
                                  have p1023 : 0 ≤ (x6_2 : Int) := of_decide_eq_true (by first | (with_reducible assumption) | assumption)
                                  have q1023 : x6_2 < (l1_1.length : Int) := of_decide_eq_true (by first | (with_reducible assumption) | assumption)
                                  obtain ⟨ad1023, A1023_0, c1023_0, e1023, hx1023_0, hl1023_0, hi1023_0⟩ := at_L14 HR1_1.out x6_2 p1023 q1023
                                  obtain rfl : ad1020 = ad1023 := (by injection e1023)
                                  replace hx1023_0 := (HB.out.cell (World.block_lt_of_cell? w _ hx1023_0)).trans hx1023_0
                                  have HR1023_0 := Aside0.mk hi1023_0
                                  have HC1023_0 := Aside0.mk hl1023_0
                                  clear hi1023_0 hl1023_0
                                  replace p1023 := eq_true p1023
                                  replace q1023 := eq_true q1023
                                  have ea_ := Option.some.inj (hx1020_0.symm.trans hx1023_0)
                                  injection ea_ with ea_ en_ ec_
                                  subst ea_
                                  subst ec_
                                  clear en_
                                  have p1024 : 0 ≤ (x7_3 : Int) := of_decide_eq_true (by first | (with_reducible assumption) | assumption)
                                  have q1024 : x7_3 < ((rd_L14 l1_1 x6_2).length : Int) := of_decide_eq_true (by first | (with_reducible assumption) | assumption)
                                  obtain ⟨ad1024, e1024, hx1024_0⟩ := Kd.at_string HR1023_0.out x7_3 p1024 q1024
                                  cases e1024
                                  replace hx1024_0 := (HB.out.cell (World.block_lt_of_cell? w _ hx1024_0)).trans hx1024_0
                                  replace p1024 := eq_true p1024
                                  replace q1024 := eq_true q1024
                                  go_wp2_with (first | (go_at_call 72; (with_reducible refine (spec_l2Find.calls k3 _ _ l0 (rdOf ByteArray.empty (rd_L14 l1_1 x6_2) x7_3) t1025 _ ?side1 ?side2 A23.out).mono ?_); (case side1 => repeat (first | exact (Kd.C_below HR0.out HB.out) | (with_reducible refine Kd.C_alloc ?_ _) | (with_reducible refine Kd.C_drewN ?_ _) | (with_reducible refine Kd.C_drew ?_))); (case side2 => exact HC0.out); rintro e w' ⟨rfl, ⟨nd, rfl⟩⟩; (try first | exact ⟨rfl, _, World.drewN_drewN _ _ _⟩ | exact ⟨rfl, _, Eq.trans (World.drewN_drewN _ _ _) (congrArg (World.drewN _) (Nat.add_assoc _ _ _))⟩)))
                                  skip
                                  go_ret
                                  exact ⟨by first | rfl | (simp [errW_none, errW_some] <;> rfl) | (simp [*, errW_none, errW_some] <;> rfl), by repeat (first | (with_reducible first | exact HB.out | apply below_alloc | apply pw_below_drewN | apply below_drew1 | refine below_set ?_ GE1017.out) | exact HB.out)⟩
                                · rw [if_neg c24] at H
                                  have c24b0 : decide (t1025 < 0) = false := decide_eq_false c24
                                  clear c24
                                  have H' := Aside0.mk H
                                  clear H
                                  have hcz26_0 : wr.cell? ⟨gb1017, 0, none⟩ = some (.slice (some ad1019) l1_0.length c1_0) := (blk_cell BK1017.out 0).trans rfl
                                  have hcz26_1 : wr.cell? ⟨gb1017, 1, none⟩ = some (.slice A1_1 l1_1.length c1_1) := (blk_cell BK1017.out 1).trans rfl
                                  have hfz26_0 := blk_frozen BK1017.out 0
                                  have hfz26_1 := blk_frozen BK1017.out 1
                                  have p1020 : 0 ≤ (x6_2 : Int) := of_decide_eq_true (by first | (with_reducible assumption) | assumption)
                                  have q1020 : x6_2 < (l1_1.length : Int) := of_decide_eq_true (by first | (with_reducible assumption) | assumption)
                                  obtain ⟨ad1020, A1020_0, c1020_0, e1020, hx1020_0, hl1020_0, hi1020_0⟩ := at_L14 HR1_1.out x6_2 p1020 q1020
                                  cases e1020
                                  replace hx1020_0 := (HB.out.cell (World.block_lt_of_cell? w _ hx1020_0)).trans hx1020_0
                                  have HR1020_0 := Aside0.mk hi1020_0
                                  have HC1020_0 := Aside0.mk hl1020_0
                                  clear hi1020_0 hl1020_0
                                  replace p1020 := eq_true p1020
                                  replace q1020 := eq_true q1020
                                  have p1023 : 0 ≤ (x6_2 : Int) := of_decide_eq_true (by first | (with_reducible assumption) | assumption)
                                  have q1023 : x6_2 < (l1_1.length : Int) := of_decide_eq_true (by first | (with_reducible assumption) | assumption)
                                  obtain ⟨ad1023, A1023_0, c1023_0, e1023, hx1023_0, hl1023_0, hi1023_0⟩ := at_L14 HR1_1.out x6_2 p1023 q1023
                                  obtain rfl : ad1020 = ad1023 := (by injection e1023)
                                  replace hx1023_0 := (HB.out.cell (World.block_lt_of_cell? w _ hx1023_0)).trans hx1023_0
                                  have HR1023_0 := Aside0.mk hi1023_0
                                  have HC1023_0 := Aside0.mk hl1023_0
                                  clear hi1023_0 hl1023_0
                                  replace p1023 := eq_true p1023
                                  replace q1023 := eq_true q1023
                                  have ea_ := Option.some.inj (hx1020_0.symm.trans hx1023_0)
                                  injection ea_ with ea_ en_ ec_
                                  subst ea_
                                  subst ec_
                                  clear en_
                                  have p1024 : 0 ≤ (x7_3 : Int) := of_decide_eq_true (by first | (with_reducible assumption) | assumption)
                                  have q1024 : x7_3 < ((rd_L14 l1_1 x6_2).length : Int) := of_decide_eq_true (by first | (with_reducible assumption) | assumption)
                                  obtain ⟨ad1024, e1024, hx1024_0⟩ := Kd.at_string HR1023_0.out x7_3 p1024 q1024
                                  cases e1024
                                  replace hx1024_0 := (HB.out.cell (World.block_lt_of_cell? w _ hx1024_0)).trans hx1024_0
                                  replace p1024 := eq_true p1024
                                  replace q1024 := eq_true q1024
                                  go_wp2_with (first | (go_at_call 72; (with_reducible refine (spec_l2Find.calls k3 _ _ l0 (rdOf ByteArray.empty (rd_L14 l1_1 x6_2) x7_3) t1025 _ ?side1 ?side2 A23.out).mono ?_); (case side1 => repeat (first | exact (Kd.C_below HR0.out HB.out) | (with_reducible refine Kd.C_alloc ?_ _) | (with_reducible refine Kd.C_drewN ?_ _) | (with_reducible refine Kd.C_drew ?_))); (case side2 => exact HC0.out); rintro e w' ⟨rfl, ⟨nd, rfl⟩⟩; (try first | exact ⟨rfl, _, World.drewN_drewN _ _ _⟩ | exact ⟨rfl, _, Eq.trans (World.drewN_drewN _ _ _) (congrArg (World.drewN _) (Nat.add_assoc _ _ _))⟩)))
                                  skip
                                  go_loopg [8] k3 (fun kq v8 w' => ∃ (x8_4 : Int), v8 = .int .i64 x8_4 ∧ Aside0 (spec_l7Form.l2 kq l0 x5_2 x6_2 x7_3 x8_4 l1_0 l1_1 = some r) ∧ Aside0 (kq ≤ k3) ∧ Aside0 (w'.heap[gb1017]? = some (.cells #[(.slice (some ad1019) l1_0.length c1_0), (.slice (some ad1020) l1_1.length c1_1)] 80 (0, 0))) ∧ Aside0 (Below w.heap.size w w'))
                                  case atStart => exact ⟨(0), (by first | rfl | (simp; done) | (simp [*]; done)), H', ⟨Nat.le_refl _⟩, ⟨by (with_reducible repeat (first | refine blk_drewN ?_ _ | refine blk_drew ?_ | refine blk_alloc ?_ _)); exact BK1017.out⟩, ⟨by repeat (first | (with_reducible first | exact HB.out | apply below_alloc | apply pw_below_drewN | apply below_drew1 | refine below_set ?_ GE1017.out) | exact HB.out)⟩⟩
                                  case round =>
                                    clear H'
                                    try clear c1
                                    try clear p1
                                    try clear q1
                                    try clear hx1
                                    try clear c2
                                    try clear p2
                                    try clear c6
                                    try clear c7
                                    try clear c7b0
                                    try clear c7b1
                                    try clear c7b2
                                    try clear c10
                                    try clear p10
                                    try clear q10
                                    try clear hx10
                                    try clear c11
                                    try clear c13
                                    try clear c14
                                    try clear c14b0
                                    try clear c15
                                    try clear c15b0
                                    try clear c16
                                    try clear c16b0
                                    try clear c17
                                    try clear c17b0
                                    try clear c17b1
                                    try clear c19
                                    try clear c19b0
                                    try clear c20
                                    try clear c20b0
                                    try clear c21
                                    try clear c21b0
                                    try clear c22
                                    try clear c22b0
                                    try clear c24
                                    try clear c24b0
                                    try clear hcz11_0
                                    try clear hcz11_1
                                    try clear hcz18_0
                                    try clear hcz18_1
                                    try clear hcz25_0
                                    try clear hcz25_1
                                    try clear hcz26_0
                                    try clear hcz26_1
                                    try clear hcz9_0
                                    try clear hcz9_1
                                    try clear hfz11_0
                                    try clear hfz11_1
                                    try clear hfz18_0
                                    try clear hfz18_1
                                    try clear hfz25_0
                                    try clear hfz25_1
                                    try clear hfz26_0
                                    try clear hfz26_1
                                    try clear hfz9_0
                                    try clear hfz9_1
                                    try clear hx1019_0
                                    try clear hx1020_0
                                    try clear hx1023_0
                                    try clear hx1024_0
                                    try clear p1
                                    try clear p10
                                    try clear p1019
                                    try clear p1020
                                    try clear p1023
                                    try clear p1024
                                    try clear p2
                                    try clear q1
                                    try clear q10
                                    try clear q1019
                                    try clear q1020
                                    try clear q1023
                                    try clear q1024
                                    obtain ⟨x8_4, rfl, HA, HK4, BK1017, HB⟩ := hrel
                                    cases gk with
                                    | zero => exact absurd HA.out (by simp [spec_l7Form.l2])
                                    | succ k4 =>
                                      have H := HA.out
                                      clear HA
                                      simp only [spec_l7Form.l2] at H
                                      by_cases c27 : x8_4 < x7_3
                                      · rw [if_pos c27] at H
                                        have c27b0 : decide (x8_4 < x7_3) = true := decide_eq_true c27
                                        clear c27
                                        by_cases c28 : 0 ≤ x6_2
                                        · rw [if_pos c28] at H
                                          have c28b0 : decide (0 ≤ x6_2) = true := decide_eq_true c28
                                          clear c28
                                          by_cases c29 : x6_2 < (l1_1.length : Int)
                                          · rw [if_pos c29] at H
                                            have c29b0 : decide (x6_2 < (l1_1.length : Int)) = true := decide_eq_true c29
                                            clear c29
                                            by_cases c30 : 0 ≤ x8_4
                                            · rw [if_pos c30] at H
                                              have c30b0 : decide (0 ≤ x8_4) = true := decide_eq_true c30
                                              clear c30
                                              by_cases c31 : x8_4 < ((rd_L14 l1_1 x6_2).length : Int)
                                              · rw [if_pos c31] at H
                                                have c31b0 : decide (x8_4 < ((rd_L14 l1_1 x6_2).length : Int)) = true := decide_eq_true c31
                                                clear c31
                                                by_cases c32 : 0 ≤ x7_3
                                                · rw [if_pos c32] at H
                                                  have c32b0 : decide (0 ≤ x7_3) = true := decide_eq_true c32
                                                  clear c32
                                                  by_cases c33 : x7_3 < ((rd_L14 l1_1 x6_2).length : Int)
                                                  · rw [if_pos c33] at H
                                                    have c33b0 : decide (x7_3 < ((rd_L14 l1_1 x6_2).length : Int)) = true := decide_eq_true c33
                                                    clear c33
                                                    by_cases c34 : (rdOf ByteArray.empty (rd_L14 l1_1 x6_2) x8_4).toList = (rdOf ByteArray.empty (rd_L14 l1_1 x6_2) x7_3).toList
                                                    · rw [if_pos c34] at H
                                                      have c34b0 : ((rdOf ByteArray.empty (rd_L14 l1_1 x6_2) x8_4).toList == (rdOf ByteArray.empty (rd_L14 l1_1 x6_2) x7_3).toList) = true := beq_iff_eq.mpr c34
                                                      have c34b1 : ((rdOf ByteArray.empty (rd_L14 l1_1 x6_2) x8_4).toList != (rdOf ByteArray.empty (rd_L14 l1_1 x6_2) x7_3).toList) = false := bne_eq_false_iff_eq.mpr c34
                                                      clear c34
                                                      obtain rfl := Option.some.inj H
                                                      have hcz35_0 : wr.cell? ⟨gb1017, 0, none⟩ = some (.slice (some ad1019) l1_0.length c1_0) := (blk_cell BK1017.out 0).trans rfl
                                                      have hcz35_1 : wr.cell? ⟨gb1017, 1, none⟩ = some (.slice (some ad1020) l1_1.length c1_1) := (blk_cell BK1017.out 1).trans rfl
                                                      have hfz35_0 := blk_frozen BK1017.out 0
                                                      have hfz35_1 := blk_frozen BK1017.out 1
                                                      have p1026 : 0 ≤ (x6_2 : Int) := of_decide_eq_true (by first | (with_reducible assumption) | assumption)
                                                      have q1026 : x6_2 < (l1_1.length : Int) := of_decide_eq_true (by first | (with_reducible assumption) | assumption)
                                                      obtain ⟨ad1026, A1026_0, c1026_0, e1026, hx1026_0, hl1026_0, hi1026_0⟩ := at_L14 HR1_1.out x6_2 p1026 q1026
                                                      obtain rfl : ad1020 = ad1026 := (by injection e1026)
                                                      replace hx1026_0 := (HB.out.cell (World.block_lt_of_cell? w _ hx1026_0)).trans hx1026_0
                                                      have HR1026_0 := Aside0.mk hi1026_0
                                                      have HC1026_0 := Aside0.mk hl1026_0
                                                      clear hi1026_0 hl1026_0
                                                      replace p1026 := eq_true p1026
                                                      replace q1026 := eq_true q1026
                                                      have p1027 : 0 ≤ (x8_4 : Int) := of_decide_eq_true (by first | (with_reducible assumption) | assumption)
                                                      have q1027 : x8_4 < ((rd_L14 l1_1 x6_2).length : Int) := of_decide_eq_true (by first | (with_reducible assumption) | assumption)
                                                      obtain ⟨ad1027, e1027, hx1027_0⟩ := Kd.at_string HR1026_0.out x8_4 p1027 q1027
                                                      cases e1027
                                                      replace hx1027_0 := (HB.out.cell (World.block_lt_of_cell? w _ hx1027_0)).trans hx1027_0
                                                      replace p1027 := eq_true p1027
                                                      replace q1027 := eq_true q1027
                                                      have p1028 : 0 ≤ (x6_2 : Int) := of_decide_eq_true (by first | (with_reducible assumption) | assumption)
                                                      have q1028 : x6_2 < (l1_1.length : Int) := of_decide_eq_true (by first | (with_reducible assumption) | assumption)
                                                      obtain ⟨ad1028, A1028_0, c1028_0, e1028, hx1028_0, hl1028_0, hi1028_0⟩ := at_L14 HR1_1.out x6_2 p1028 q1028
                                                      obtain rfl : ad1020 = ad1028 := (by injection e1028)
                                                      replace hx1028_0 := (HB.out.cell (World.block_lt_of_cell? w _ hx1028_0)).trans hx1028_0
                                                      have HR1028_0 := Aside0.mk hi1028_0
                                                      have HC1028_0 := Aside0.mk hl1028_0
                                                      clear hi1028_0 hl1028_0
                                                      replace p1028 := eq_true p1028
                                                      replace q1028 := eq_true q1028
                                                      have ea_ := Option.some.inj (hx1026_0.symm.trans hx1028_0)
                                                      injection ea_ with ea_ en_ ec_
                                                      subst ea_
                                                      subst ec_
                                                      clear en_
                                                      have p1029 : 0 ≤ (x7_3 : Int) := of_decide_eq_true (by first | (with_reducible assumption) | assumption)
                                                      have q1029 : x7_3 < ((rd_L14 l1_1 x6_2).length : Int) := of_decide_eq_true (by first | (with_reducible assumption) | assumption)
                                                      obtain ⟨ad1029, e1029, hx1029_0⟩ := Kd.at_string HR1028_0.out x7_3 p1029 q1029
                                                      cases e1029
                                                      replace hx1029_0 := (HB.out.cell (World.block_lt_of_cell? w _ hx1029_0)).trans hx1029_0
                                                      replace p1029 := eq_true p1029
                                                      replace q1029 := eq_true q1029
                                                      go_wp2
                                                      repeat (go_quiet (fail); try go_wp2)
                                                      go_ret
                                                      exact ⟨by first | rfl | (simp [errW_none, errW_some] <;> rfl) | (simp [*, errW_none, errW_some] <;> rfl), by repeat (first | (with_reducible first | exact HB.out | apply below_alloc | apply pw_below_drewN | apply below_drew1 | refine below_set ?_ GE1017.out) | exact HB.out)⟩
                                                    · rw [if_neg c34] at H
                                                      have c34b0 : ((rdOf ByteArray.empty (rd_L14 l1_1 x6_2) x8_4).toList == (rdOf ByteArray.empty (rd_L14 l1_1 x6_2) x7_3).toList) = false := beq_eq_false_iff_ne.mpr c34
                                                      have c34b1 : ((rdOf ByteArray.empty (rd_L14 l1_1 x6_2) x8_4).toList != (rdOf ByteArray.empty (rd_L14 l1_1 x6_2) x7_3).toList) = true := bne_iff_ne.mpr c34
                                                      have H' := Aside0.mk H
                                                      clear H
                                                      have hcz36_0 : wr.cell? ⟨gb1017, 0, none⟩ = some (.slice (some ad1019) l1_0.length c1_0) := (blk_cell BK1017.out 0).trans rfl
                                                      have hcz36_1 : wr.cell? ⟨gb1017, 1, none⟩ = some (.slice (some ad1020) l1_1.length c1_1) := (blk_cell BK1017.out 1).trans rfl
                                                      have hfz36_0 := blk_frozen BK1017.out 0
                                                      have hfz36_1 := blk_frozen BK1017.out 1
                                                      have p1026 : 0 ≤ (x6_2 : Int) := of_decide_eq_true (by first | (with_reducible assumption) | assumption)
                                                      have q1026 : x6_2 < (l1_1.length : Int) := of_decide_eq_true (by first | (with_reducible assumption) | assumption)
                                                      obtain ⟨ad1026, A1026_0, c1026_0, e1026, hx1026_0, hl1026_0, hi1026_0⟩ := at_L14 HR1_1.out x6_2 p1026 q1026
                                                      obtain rfl : ad1020 = ad1026 := (by injection e1026)
                                                      replace hx1026_0 := (HB.out.cell (World.block_lt_of_cell? w _ hx1026_0)).trans hx1026_0
                                                      have HR1026_0 := Aside0.mk hi1026_0
                                                      have HC1026_0 := Aside0.mk hl1026_0
                                                      clear hi1026_0 hl1026_0
                                                      replace p1026 := eq_true p1026
                                                      replace q1026 := eq_true q1026
                                                      have p1027 : 0 ≤ (x8_4 : Int) := of_decide_eq_true (by first | (with_reducible assumption) | assumption)
                                                      have q1027 : x8_4 < ((rd_L14 l1_1 x6_2).length : Int) := of_decide_eq_true (by first | (with_reducible assumption) | assumption)
                                                      obtain ⟨ad1027, e1027, hx1027_0⟩ := Kd.at_string HR1026_0.out x8_4 p1027 q1027
                                                      cases e1027
                                                      replace hx1027_0 := (HB.out.cell (World.block_lt_of_cell? w _ hx1027_0)).trans hx1027_0
                                                      replace p1027 := eq_true p1027
                                                      replace q1027 := eq_true q1027
                                                      have p1028 : 0 ≤ (x6_2 : Int) := of_decide_eq_true (by first | (with_reducible assumption) | assumption)
                                                      have q1028 : x6_2 < (l1_1.length : Int) := of_decide_eq_true (by first | (with_reducible assumption) | assumption)
                                                      obtain ⟨ad1028, A1028_0, c1028_0, e1028, hx1028_0, hl1028_0, hi1028_0⟩ := at_L14 HR1_1.out x6_2 p1028 q1028
                                                      obtain rfl : ad1020 = ad1028 := (by injection e1028)
                                                      replace hx1028_0 := (HB.out.cell (World.block_lt_of_cell? w _ hx1028_0)).trans hx1028_0
                                                      have HR1028_0 := Aside0.mk hi1028_0
                                                      have HC1028_0 := Aside0.mk hl1028_0
                                                      clear hi1028_0 hl1028_0
                                                      replace p1028 := eq_true p1028
                                                      replace q1028 := eq_true q1028
                                                      have ea_ := Option.some.inj (hx1026_0.symm.trans hx1028_0)
                                                      injection ea_ with ea_ en_ ec_
                                                      subst ea_
                                                      subst ec_
                                                      clear en_
                                                      have p1029 : 0 ≤ (x7_3 : Int) := of_decide_eq_true (by first | (with_reducible assumption) | assumption)
                                                      have q1029 : x7_3 < ((rd_L14 l1_1 x6_2).length : Int) := of_decide_eq_true (by first | (with_reducible assumption) | assumption)
                                                      obtain ⟨ad1029, e1029, hx1029_0⟩ := Kd.at_string HR1028_0.out x7_3 p1029 q1029
                                                      cases e1029
                                                      replace hx1029_0 := (HB.out.cell (World.block_lt_of_cell? w _ hx1029_0)).trans hx1029_0
                                                      replace p1029 := eq_true p1029
                                                      replace q1029 := eq_true q1029
                                                      go_wp2
                                                      repeat (go_quiet (fail); try go_wp2)
                                                      go_roundg k4
                                                      case measure => have := HJ2.out; have := HK2.out; have := HK3.out; have := HK4.out; omega
                                                      case rel => exact ⟨(wrap64 (x8_4 + 1)), (by first | rfl | (simp; done) | (simp [*]; done)), H', ⟨by have := HJ2.out; have := HK2.out; have := HK3.out; have := HK4.out; omega⟩, ⟨by (with_reducible repeat (first | refine blk_drewN ?_ _ | refine blk_drew ?_ | refine blk_alloc ?_ _)); exact BK1017.out⟩, ⟨by repeat (first | (with_reducible first | exact HB.out | apply below_alloc | apply pw_below_drewN | apply below_drew1 | refine below_set ?_ GE1017.out) | exact HB.out)⟩⟩
                                                  · rw [if_neg c33] at H
                                                    exact absurd H (by simp)
                                                · rw [if_neg c32] at H
                                                  exact absurd H (by simp)
                                              · rw [if_neg c31] at H
                                                exact absurd H (by simp)
                                            · rw [if_neg c30] at H
                                              exact absurd H (by simp)
                                          · rw [if_neg c29] at H
                                            exact absurd H (by simp)
                                        · rw [if_neg c28] at H
                                          exact absurd H (by simp)
                                      · rw [if_neg c27] at H
                                        have c27b0 : decide (x8_4 < x7_3) = false := decide_eq_false c27
                                        clear c27
                                        have H' := Aside0.mk H
                                        clear H
                                        go_wp2
                                        skip
                                        go_roundg k4
                                        case measure => have := HJ2.out; have := HK2.out; have := HK3.out; have := HK4.out; omega
                                        case rel => exact ⟨(wrap64 (x7_3 + 1)), (by first | rfl | (simp; done) | (simp [*]; done)), H', ⟨by have := HJ2.out; have := HK2.out; have := HK3.out; have := HK4.out; omega⟩, ⟨by (with_reducible repeat (first | refine blk_drewN ?_ _ | refine blk_drew ?_ | refine blk_alloc ?_ _)); exact BK1017.out⟩, ⟨by repeat (first | (with_reducible first | exact HB.out | apply below_alloc | apply pw_below_drewN | apply below_drew1 | refine below_set ?_ GE1017.out) | exact HB.out)⟩⟩
                              · rw [if_neg c22] at H
                                exact absurd H (by simp)
                            · rw [if_neg c21] at H
                              have c21b0 : decide (x7_3 < ((rd_L14 l1_1 x6_2).length : Int)) = false := decide_eq_false c21
                              clear c21
                              by_cases c37 : x6_2 < (l0.length : Int)
                              · rw [if_pos c37] at H
                                have c37b0 : decide (x6_2 < (l0.length : Int)) = true := decide_eq_true c37
                                clear c37
                                have H' := Aside0.mk H
                                clear H
                                have hcz38_0 : wr.cell? ⟨gb1017, 0, none⟩ = some (.slice (some ad1019) l1_0.length c1_0) := (blk_cell BK1017.out 0).trans rfl
                                have hcz38_1 : wr.cell? ⟨gb1017, 1, none⟩ = some (.slice A1_1 l1_1.length c1_1) := (blk_cell BK1017.out 1).trans rfl
                                have hfz38_0 := blk_frozen BK1017.out 0
                                have hfz38_1 := blk_frozen BK1017.out 1
                                have p1020 : 0 ≤ (x6_2 : Int) := of_decide_eq_true (by first | (with_reducible assumption) | assumption)
                                have q1020 : x6_2 < (l1_1.length : Int) := of_decide_eq_true (by first | (with_reducible assumption) | assumption)
                                obtain ⟨ad1020, A1020_0, c1020_0, e1020, hx1020_0, hl1020_0, hi1020_0⟩ := at_L14 HR1_1.out x6_2 p1020 q1020
                                cases e1020
                                replace hx1020_0 := (HB.out.cell (World.block_lt_of_cell? w _ hx1020_0)).trans hx1020_0
                                have HR1020_0 := Aside0.mk hi1020_0
                                have HC1020_0 := Aside0.mk hl1020_0
                                clear hi1020_0 hl1020_0
                                replace p1020 := eq_true p1020
                                replace q1020 := eq_true q1020
                                have p1021 : 0 ≤ (x6_2 : Int) := of_decide_eq_true (by first | (with_reducible assumption) | assumption)
                                have q1021 : x6_2 < (l0.length : Int) := of_decide_eq_true (by first | (with_reducible assumption) | assumption)
                                obtain ⟨ad1021, A1021_2, c1021_2, e1021, hx1021_0, hx1021_1, hx1021_2, hl1021_2, hi1021_2⟩ := at_T52 HR0.out x6_2 p1021 q1021
                                cases e1021
                                replace hx1021_0 := (HB.out.cell (World.block_lt_of_cell? w _ hx1021_0)).trans hx1021_0
                                replace hx1021_1 := (HB.out.cell (World.block_lt_of_cell? w _ hx1021_1)).trans hx1021_1
                                replace hx1021_2 := (HB.out.cell (World.block_lt_of_cell? w _ hx1021_2)).trans hx1021_2
                                have HR1021_2 := Aside0.mk hi1021_2
                                have HC1021_2 := Aside0.mk hl1021_2
                                clear hi1021_2 hl1021_2
                                replace p1021 := eq_true p1021
                                replace q1021 := eq_true q1021
                                have p1022 : 0 ≤ (x6_2 : Int) := of_decide_eq_true (by first | (with_reducible assumption) | assumption)
                                have q1022 : x6_2 < (l1_1.length : Int) := of_decide_eq_true (by first | (with_reducible assumption) | assumption)
                                obtain ⟨ad1022, A1022_0, c1022_0, e1022, hx1022_0, hl1022_0, hi1022_0⟩ := at_L14 HR1_1.out x6_2 p1022 q1022
                                obtain rfl : ad1020 = ad1022 := (by injection e1022)
                                replace hx1022_0 := (HB.out.cell (World.block_lt_of_cell? w _ hx1022_0)).trans hx1022_0
                                have HR1022_0 := Aside0.mk hi1022_0
                                have HC1022_0 := Aside0.mk hl1022_0
                                clear hi1022_0 hl1022_0
                                replace p1022 := eq_true p1022
                                replace q1022 := eq_true q1022
                                have ea_ := Option.some.inj (hx1020_0.symm.trans hx1022_0)
                                injection ea_ with ea_ en_ ec_
                                subst ea_
                                subst ec_
                                clear en_
                                go_wp2
                                repeat (go_quiet (fail); try go_wp2)
                                go_roundg k3
                                case measure => have := HJ2.out; have := HK2.out; have := HK3.out; omega
                                case rel => exact ⟨(wrap64 ((wrap64 (x5_2 + (((rd_T52 l0 x6_2).f2).length : Int))) + ((rd_L14 l1_1 x6_2).length : Int))), (wrap64 (x6_2 + 1)), (by first | rfl | (simp; done) | (simp [*]; done)), (by first | rfl | (simp; done) | (simp [*]; done)), H', ⟨by have := HJ2.out; have := HK2.out; have := HK3.out; omega⟩, ⟨by (with_reducible repeat (first | refine blk_drewN ?_ _ | refine blk_drew ?_ | refine blk_alloc ?_ _)); exact BK1017.out⟩, ⟨by repeat (first | (with_reducible first | exact HB.out | apply below_alloc | apply pw_below_drewN | apply below_drew1 | refine below_set ?_ GE1017.out) | exact HB.out)⟩⟩
                              · rw [if_neg c37] at H
                                exact absurd H (by simp)
                          · rw [if_neg c20] at H
                            exact absurd H (by simp)
                        · rw [if_neg c19] at H
                          exact absurd H (by simp)
                  · rw [if_neg c17] at H
                    have c17b0 : ((rd l1_0 x6_2) == x5_2) = false := beq_eq_false_iff_ne.mpr c17
                    have c17b1 : ((rd l1_0 x6_2) != x5_2) = true := bne_iff_ne.mpr c17
                    obtain rfl := Option.some.inj H
                    have hcz39_0 : wr.cell? ⟨gb1017, 0, none⟩ = some (.slice A1_0 l1_0.length c1_0) := (blk_cell BK1017.out 0).trans rfl
                    have hcz39_1 : wr.cell? ⟨gb1017, 1, none⟩ = some (.slice A1_1 l1_1.length c1_1) := (blk_cell BK1017.out 1).trans rfl
                    have hfz39_0 := blk_frozen BK1017.out 0
                    have hfz39_1 := blk_frozen BK1017.out 1
                    have p1019 : 0 ≤ (x6_2 : Int) := of_decide_eq_true (by first | (with_reducible assumption) | assumption)
                    have q1019 : x6_2 < (l1_0.length : Int) := of_decide_eq_true (by first | (with_reducible assumption) | assumption)
                    obtain ⟨ad1019, e1019, hx1019_0⟩ := Kd.at_int HR1_0.out x6_2 p1019 q1019
                    cases e1019
                    replace hx1019_0 := (HB.out.cell (World.block_lt_of_cell? w _ hx1019_0)).trans hx1019_0
                    replace p1019 := eq_true p1019
                    replace q1019 := eq_true q1019
                    go_wp2
                    skip
                    go_ret
                    exact ⟨by first | rfl | (simp [errW_none, errW_some] <;> rfl) | (simp [*, errW_none, errW_some] <;> rfl), by repeat (first | (with_reducible first | exact HB.out | apply below_alloc | apply pw_below_drewN | apply below_drew1 | refine below_set ?_ GE1017.out) | exact HB.out)⟩
                · rw [if_neg c16] at H
                  exact absurd H (by simp)
              · rw [if_neg c15] at H
                exact absurd H (by simp)
            · rw [if_neg c14] at H
              have c14b0 : decide (x6_2 < (l0.length : Int)) = false := decide_eq_false c14
              clear c14
              obtain rfl := Option.some.inj H
              go_wp2
              skip
              go_ret
              exact ⟨by first | rfl | (simp [errW_none, errW_some] <;> rfl) | (simp [*, errW_none, errW_some] <;> rfl), by repeat (first | (with_reducible first | exact HB.out | apply below_alloc | apply pw_below_drewN | apply below_drew1 | refine below_set ?_ GE1017.out) | exact HB.out)⟩

/-! ### spec_l7Stone: function 111 -/
def spec_l7Stone.f (l0 : List (S52)) (l1_0 : List Int) (l1_1 : List (List ByteArray)) (a2 : Int) (a3 : Int) : Option (Int) := if 0 ≤ a2 then (if a2 < (l1_0.length : Int) then (if a2 < (l0.length : Int) then (some (wrap64 ((wrap64 ((rd l1_0 a2) + (((rd_T52 l0 a2).f2).length : Int))) + a3))) else (none)) else (none)) else (none)
set_option maxHeartbeats 8000000 in
set_option maxRecDepth 100000 in
theorem spec_l7Stone.calls (A0 : Option Addr) (c0 : Nat) (l0 : List (S52)) (A1_0 : Option Addr) (c1_0 : Nat) (l1_0 : List Int) (A1_1 : Option Addr) (c1_1 : Nat) (l1_1 : List (List ByteArray)) (a2 : Int) (a3 : Int) (r : Int) (w : World) (hr0 : Kd.C k52 w A0 l0.length l0) (hc0 : l0.length ≤ c0) (hr1_0 : Kd.C (Kd.int .i64) w A1_0 l1_0.length l1_0) (hc1_0 : l1_0.length ≤ c1_0) (hr1_1 : Kd.C (Kd.slice 9 Kd.string) w A1_1 l1_1.length l1_1) (hc1_1 : l1_1.length ≤ c1_1) (h : spec_l7Stone.f l0 l1_0 l1_1 a2 a3 = some r) :
    Calls Try.prog 111 #[.slice A0 l0.length c0, .agg #[.slice A1_0 l1_0.length c1_0, .slice A1_1 l1_1.length c1_1], .int .i64 a2, .int .i64 a3] w fun e w' => e = .returned (.int .i64 r) ∧ Below w.heap.size w w' := by
  have hu80 := Try.underlying80
  have HR0 := Aside0.mk hr0
  have HC0 := Aside0.mk hc0
  clear hr0 hc0
  have HR1_0 := Aside0.mk hr1_0
  have HC1_0 := Aside0.mk hc1_0
  clear hr1_0 hc1_0
  have HR1_1 := Aside0.mk hr1_1
  have HC1_1 := Aside0.mk hc1_1
  clear hr1_1 hc1_1
  have HB := Aside0.mk (Below.refl w.heap.size w)
  have H : (if 0 ≤ a2 then (if a2 < (l1_0.length : Int) then (if a2 < (l0.length : Int) then (some (wrap64 ((wrap64 ((rd l1_0 a2) + (((rd_T52 l0 a2).f2).length : Int))) + a3))) else (none)) else (none)) else (none)) = some r := h
  clear h
  by_cases c5 : 0 ≤ a2
  · rw [if_pos c5] at H
    have c5b0 : decide (0 ≤ a2) = true := decide_eq_true c5
    clear c5
    by_cases c6 : a2 < (l1_0.length : Int)
    · rw [if_pos c6] at H
      have c6b0 : decide (a2 < (l1_0.length : Int)) = true := decide_eq_true c6
      clear c6
      by_cases c7 : a2 < (l0.length : Int)
      · rw [if_pos c7] at H
        have c7b0 : decide (a2 < (l0.length : Int)) = true := decide_eq_true c7
        clear c7
        obtain rfl := Option.some.inj H
        go_enter Try.func111, Try.ntmps111
        go_wp2_with (first | ((with_reducible refine gate_dst (N := 5) rfl ?_); refine box_event ?hg (N := 5) ?hd (cs := #[.slice A1_0 l1_0.length c1_0, .slice A1_1 l1_1.length c1_1]) (t := 80) ?hr ?_; (case hd => rfl); (case hg => rfl); (case hr => first | (go_simp; done) | (go_simp; rfl)); intro gb1030 hg w8 hbox hb; have n0_ := Aside0.mk (below_step (by repeat (first | (with_reducible first | exact HB.out | apply below_alloc | apply pw_below_drewN | apply below_drew1) | exact HB.out)) hb); have n1_ := Aside0.mk (hbox); have n2_ := Aside0.mk ((by rw [hg]; exact (below_size (by repeat (first | (with_reducible first | exact HB.out | apply below_alloc | apply pw_below_drewN | apply below_drew1) | exact HB.out))) : w.heap.size ≤ gb1030)); have n3_ := Aside0.mk ((by rw [hg]; exact (below_size (by repeat (first | (with_reducible first | exact HB.out | apply below_alloc | apply pw_below_drewN | apply below_drew1) | exact HB.out))) : w.heap.size ≤ gb1030)); clear HB; have HB := n0_; have BK1030 := n1_; have GW1030 := n2_; have GE1030 := n3_; clear n0_ n1_ n2_ n3_; clear hb hbox hg; have hcz9_0 : w8.cell? ⟨gb1030, 0, none⟩ = some (.slice A1_0 l1_0.length c1_0) := (blk_cell BK1030.out 0).trans rfl; have hcz9_1 : w8.cell? ⟨gb1030, 1, none⟩ = some (.slice A1_1 l1_1.length c1_1) := (blk_cell BK1030.out 1).trans rfl; have hfz9_0 := blk_frozen BK1030.out 0; have hfz9_1 := blk_frozen BK1030.out 1; have p1031 : 0 ≤ (a2 : Int) := of_decide_eq_true (by first | (with_reducible assumption) | assumption); have q1031 : a2 < (l1_0.length : Int) := of_decide_eq_true (by first | (with_reducible assumption) | assumption); obtain ⟨ad1031, e1031, hx1031_0⟩ := Kd.at_int HR1_0.out a2 p1031 q1031; cases e1031; replace hx1031_0 := (HB.out.cell (World.block_lt_of_cell? w _ hx1031_0)).trans hx1031_0; replace p1031 := eq_true p1031; replace q1031 := eq_true q1031; have p1032 : 0 ≤ (a2 : Int) := of_decide_eq_true (by first | (with_reducible assumption) | assumption); have q1032 : a2 < (l0.length : Int) := of_decide_eq_true (by first | (with_reducible assumption) | assumption); obtain ⟨ad1032, A1032_2, c1032_2, e1032, hx1032_0, hx1032_1, hx1032_2, hl1032_2, hi1032_2⟩ := at_T52 HR0.out a2 p1032 q1032; cases e1032; replace hx1032_0 := (HB.out.cell (World.block_lt_of_cell? w _ hx1032_0)).trans hx1032_0; replace hx1032_1 := (HB.out.cell (World.block_lt_of_cell? w _ hx1032_1)).trans hx1032_1; replace hx1032_2 := (HB.out.cell (World.block_lt_of_cell? w _ hx1032_2)).trans hx1032_2; have HR1032_2 := Aside0.mk hi1032_2; have HC1032_2 := Aside0.mk hl1032_2; clear hi1032_2 hl1032_2; replace p1032 := eq_true p1032; replace q1032 := eq_true q1032))
        repeat (go_quiet (first | ((with_reducible refine gate_dst (N := 5) rfl ?_); refine box_event ?hg (N := 5) ?hd (cs := #[.slice A1_0 l1_0.length c1_0, .slice A1_1 l1_1.length c1_1]) (t := 80) ?hr ?_; (case hd => rfl); (case hg => rfl); (case hr => first | (go_simp; done) | (go_simp; rfl)); intro gb1030 hg w8 hbox hb; have n0_ := Aside0.mk (below_step (by repeat (first | (with_reducible first | exact HB.out | apply below_alloc | apply pw_below_drewN | apply below_drew1) | exact HB.out)) hb); have n1_ := Aside0.mk (hbox); have n2_ := Aside0.mk ((by rw [hg]; exact (below_size (by repeat (first | (with_reducible first | exact HB.out | apply below_alloc | apply pw_below_drewN | apply below_drew1) | exact HB.out))) : w.heap.size ≤ gb1030)); have n3_ := Aside0.mk ((by rw [hg]; exact (below_size (by repeat (first | (with_reducible first | exact HB.out | apply below_alloc | apply pw_below_drewN | apply below_drew1) | exact HB.out))) : w.heap.size ≤ gb1030)); clear HB; have HB := n0_; have BK1030 := n1_; have GW1030 := n2_; have GE1030 := n3_; clear n0_ n1_ n2_ n3_; clear hb hbox hg; have hcz9_0 : w8.cell? ⟨gb1030, 0, none⟩ = some (.slice A1_0 l1_0.length c1_0) := (blk_cell BK1030.out 0).trans rfl; have hcz9_1 : w8.cell? ⟨gb1030, 1, none⟩ = some (.slice A1_1 l1_1.length c1_1) := (blk_cell BK1030.out 1).trans rfl; have hfz9_0 := blk_frozen BK1030.out 0; have hfz9_1 := blk_frozen BK1030.out 1; have p1031 : 0 ≤ (a2 : Int) := of_decide_eq_true (by first | (with_reducible assumption) | assumption); have q1031 : a2 < (l1_0.length : Int) := of_decide_eq_true (by first | (with_reducible assumption) | assumption); obtain ⟨ad1031, e1031, hx1031_0⟩ := Kd.at_int HR1_0.out a2 p1031 q1031; cases e1031; replace hx1031_0 := (HB.out.cell (World.block_lt_of_cell? w _ hx1031_0)).trans hx1031_0; replace p1031 := eq_true p1031; replace q1031 := eq_true q1031; have p1032 : 0 ≤ (a2 : Int) := of_decide_eq_true (by first | (with_reducible assumption) | assumption); have q1032 : a2 < (l0.length : Int) := of_decide_eq_true (by first | (with_reducible assumption) | assumption); obtain ⟨ad1032, A1032_2, c1032_2, e1032, hx1032_0, hx1032_1, hx1032_2, hl1032_2, hi1032_2⟩ := at_T52 HR0.out a2 p1032 q1032; cases e1032; replace hx1032_0 := (HB.out.cell (World.block_lt_of_cell? w _ hx1032_0)).trans hx1032_0; replace hx1032_1 := (HB.out.cell (World.block_lt_of_cell? w _ hx1032_1)).trans hx1032_1; replace hx1032_2 := (HB.out.cell (World.block_lt_of_cell? w _ hx1032_2)).trans hx1032_2; have HR1032_2 := Aside0.mk hi1032_2; have HC1032_2 := Aside0.mk hl1032_2; clear hi1032_2 hl1032_2; replace p1032 := eq_true p1032; replace q1032 := eq_true q1032)); try go_wp2_with (first | ((with_reducible refine gate_dst (N := 5) rfl ?_); refine box_event ?hg (N := 5) ?hd (cs := #[.slice A1_0 l1_0.length c1_0, .slice A1_1 l1_1.length c1_1]) (t := 80) ?hr ?_; (case hd => rfl); (case hg => rfl); (case hr => first | (go_simp; done) | (go_simp; rfl)); intro gb1030 hg w8 hbox hb; have n0_ := Aside0.mk (below_step (by repeat (first | (with_reducible first | exact HB.out | apply below_alloc | apply pw_below_drewN | apply below_drew1) | exact HB.out)) hb); have n1_ := Aside0.mk (hbox); have n2_ := Aside0.mk ((by rw [hg]; exact (below_size (by repeat (first | (with_reducible first | exact HB.out | apply below_alloc | apply pw_below_drewN | apply below_drew1) | exact HB.out))) : w.heap.size ≤ gb1030)); have n3_ := Aside0.mk ((by rw [hg]; exact (below_size (by repeat (first | (with_reducible first | exact HB.out | apply below_alloc | apply pw_below_drewN | apply below_drew1) | exact HB.out))) : w.heap.size ≤ gb1030)); clear HB; have HB := n0_; have BK1030 := n1_; have GW1030 := n2_; have GE1030 := n3_; clear n0_ n1_ n2_ n3_; clear hb hbox hg; have hcz9_0 : w8.cell? ⟨gb1030, 0, none⟩ = some (.slice A1_0 l1_0.length c1_0) := (blk_cell BK1030.out 0).trans rfl; have hcz9_1 : w8.cell? ⟨gb1030, 1, none⟩ = some (.slice A1_1 l1_1.length c1_1) := (blk_cell BK1030.out 1).trans rfl; have hfz9_0 := blk_frozen BK1030.out 0; have hfz9_1 := blk_frozen BK1030.out 1; have p1031 : 0 ≤ (a2 : Int) := of_decide_eq_true (by first | (with_reducible assumption) | assumption); have q1031 : a2 < (l1_0.length : Int) := of_decide_eq_true (by first | (with_reducible assumption) | assumption); obtain ⟨ad1031, e1031, hx1031_0⟩ := Kd.at_int HR1_0.out a2 p1031 q1031; cases e1031; replace hx1031_0 := (HB.out.cell (World.block_lt_of_cell? w _ hx1031_0)).trans hx1031_0; replace p1031 := eq_true p1031; replace q1031 := eq_true q1031; have p1032 : 0 ≤ (a2 : Int) := of_decide_eq_true (by first | (with_reducible assumption) | assumption); have q1032 : a2 < (l0.length : Int) := of_decide_eq_true (by first | (with_reducible assumption) | assumption); obtain ⟨ad1032, A1032_2, c1032_2, e1032, hx1032_0, hx1032_1, hx1032_2, hl1032_2, hi1032_2⟩ := at_T52 HR0.out a2 p1032 q1032; cases e1032; replace hx1032_0 := (HB.out.cell (World.block_lt_of_cell? w _ hx1032_0)).trans hx1032_0; replace hx1032_1 := (HB.out.cell (World.block_lt_of_cell? w _ hx1032_1)).trans hx1032_1; replace hx1032_2 := (HB.out.cell (World.block_lt_of_cell? w _ hx1032_2)).trans hx1032_2; have HR1032_2 := Aside0.mk hi1032_2; have HC1032_2 := Aside0.mk hl1032_2; clear hi1032_2 hl1032_2; replace p1032 := eq_true p1032; replace q1032 := eq_true q1032)))
        go_ret
        exact ⟨by first | rfl | (simp [errW_none, errW_some] <;> rfl) | (simp [*, errW_none, errW_some] <;> rfl), by repeat (first | (with_reducible first | exact HB.out | apply below_alloc | apply pw_below_drewN | apply below_drew1 | refine below_set ?_ GE1030.out) | exact HB.out)⟩
      · rw [if_neg c7] at H
        exact absurd H (by simp)
    · rw [if_neg c6] at H
      exact absurd H (by simp)
  · rw [if_neg c5] at H
    exact absurd H (by simp)

end Go.Proofs.Ytppmalfpggkpdaa.P
