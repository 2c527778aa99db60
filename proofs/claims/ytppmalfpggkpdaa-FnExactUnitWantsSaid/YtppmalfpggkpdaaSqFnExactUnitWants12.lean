-- PxspecKeepOk, PximplFunRefs, LRefs, LLack, LWants, LUWants, LMarkF, PureFnExactUnitWants: put together by squash.py
import Derived.Test.YtppmalfpggkpdaaSqFnExactUnitWants3
import Derived.Test.YtppmalfpggkpdaaSqFnExactUnitWants7
import Derived.Test.YtppmalfpggkpdaaSqFnExactUnitWants8
import Derived.Test.YtppmalfpggkpdaaSqFnExactUnitWants9
import Derived.Test.YtppmalfpggkpdaaSqFnExactUnitWants6
import Derived.Test.YtppmalfpggkpdaaSqFnExactUnitWants11
import Derived.Test.YtppmalfpggkpdaaSqFnExactUnitWants10
import Derived.Test.YtppmalfpggkpdaaSqFnExactUnitWants5

-- made by printx.py (own driver over the kit's print); Lean checks it
namespace Go.Proofs.Ytppmalfpggkpdaa.P
open Go.RowKit Go.Proofs.YtppmalfpggkpdaaW.PrintWords Go.Proofs.YtppmalfpggkpdaaW.PrintLast Go.Proofs.YtppmalfpggkpdaaW.PrintMore
attribute [local go_sem] max2_int min2_int max_two min_two max_three min_three max_four min_four   -- for this text's walks alone
set_option linter.unusedVariables false
set_option linter.unusedSimpArgs false

/-! ### spec_KeepOk: function 30 -/
mutual
def spec_KeepOk.j0 : Nat → List (S52) → Bool → Option (Bool)
  | 0, _, _ => none
  | k + 1, x0, x14 => if x14 = true then (some false) else (spec_KeepOk.l0 k x0 0)
def spec_KeepOk.l0 : Nat → List (S52) → Int → Option (Bool)
  | 0, _, _ => none
  | k + 1, x0, x3 => if x3 < (x0.length : Int) then (if 0 ≤ x3 then ((spec_FunOk.f k ((rd_T52 x0 x3).f0) ((rd_T52 x0 x3).f1) ((rd_T52 x0 x3).f2)).bind fun t692 => (if t692 = true then ((spec_l2Find.f k x0 ((rd_T52 x0 x3).f0)).bind fun t694 => (if t694 = x3 then (spec_KeepOk.l0 k x0 (wrap64 (x3 + 1))) else (some false))) else (some false))) else (none)) else (spec_KeepOk.l1 k x0 0)
def spec_KeepOk.l1 : Nat → List (S52) → Int → Option (Bool)
  | 0, _, _ => none
  | k + 1, x0, x4 => if x4 < (x0.length : Int) then (if 0 ≤ x4 then ((spec_l2Refs.f k ((rd_T52 x0 x4).f2)).bind fun t696 => (spec_KeepOk.l2 k x0 x4 t696 0)) else (none)) else (some true)
def spec_KeepOk.l2 : Nat → List (S52) → Int → List ByteArray → Int → Option (Bool)
  | 0, _, _, _, _ => none
  | k + 1, x0, x4, x5, x6 => if x6 < (x5.length : Int) then (if 0 ≤ x6 then ((spec_l2Find.f k x0 (rdOf ByteArray.empty x5 x6)).bind fun t700 => (if t700 < 0 then (some false) else (spec_KeepOk.l2 k x0 x4 x5 (wrap64 (x6 + 1))))) else (none)) else (spec_KeepOk.l1 k x0 (wrap64 (x4 + 1)))
end
def spec_KeepOk.f (k : Nat) (l0 : List (S52)) : Option (Bool) := if (l0.length : Int) < 1 then (spec_KeepOk.j0 k l0 true) else (spec_KeepOk.j0 k l0 (decide ((l0.length : Int) > 40)))
theorem spec_KeepOk.mono_l : ∀ k, (∀ y0 y1, LeO (spec_KeepOk.j0 k y0 y1) (spec_KeepOk.j0 (k + 1) y0 y1)) ∧ (∀ y0 y1, LeO (spec_KeepOk.l0 k y0 y1) (spec_KeepOk.l0 (k + 1) y0 y1)) ∧ (∀ y0 y1, LeO (spec_KeepOk.l1 k y0 y1) (spec_KeepOk.l1 (k + 1) y0 y1)) ∧ (∀ y0 y1 y2 y3, LeO (spec_KeepOk.l2 k y0 y1 y2 y3) (spec_KeepOk.l2 (k + 1) y0 y1 y2 y3))
  | 0 => ⟨fun _ _ r h => by simp [spec_KeepOk.j0] at h, fun _ _ r h => by simp [spec_KeepOk.l0] at h, fun _ _ r h => by simp [spec_KeepOk.l1] at h, fun _ _ _ _ r h => by simp [spec_KeepOk.l2] at h⟩
  | k + 1 => by
    obtain ⟨ih0, ih1, ih2, ih3⟩ := spec_KeepOk.mono_l k
    refine ⟨?_, ?_, ?_, ?_⟩
    · intro y0 y1
      unfold spec_KeepOk.j0
      repeat' first
      | (with_reducible exact ih0 _ _)
      | (with_reducible exact ih1 _ _)
      | (with_reducible exact ih2 _ _)
      | (with_reducible exact ih3 _ _ _ _)
      | (with_reducible exact spec_FunOk.mono _ _ _ _)
      | (with_reducible exact spec_l2Find.mono _ _ _)
      | (with_reducible exact spec_l2Refs.mono _ _)
      | (with_reducible exact LeO.refl _)
      | (with_reducible exact LeO.none _)
      | (with_reducible refine LeO.ite ?_ ?_)
      | (with_reducible refine LeO.bind ?_ (fun _ => ?_))
      | exact ih0 _ _
      | exact ih1 _ _
      | exact ih2 _ _
      | exact ih3 _ _ _ _
      | exact spec_FunOk.mono _ _ _ _
      | exact spec_l2Find.mono _ _ _
      | exact spec_l2Refs.mono _ _
      | exact LeO.none _
      | refine LeO.ite ?_ ?_
      | refine LeO.bind ?_ (fun _ => ?_)
    · intro y0 y1
      unfold spec_KeepOk.l0
      repeat' first
      | (with_reducible exact ih0 _ _)
      | (with_reducible exact ih1 _ _)
      | (with_reducible exact ih2 _ _)
      | (with_reducible exact ih3 _ _ _ _)
      | (with_reducible exact spec_FunOk.mono _ _ _ _)
      | (with_reducible exact spec_l2Find.mono _ _ _)
      | (with_reducible exact spec_l2Refs.mono _ _)
      | (with_reducible exact LeO.refl _)
      | (with_reducible exact LeO.none _)
      | (with_reducible refine LeO.ite ?_ ?_)
      | (with_reducible refine LeO.bind ?_ (fun _ => ?_))
      | exact ih0 _ _
      | exact ih1 _ _
      | exact ih2 _ _
      | exact ih3 _ _ _ _
      | exact spec_FunOk.mono _ _ _ _
      | exact spec_l2Find.mono _ _ _
      | exact spec_l2Refs.mono _ _
      | exact LeO.none _
      | refine LeO.ite ?_ ?_
      | refine LeO.bind ?_ (fun _ => ?_)
    · intro y0 y1
      unfold spec_KeepOk.l1
      repeat' first
      | (with_reducible exact ih0 _ _)
      | (with_reducible exact ih1 _ _)
      | (with_reducible exact ih2 _ _)
      | (with_reducible exact ih3 _ _ _ _)
      | (with_reducible exact spec_FunOk.mono _ _ _ _)
      | (with_reducible exact spec_l2Find.mono _ _ _)
      | (with_reducible exact spec_l2Refs.mono _ _)
      | (with_reducible exact LeO.refl _)
      | (with_reducible exact LeO.none _)
      | (with_reducible refine LeO.ite ?_ ?_)
      | (with_reducible refine LeO.bind ?_ (fun _ => ?_))
      | exact ih0 _ _
      | exact ih1 _ _
      | exact ih2 _ _
      | exact ih3 _ _ _ _
      | exact spec_FunOk.mono _ _ _ _
      | exact spec_l2Find.mono _ _ _
      | exact spec_l2Refs.mono _ _
      | exact LeO.none _
      | refine LeO.ite ?_ ?_
      | refine LeO.bind ?_ (fun _ => ?_)
    · intro y0 y1 y2 y3
      unfold spec_KeepOk.l2
      repeat' first
      | (with_reducible exact ih0 _ _)
      | (with_reducible exact ih1 _ _)
      | (with_reducible exact ih2 _ _)
      | (with_reducible exact ih3 _ _ _ _)
      | (with_reducible exact spec_FunOk.mono _ _ _ _)
      | (with_reducible exact spec_l2Find.mono _ _ _)
      | (with_reducible exact spec_l2Refs.mono _ _)
      | (with_reducible exact LeO.refl _)
      | (with_reducible exact LeO.none _)
      | (with_reducible refine LeO.ite ?_ ?_)
      | (with_reducible refine LeO.bind ?_ (fun _ => ?_))
      | exact ih0 _ _
      | exact ih1 _ _
      | exact ih2 _ _
      | exact ih3 _ _ _ _
      | exact spec_FunOk.mono _ _ _ _
      | exact spec_l2Find.mono _ _ _
      | exact spec_l2Refs.mono _ _
      | exact LeO.none _
      | refine LeO.ite ?_ ?_
      | refine LeO.bind ?_ (fun _ => ?_)
theorem spec_KeepOk.mono : ∀ a0 k, LeO (spec_KeepOk.f k a0) (spec_KeepOk.f (k + 1) a0) := by
  intro a0 k
  obtain ⟨ih0, ih1, ih2, ih3⟩ := spec_KeepOk.mono_l k
  unfold spec_KeepOk.f
  repeat' first
      | (with_reducible exact ih0 _ _)
      | (with_reducible exact ih1 _ _)
      | (with_reducible exact ih2 _ _)
      | (with_reducible exact ih3 _ _ _ _)
      | (with_reducible exact spec_FunOk.mono _ _ _ _)
      | (with_reducible exact spec_l2Find.mono _ _ _)
      | (with_reducible exact spec_l2Refs.mono _ _)
      | (with_reducible exact LeO.refl _)
      | (with_reducible exact LeO.none _)
      | (with_reducible refine LeO.ite ?_ ?_)
      | (with_reducible refine LeO.bind ?_ (fun _ => ?_))
      | exact ih0 _ _
      | exact ih1 _ _
      | exact ih2 _ _
      | exact ih3 _ _ _ _
      | exact spec_FunOk.mono _ _ _ _
      | exact spec_l2Find.mono _ _ _
      | exact spec_l2Refs.mono _ _
      | exact LeO.none _
      | refine LeO.ite ?_ ?_
      | refine LeO.bind ?_ (fun _ => ?_)
set_option maxHeartbeats 8000000 in
set_option maxRecDepth 100000 in
theorem spec_KeepOk.calls (k : Nat) (A0 : Option Addr) (c0 : Nat) (l0 : List (S52)) (r : Bool) (w : World) (hr0 : Kd.C k52 w A0 l0.length l0) (hc0 : l0.length ≤ c0) (h : spec_KeepOk.f k l0 = some r) :
    Calls Try.prog 30 #[.slice A0 l0.length c0] w fun e w' => e = .returned (.bool r) ∧ Below w.heap.size w w' := by
  have hu52 := Try.underlying52
  have HR0 := Aside0.mk hr0
  have HC0 := Aside0.mk hc0
  clear hr0 hc0
  have HB := Aside0.mk (Below.refl w.heap.size w)
  have H : (if (l0.length : Int) < 1 then (spec_KeepOk.j0 k l0 true) else (spec_KeepOk.j0 k l0 (decide ((l0.length : Int) > 40)))) = some r := h
  clear h
  have HC2 := Aside0.mk H
  clear H
  go_enter Try.func30, Try.ntmps30
  go_upto_region 1 with (fail)
  go_cut [14] (fun v14 wc => ∃ (kq : Nat) (x14_1 : Bool), v14 = .bool x14_1 ∧ Aside0 (spec_KeepOk.j0 kq l0 x14_1 = some r) ∧ Aside0 (kq ≤ k) ∧ Aside0 (Below w.heap.size w wc))
  case first =>
    have H := HC2.out
    clear HC2
    by_cases c3 : (l0.length : Int) < 1
    · rw [if_pos c3] at H
      have c3b0 : decide ((l0.length : Int) < 1) = true := decide_eq_true c3
      have c3b1 : decide (l0.length < 1) = true := decide_eq_true (by omega)
      clear c3
      (first | rw [c3b0] | (simp only [i64_w, i32_w]; rw [c3b0]) | (have cn_ := c3b0; simp only [bne] at cn_; rw [cn_]; clear cn_) | skip)
      have H' := Aside0.mk H
      clear H
      go_wp2
      go_meet
      case rel => exact ⟨_, (true), (by first | rfl | (simp; done) | (simp [*]; done)), H', ⟨by first | omega | exact Nat.le_refl _⟩, ⟨by repeat (first | (with_reducible first | exact HB.out | apply below_alloc | apply pw_below_drewN | apply below_drew1) | exact HB.out)⟩⟩
    · rw [if_neg c3] at H
      have c3b0 : decide ((l0.length : Int) < 1) = false := decide_eq_false c3
      have c3b1 : decide (l0.length < 1) = false := decide_eq_false (by omega)
      clear c3
      (first | rw [c3b0] | (simp only [i64_w, i32_w]; rw [c3b0]) | (have cn_ := c3b0; simp only [bne] at cn_; rw [cn_]; clear cn_) | skip)
      have H' := Aside0.mk H
      clear H
      go_wp2
      go_meet
      case rel => exact ⟨_, (decide ((l0.length : Int) > 40)), (by first | rfl | (simp; done) | (simp [*]; done)), H', ⟨by first | omega | exact Nat.le_refl _⟩, ⟨by repeat (first | (with_reducible first | exact HB.out | apply below_alloc | apply pw_below_drewN | apply below_drew1) | exact HB.out)⟩⟩
  case rest =>
    clear HC2
    try clear p2
    try clear c3
    try clear c3b0
    try clear c3b1
    obtain ⟨kq, x14_1, rfl, HA, HJ1, HB⟩ := hcut
    cases kq with
    | zero => exact absurd HA.out (by simp [spec_KeepOk.j0])
    | succ kj1 =>
      have H := HA.out
      clear HA
      simp only [spec_KeepOk.j0] at H
      by_cases c4 : x14_1 = true
      · subst c4
        have H1 : (some false) = some r := by rw [if_pos rfl] at H; exact H
        clear H
        have H := H1
        clear H1
        obtain rfl := Option.some.inj H
        go_wp2
        go_ret
        exact ⟨by first | rfl | (simp [errW_none, errW_some] <;> rfl) | (simp [*, errW_none, errW_some] <;> rfl), by repeat (first | (with_reducible first | exact HB.out | apply below_alloc | apply pw_below_drewN | apply below_drew1) | exact HB.out)⟩
      · replace c4 := Bool.eq_false_iff.mpr c4
        subst c4
        have H1 : (spec_KeepOk.l0 kj1 l0 0) = some r := by rw [if_neg (show ¬ (false = true) by decide)] at H; exact H
        clear H
        have H := H1
        clear H1
        have H' := Aside0.mk H
        clear H
        go_wp2
        go_loopg [3] kj1 (fun kq v3 w' => ∃ (x3_2 : Int), v3 = .int .i64 x3_2 ∧ Aside0 (spec_KeepOk.l0 kq l0 x3_2 = some r) ∧ Aside0 (kq ≤ kj1) ∧ Aside0 (Below w.heap.size w w'))
        case atStart => exact ⟨(0), (by first | rfl | (simp; done) | (simp [*]; done)), H', ⟨Nat.le_refl _⟩, ⟨by repeat (first | (with_reducible first | exact HB.out | apply below_alloc | apply pw_below_drewN | apply below_drew1) | exact HB.out)⟩⟩
        case round =>
          clear H'
          try clear p2
          try clear c3
          try clear c3b0
          try clear c3b1
          try clear c4
          try clear p2
          obtain ⟨x3_2, rfl, HA, HK2, HB⟩ := hrel
          cases gk with
          | zero => exact absurd HA.out (by simp [spec_KeepOk.l0])
          | succ k2 =>
            have H := HA.out
            clear HA
            simp only [spec_KeepOk.l0] at H
            by_cases c5 : x3_2 < (l0.length : Int)
            · rw [if_pos c5] at H
              have c5b0 : decide (x3_2 < (l0.length : Int)) = true := decide_eq_true c5
              clear c5
              by_cases c6 : 0 ≤ x3_2
              · rw [if_pos c6] at H
                have c6b0 : decide (0 ≤ x3_2) = true := decide_eq_true c6
                clear c6
                replace H := Option.bind_eq_some_iff.mp H
                obtain ⟨t692, A70, H⟩ := H
                replace H : (if t692 = true then ((spec_l2Find.f k2 l0 ((rd_T52 l0 x3_2).f0)).bind fun t694 => (if t694 = x3_2 then (spec_KeepOk.l0 k2 l0 (wrap64 (x3_2 + 1))) else (some false))) else (some false)) = some r := H
                have A7 := Aside0.mk A70
                clear A70
                by_cases c8 : t692 = true
                · subst c8
                  have H1 : ((spec_l2Find.f k2 l0 ((rd_T52 l0 x3_2).f0)).bind fun t694 => (if t694 = x3_2 then (spec_KeepOk.l0 k2 l0 (wrap64 (x3_2 + 1))) else (some false))) = some r := by rw [if_pos rfl] at H; exact H
                  clear H
                  have H := H1
                  clear H1
                  replace H := Option.bind_eq_some_iff.mp H
                  obtain ⟨t694, A90, H⟩ := H
                  replace H : (if t694 = x3_2 then (spec_KeepOk.l0 k2 l0 (wrap64 (x3_2 + 1))) else (some false)) = some r := H
                  have A9 := Aside0.mk A90
                  clear A90
                  by_cases c10 : t694 = x3_2
                  · rw [if_pos c10] at H
                    have c10b0 : (t694 == x3_2) = true := beq_iff_eq.mpr c10
                    have c10b1 : (t694 != x3_2) = false := bne_eq_false_iff_eq.mpr c10
                    clear c10
                    have H' := Aside0.mk H
                    clear H
                    have p691 : 0 ≤ (x3_2 : Int) := of_decide_eq_true (by first | (with_reducible assumption) | assumption)
                    have q691 : x3_2 < (l0.length : Int) := of_decide_eq_true (by first | (with_reducible assumption) | assumption)
                    obtain ⟨ad691, A691_2, c691_2, e691, hx691_0, hx691_1, hx691_2, hl691_2, hi691_2⟩ := at_T52 HR0.out x3_2 p691 q691
                    cases e691
                    replace hx691_0 := (HB.out.cell (World.block_lt_of_cell? w _ hx691_0)).trans hx691_0
                    replace hx691_1 := (HB.out.cell (World.block_lt_of_cell? w _ hx691_1)).trans hx691_1
                    replace hx691_2 := (HB.out.cell (World.block_lt_of_cell? w _ hx691_2)).trans hx691_2
                    have HR691_2 := Aside0.mk hi691_2
                    have HC691_2 := Aside0.mk hl691_2
                    clear hi691_2 hl691_2
                    replace p691 := eq_true p691
                    replace q691 := eq_true q691
                    go_wp2_with (first | ((with_reducible refine gate_callee (f := 71) rfl ?_); refine goesL_ (some 25) rfl rfl Try.func71 (by kernel_rfl) rfl #[.agg #[.string ((rd_T52 l0 x3_2).f0), .bool ((rd_T52 l0 x3_2).f1), .slice A691_2 ((rd_T52 l0 x3_2).f2).length c691_2]] rfl (by (try simp only [List.map_toArray, List.map_cons, List.map_nil]); first | done | rfl | (simp only [List.length_drop, List.length_take]; rfl)) ?_; (with_reducible refine (spec_FunOk.calls k2 ((rd_T52 l0 x3_2).f0) ((rd_T52 l0 x3_2).f1) _ _ ((rd_T52 l0 x3_2).f2) true _ ?side1 ?side2 A7.out).mono ?_); (case side1 => repeat (first | exact (Kd.C_below HR691_2.out HB.out) | (with_reducible refine Kd.C_alloc ?_ _) | (with_reducible refine Kd.C_drewN ?_ _) | (with_reducible refine Kd.C_drew ?_))); (case side2 => exact HC691_2.out); rintro e w11 ⟨rfl, hb⟩; refine ⟨_, rfl, ?_⟩; have n0_ := Aside0.mk (below_step (by repeat (first | (with_reducible first | exact HB.out | apply below_alloc | apply pw_below_drewN | apply below_drew1) | exact HB.out)) hb); clear HB; have HB := n0_; clear n0_; (try clear hb); (try clear hb2); (try clear hk); (try clear hi); have p693 : 0 ≤ (x3_2 : Int) := of_decide_eq_true (by first | (with_reducible assumption) | assumption); have q693 : x3_2 < (l0.length : Int) := of_decide_eq_true (by first | (with_reducible assumption) | assumption); obtain ⟨ad693, A693_2, c693_2, e693, hx693_0, hx693_1, hx693_2, hl693_2, hi693_2⟩ := at_T52 HR0.out x3_2 p693 q693; obtain rfl : ad691 = ad693 := (by injection e693); replace hx693_0 := (HB.out.cell (World.block_lt_of_cell? w _ hx693_0)).trans hx693_0; replace hx693_1 := (HB.out.cell (World.block_lt_of_cell? w _ hx693_1)).trans hx693_1; replace hx693_2 := (HB.out.cell (World.block_lt_of_cell? w _ hx693_2)).trans hx693_2; have HR693_2 := Aside0.mk hi693_2; have HC693_2 := Aside0.mk hl693_2; clear hi693_2 hl693_2; replace p693 := eq_true p693; replace q693 := eq_true q693) | (go_at_call 72; (with_reducible refine (spec_l2Find.calls k2 _ _ l0 ((rd_T52 l0 x3_2).f0) t694 _ ?side1 ?side2 A9.out).mono ?_); (case side1 => repeat (first | exact (Kd.C_below HR0.out HB.out) | (with_reducible refine Kd.C_alloc ?_ _) | (with_reducible refine Kd.C_drewN ?_ _) | (with_reducible refine Kd.C_drew ?_))); (case side2 => exact HC0.out); rintro e w' ⟨rfl, ⟨nd, rfl⟩⟩))
                    go_roundg k2
                    case measure => have := HJ1.out; have := HK2.out; omega
                    case rel => exact ⟨(wrap64 (x3_2 + 1)), (by first | rfl | (simp; done) | (simp [*]; done)), H', ⟨by have := HJ1.out; have := HK2.out; omega⟩, ⟨by repeat (first | (with_reducible first | exact HB.out | apply below_alloc | apply pw_below_drewN | apply below_drew1) | exact HB.out)⟩⟩
                  · rw [if_neg c10] at H
                    have c10b0 : (t694 == x3_2) = false := beq_eq_false_iff_ne.mpr c10
                    have c10b1 : (t694 != x3_2) = true := bne_iff_ne.mpr c10
                    obtain rfl := Option.some.inj H
                    have p691 : 0 ≤ (x3_2 : Int) := of_decide_eq_true (by first | (with_reducible assumption) | assumption)
                    have q691 : x3_2 < (l0.length : Int) := of_decide_eq_true (by first | (with_reducible assumption) | assumption)
                    obtain ⟨ad691, A691_2, c691_2, e691, hx691_0, hx691_1, hx691_2, hl691_2, hi691_2⟩ := at_T52 HR0.out x3_2 p691 q691
                    cases e691
                    replace hx691_0 := (HB.out.cell (World.block_lt_of_cell? w _ hx691_0)).trans hx691_0
                    replace hx691_1 := (HB.out.cell (World.block_lt_of_cell? w _ hx691_1)).trans hx691_1
                    replace hx691_2 := (HB.out.cell (World.block_lt_of_cell? w _ hx691_2)).trans hx691_2
                    have HR691_2 := Aside0.mk hi691_2
                    have HC691_2 := Aside0.mk hl691_2
                    clear hi691_2 hl691_2
                    replace p691 := eq_true p691
                    replace q691 := eq_true q691
                    go_wp2_with (first | ((with_reducible refine gate_callee (f := 71) rfl ?_); refine goesL_ (some 25) rfl rfl Try.func71 (by kernel_rfl) rfl #[.agg #[.string ((rd_T52 l0 x3_2).f0), .bool ((rd_T52 l0 x3_2).f1), .slice A691_2 ((rd_T52 l0 x3_2).f2).length c691_2]] rfl (by (try simp only [List.map_toArray, List.map_cons, List.map_nil]); first | done | rfl | (simp only [List.length_drop, List.length_take]; rfl)) ?_; (with_reducible refine (spec_FunOk.calls k2 ((rd_T52 l0 x3_2).f0) ((rd_T52 l0 x3_2).f1) _ _ ((rd_T52 l0 x3_2).f2) true _ ?side1 ?side2 A7.out).mono ?_); (case side1 => repeat (first | exact (Kd.C_below HR691_2.out HB.out) | (with_reducible refine Kd.C_alloc ?_ _) | (with_reducible refine Kd.C_drewN ?_ _) | (with_reducible refine Kd.C_drew ?_))); (case side2 => exact HC691_2.out); rintro e w12 ⟨rfl, hb⟩; refine ⟨_, rfl, ?_⟩; have n0_ := Aside0.mk (below_step (by repeat (first | (with_reducible first | exact HB.out | apply below_alloc | apply pw_below_drewN | apply below_drew1) | exact HB.out)) hb); clear HB; have HB := n0_; clear n0_; (try clear hb); (try clear hb2); (try clear hk); (try clear hi); have p693 : 0 ≤ (x3_2 : Int) := of_decide_eq_true (by first | (with_reducible assumption) | assumption); have q693 : x3_2 < (l0.length : Int) := of_decide_eq_true (by first | (with_reducible assumption) | assumption); obtain ⟨ad693, A693_2, c693_2, e693, hx693_0, hx693_1, hx693_2, hl693_2, hi693_2⟩ := at_T52 HR0.out x3_2 p693 q693; obtain rfl : ad691 = ad693 := (by injection e693); replace hx693_0 := (HB.out.cell (World.block_lt_of_cell? w _ hx693_0)).trans hx693_0; replace hx693_1 := (HB.out.cell (World.block_lt_of_cell? w _ hx693_1)).trans hx693_1; replace hx693_2 := (HB.out.cell (World.block_lt_of_cell? w _ hx693_2)).trans hx693_2; have HR693_2 := Aside0.mk hi693_2; have HC693_2 := Aside0.mk hl693_2; clear hi693_2 hl693_2; replace p693 := eq_true p693; replace q693 := eq_true q693) | (go_at_call 72; (with_reducible refine (spec_l2Find.calls k2 _ _ l0 ((rd_T52 l0 x3_2).f0) t694 _ ?side1 ?side2 A9.out).mono ?_); (case side1 => repeat (first | exact (Kd.C_below HR0.out HB.out) | (with_reducible refine Kd.C_alloc ?_ _) | (with_reducible refine Kd.C_drewN ?_ _) | (with_reducible refine Kd.C_drew ?_))); (case side2 => exact HC0.out); rintro e w' ⟨rfl, ⟨nd, rfl⟩⟩))
                    go_ret
                    exact ⟨by first | rfl | (simp [errW_none, errW_some] <;> rfl) | (simp [*, errW_none, errW_some] <;> rfl), by repeat (first | (with_reducible first | exact HB.out | apply below_alloc | apply pw_below_drewN | apply below_drew1) | exact HB.out)⟩
                · replace c8 := Bool.eq_false_iff.mpr c8
                  subst c8
                  have H1 : (some false) = some r := by rw [if_neg (show ¬ (false = true) by decide)] at H; exact H
                  clear H
                  have H := H1
                  clear H1
                  obtain rfl := Option.some.inj H
                  have p691 : 0 ≤ (x3_2 : Int) := of_decide_eq_true (by first | (with_reducible assumption) | assumption)
                  have q691 : x3_2 < (l0.length : Int) := of_decide_eq_true (by first | (with_reducible assumption) | assumption)
                  obtain ⟨ad691, A691_2, c691_2, e691, hx691_0, hx691_1, hx691_2, hl691_2, hi691_2⟩ := at_T52 HR0.out x3_2 p691 q691
                  cases e691
                  replace hx691_0 := (HB.out.cell (World.block_lt_of_cell? w _ hx691_0)).trans hx691_0
                  replace hx691_1 := (HB.out.cell (World.block_lt_of_cell? w _ hx691_1)).trans hx691_1
                  replace hx691_2 := (HB.out.cell (World.block_lt_of_cell? w _ hx691_2)).trans hx691_2
                  have HR691_2 := Aside0.mk hi691_2
                  have HC691_2 := Aside0.mk hl691_2
                  clear hi691_2 hl691_2
                  replace p691 := eq_true p691
                  replace q691 := eq_true q691
                  go_wp2_with (first | ((with_reducible refine gate_callee (f := 71) rfl ?_); refine goesL_ (some 25) rfl rfl Try.func71 (by kernel_rfl) rfl #[.agg #[.string ((rd_T52 l0 x3_2).f0), .bool ((rd_T52 l0 x3_2).f1), .slice A691_2 ((rd_T52 l0 x3_2).f2).length c691_2]] rfl (by (try simp only [List.map_toArray, List.map_cons, List.map_nil]); first | done | rfl | (simp only [List.length_drop, List.length_take]; rfl)) ?_; (with_reducible refine (spec_FunOk.calls k2 ((rd_T52 l0 x3_2).f0) ((rd_T52 l0 x3_2).f1) _ _ ((rd_T52 l0 x3_2).f2) false _ ?side1 ?side2 A7.out).mono ?_); (case side1 => repeat (first | exact (Kd.C_below HR691_2.out HB.out) | (with_reducible refine Kd.C_alloc ?_ _) | (with_reducible refine Kd.C_drewN ?_ _) | (with_reducible refine Kd.C_drew ?_))); (case side2 => exact HC691_2.out); rintro e w13 ⟨rfl, hb⟩; refine ⟨_, rfl, ?_⟩; have n0_ := Aside0.mk (below_step (by repeat (first | (with_reducible first | exact HB.out | apply below_alloc | apply pw_below_drewN | apply below_drew1) | exact HB.out)) hb); clear HB; have HB := n0_; clear n0_; (try clear hb); (try clear hb2); (try clear hk); (try clear hi)))
                  go_ret
                  exact ⟨by first | rfl | (simp [errW_none, errW_some] <;> rfl) | (simp [*, errW_none, errW_some] <;> rfl), by repeat (first | (with_reducible first | exact HB.out | apply below_alloc | apply pw_below_drewN | apply below_drew1) | exact HB.out)⟩
              · rw [if_neg c6] at H
                exact absurd H (by simp)
            · rw [if_neg c5] at H
              have c5b0 : decide (x3_2 < (l0.length : Int)) = false := decide_eq_false c5
              clear c5
              have H' := Aside0.mk H
              clear H
              go_wp2
              go_loopg [4] k2 (fun kq v4 w' => ∃ (x4_3 : Int), v4 = .int .i64 x4_3 ∧ Aside0 (spec_KeepOk.l1 kq l0 x4_3 = some r) ∧ Aside0 (kq ≤ k2) ∧ Aside0 (Below w.heap.size w w'))
              case atStart => exact ⟨(0), (by first | rfl | (simp; done) | (simp [*]; done)), H', ⟨Nat.le_refl _⟩, ⟨by repeat (first | (with_reducible first | exact HB.out | apply below_alloc | apply pw_below_drewN | apply below_drew1) | exact HB.out)⟩⟩
              case round =>
                clear H'
                try clear c1
                try clear p2
                try clear c3
                try clear c3b0
                try clear c3b1
                try clear c4
                try clear c5
                try clear c5b0
                try clear c6
                try clear c6b0
                try clear p6
                try clear q6
                try clear hx6
                try clear c7
                try clear c8
                try clear c10
                try clear c10b0
                try clear c10b1
                try clear hx691_0
                try clear hx691_1
                try clear hx691_2
                try clear hx693_0
                try clear hx693_1
                try clear hx693_2
                try clear p2
                try clear p691
                try clear p693
                try clear q691
                try clear q693
                obtain ⟨x4_3, rfl, HA, HK3, HB⟩ := hrel
                cases gk with
                | zero => exact absurd HA.out (by simp [spec_KeepOk.l1])
                | succ k3 =>
                  have H := HA.out
                  clear HA
                  simp only [spec_KeepOk.l1] at H
                  by_cases c14 : x4_3 < (l0.length : Int)
                  · rw [if_pos c14] at H
                    have c14b0 : decide (x4_3 < (l0.length : Int)) = true := decide_eq_true c14
                    clear c14
                    by_cases c15 : 0 ≤ x4_3
                    · rw [if_pos c15] at H
                      have c15b0 : decide (0 ≤ x4_3) = true := decide_eq_true c15
                      clear c15
                      replace H := Option.bind_eq_some_iff.mp H
                      obtain ⟨t696, A160, H⟩ := H
                      replace H : (spec_KeepOk.l2 k3 l0 x4_3 t696 0) = some r := H
                      have A16 := Aside0.mk A160
                      clear A160
                      have H' := Aside0.mk H
                      clear H
                      have p695 : 0 ≤ (x4_3 : Int) := of_decide_eq_true (by first | (with_reducible assumption) | assumption)
                      have q695 : x4_3 < (l0.length : Int) := of_decide_eq_true (by first | (with_reducible assumption) | assumption)
                      obtain ⟨ad695, A695_2, c695_2, e695, hx695_0, hx695_1, hx695_2, hl695_2, hi695_2⟩ := at_T52 HR0.out x4_3 p695 q695
                      cases e695
                      replace hx695_0 := (HB.out.cell (World.block_lt_of_cell? w _ hx695_0)).trans hx695_0
                      replace hx695_1 := (HB.out.cell (World.block_lt_of_cell? w _ hx695_1)).trans hx695_1
                      replace hx695_2 := (HB.out.cell (World.block_lt_of_cell? w _ hx695_2)).trans hx695_2
                      have HR695_2 := Aside0.mk hi695_2
                      have HC695_2 := Aside0.mk hl695_2
                      clear hi695_2 hl695_2
                      replace p695 := eq_true p695
                      replace q695 := eq_true q695
                      go_wp2_with (first | ((with_reducible refine gate_callee (f := 73) rfl ?_); refine goesL_ (some 49) rfl rfl Try.func73 (by kernel_rfl) rfl #[.slice A695_2 ((rd_T52 l0 x4_3).f2).length c695_2] rfl (by (try simp only [List.map_toArray, List.map_cons, List.map_nil]); first | done | rfl | (simp only [List.length_drop, List.length_take]; rfl)) ?_; (with_reducible refine (spec_l2Refs.calls k3 _ _ ((rd_T52 l0 x4_3).f2) t696 _ ?side1 ?side2 A16.out).mono ?_); (case side1 => repeat (first | exact (Kd.C_below HR695_2.out HB.out) | (with_reducible refine Kd.C_alloc ?_ _) | (with_reducible refine Kd.C_drewN ?_ _) | (with_reducible refine Kd.C_drew ?_))); (case side2 => exact HC695_2.out); rintro e w17 ⟨v697, rfl, ho0, hb⟩; refine ⟨_, rfl, ?_⟩; have n0_ := Aside0.mk (Kd.R_lower ho0 (below_size (by repeat (first | (with_reducible first | exact HB.out | apply below_alloc | apply pw_below_drewN | apply below_drew1) | exact HB.out)))); have n1_ := Aside0.mk (below_step (by repeat (first | (with_reducible first | exact HB.out | apply below_alloc | apply pw_below_drewN | apply below_drew1) | exact HB.out)) hb); clear HB; have HO698 := n0_; have HB := n1_; clear n0_ n1_; (try clear hb); (try clear hb2); (try clear hk); (try clear hi); (try clear ho0)))
                      go_loopg [6] k3 (fun kq v6 w' => ∃ (x6_4 : Int), v6 = .int .i64 x6_4 ∧ Aside0 (spec_KeepOk.l2 kq l0 x4_3 t696 x6_4 = some r) ∧ Aside0 (kq ≤ k3) ∧ Aside0 (Kd.R Kd.string 9 w' w.heap.size (fun _ => True) v697 t696) ∧ Aside0 (Below w.heap.size w w'))
                      case atStart => exact ⟨(0), (by first | rfl | (simp; done) | (simp [*]; done)), H', ⟨Nat.le_refl _⟩, ⟨by (with_reducible repeat (first | apply Kd.R_alloc | apply Kd.R_drewN | apply Kd.R_drew)); exact HO698.out⟩, ⟨by repeat (first | (with_reducible first | exact HB.out | apply below_alloc | apply pw_below_drewN | apply below_drew1) | exact HB.out)⟩⟩
                      case round =>
                        clear H'
                        try clear c1
                        try clear p2
                        try clear c3
                        try clear c3b0
                        try clear c3b1
                        try clear c4
                        try clear c5
                        try clear c5b0
                        try clear c6
                        try clear c6b0
                        try clear p6
                        try clear q6
                        try clear hx6
                        try clear c7
                        try clear c8
                        try clear c10
                        try clear c10b0
                        try clear c10b1
                        try clear c14
                        try clear c14b0
                        try clear c15
                        try clear c15b0
                        try clear hx691_0
                        try clear hx691_1
                        try clear hx691_2
                        try clear hx693_0
                        try clear hx693_1
                        try clear hx693_2
                        try clear hx695_0
                        try clear hx695_1
                        try clear hx695_2
                        try clear p2
                        try clear p6
                        try clear p691
                        try clear p693
                        try clear p695
                        try clear q6
                        try clear q691
                        try clear q693
                        try clear q695
                        obtain ⟨x6_4, rfl, HA, HK4, HO_5, HB⟩ := hrel
                        cases gk with
                        | zero => exact absurd HA.out (by simp [spec_KeepOk.l2])
                        | succ k4 =>
                          have H := HA.out
                          clear HA
                          simp only [spec_KeepOk.l2] at H
                          by_cases c18 : x6_4 < (t696.length : Int)
                          · rw [if_pos c18] at H
                            have c18b0 : decide (x6_4 < (t696.length : Int)) = true := decide_eq_true c18
                            clear c18
                            by_cases c19 : 0 ≤ x6_4
                            · rw [if_pos c19] at H
                              have c19b0 : decide (0 ≤ x6_4) = true := decide_eq_true c19
                              clear c19
                              replace H := Option.bind_eq_some_iff.mp H
                              obtain ⟨t700, A200, H⟩ := H
                              replace H : (if t700 < 0 then (some false) else (spec_KeepOk.l2 k4 l0 x4_3 t696 (wrap64 (x6_4 + 1)))) = some r := H
                              have A20 := Aside0.mk A200
                              clear A200
                              by_cases c21 : t700 < 0
                              · rw [if_pos c21] at H
                                have c21b0 : decide (t700 < 0) = true := decide_eq_true c21
                                clear c21
                                obtain rfl := Option.some.inj H
                                obtain ⟨Ao22, co22, eo22⟩ := Kd.R_slice HO_5.out
                                subst eo22
                                have p699 : 0 ≤ (x6_4 : Int) := of_decide_eq_true (by first | (with_reducible assumption) | assumption)
                                have q699 : x6_4 < (t696.length : Int) := of_decide_eq_true (by first | (with_reducible assumption) | assumption)
                                obtain ⟨ad699, e699, hx699_0⟩ := Kd.at_string (Kd.R_reads' HO_5.out).2.2 x6_4 p699 q699
                                cases e699
                                replace p699 := eq_true p699
                                replace q699 := eq_true q699
                                go_wp2_with (first | ((with_reducible refine gate_callee (f := 72) rfl ?_); refine goesL_ (some 61) rfl rfl Try.func72 (by kernel_rfl) rfl #[.slice (some ad695) l0.length c0, .string (rdOf ByteArray.empty t696 x6_4)] rfl (by (try simp only [List.map_toArray, List.map_cons, List.map_nil]); first | done | rfl | (simp only [List.length_drop, List.length_take]; rfl)) ?_; (with_reducible refine (spec_l2Find.calls k4 _ _ l0 (rdOf ByteArray.empty t696 x6_4) t700 _ ?side1 ?side2 A20.out).mono ?_); (case side1 => repeat (first | exact (Kd.C_below HR0.out HB.out) | (with_reducible refine Kd.C_alloc ?_ _) | (with_reducible refine Kd.C_drewN ?_ _) | (with_reducible refine Kd.C_drew ?_))); (case side2 => exact HC0.out); rintro e w' ⟨rfl, ⟨nd, rfl⟩⟩; refine ⟨_, rfl, ?_⟩))
                                go_ret
                                exact ⟨by first | rfl | (simp [errW_none, errW_some] <;> rfl) | (simp [*, errW_none, errW_some] <;> rfl), by repeat (first | (with_reducible first | exact HB.out | apply below_alloc | apply pw_below_drewN | apply below_drew1) | exact HB.out)⟩
                              · rw [if_neg c21] at H
                                have c21b0 : decide (t700 < 0) = false := decide_eq_false c21
                                clear c21
                                have H' := Aside0.mk H
                                clear H
                                obtain ⟨Ao23, co23, eo23⟩ := Kd.R_slice HO_5.out
                                subst eo23
                                have p699 : 0 ≤ (x6_4 : Int) := of_decide_eq_true (by first | (with_reducible assumption) | assumption)
                                have q699 : x6_4 < (t696.length : Int) := of_decide_eq_true (by first | (with_reducible assumption) | assumption)
                                obtain ⟨ad699, e699, hx699_0⟩ := Kd.at_string (Kd.R_reads' HO_5.out).2.2 x6_4 p699 q699
                                cases e699
                                replace p699 := eq_true p699
                                replace q699 := eq_true q699
                                go_wp2_with (first | ((with_reducible refine gate_callee (f := 72) rfl ?_); refine goesL_ (some 61) rfl rfl Try.func72 (by kernel_rfl) rfl #[.slice (some ad695) l0.length c0, .string (rdOf ByteArray.empty t696 x6_4)] rfl (by (try simp only [List.map_toArray, List.map_cons, List.map_nil]); first | done | rfl | (simp only [List.length_drop, List.length_take]; rfl)) ?_; (with_reducible refine (spec_l2Find.calls k4 _ _ l0 (rdOf ByteArray.empty t696 x6_4) t700 _ ?side1 ?side2 A20.out).mono ?_); (case side1 => repeat (first | exact (Kd.C_below HR0.out HB.out) | (with_reducible refine Kd.C_alloc ?_ _) | (with_reducible refine Kd.C_drewN ?_ _) | (with_reducible refine Kd.C_drew ?_))); (case side2 => exact HC0.out); rintro e w' ⟨rfl, ⟨nd, rfl⟩⟩; refine ⟨_, rfl, ?_⟩))
                                go_roundg k4
                                case measure => have := HJ1.out; have := HK2.out; have := HK3.out; have := HK4.out; omega
                                case rel => exact ⟨(wrap64 (x6_4 + 1)), (by first | rfl | (simp; done) | (simp [*]; done)), H', ⟨by have := HJ1.out; have := HK2.out; have := HK3.out; have := HK4.out; omega⟩, ⟨by (with_reducible repeat (first | apply Kd.R_alloc | apply Kd.R_drewN | apply Kd.R_drew)); exact HO_5.out⟩, ⟨by repeat (first | (with_reducible first | exact HB.out | apply below_alloc | apply pw_below_drewN | apply below_drew1) | exact HB.out)⟩⟩
                            · rw [if_neg c19] at H
                              exact absurd H (by simp)
                          · rw [if_neg c18] at H
                            have c18b0 : decide (x6_4 < (t696.length : Int)) = false := decide_eq_false c18
                            clear c18
                            have H' := Aside0.mk H
                            clear H
                            obtain ⟨Ao24, co24, eo24⟩ := Kd.R_slice HO_5.out
                            subst eo24
                            go_wp2
                            go_roundg k4
                            case measure => have := HJ1.out; have := HK2.out; have := HK3.out; have := HK4.out; omega
                            case rel => exact ⟨(wrap64 (x4_3 + 1)), (by first | rfl | (simp; done) | (simp [*]; done)), H', ⟨by have := HJ1.out; have := HK2.out; have := HK3.out; have := HK4.out; omega⟩, ⟨by repeat (first | (with_reducible first | exact HB.out | apply below_alloc | apply pw_below_drewN | apply below_drew1) | exact HB.out)⟩⟩
                    · rw [if_neg c15] at H
                      exact absurd H (by simp)
                  · rw [if_neg c14] at H
                    have c14b0 : decide (x4_3 < (l0.length : Int)) = false := decide_eq_false c14
                    clear c14
                    obtain rfl := Option.some.inj H
                    go_wp2
                    go_ret
                    exact ⟨by first | rfl | (simp [errW_none, errW_some] <;> rfl) | (simp [*, errW_none, errW_some] <;> rfl), by repeat (first | (with_reducible first | exact HB.out | apply below_alloc | apply pw_below_drewN | apply below_drew1) | exact HB.out)⟩

end Go.Proofs.Ytppmalfpggkpdaa.P

-- made by printx.py (own driver over the kit's print); Lean checks it
namespace Go.Proofs.Ytppmalfpggkpdaa.P
open Go.RowKit Go.Proofs.YtppmalfpggkpdaaW.PrintWords Go.Proofs.YtppmalfpggkpdaaW.PrintLast Go.Proofs.YtppmalfpggkpdaaW.PrintMore
attribute [local go_sem] max2_int min2_int max_two min_two max_three min_three max_four min_four   -- for this text's walks alone
set_option linter.unusedVariables false
set_option linter.unusedSimpArgs false

/-! ### impl_FunRefs: function 37 -/
def impl_FunRefs.f (k : Nat) (a0_0 : ByteArray) (a0_1 : Bool) (l0_2 : List (S110)) : Option (List ByteArray) := (impl_FunOk.f a0_0 a0_1 l0_2).bind fun t743 => (if t743 = true then ((impl_Fun_refs.f k a0_0 a0_1 l0_2).bind fun t744 => (some t744)) else (some ([] : List ByteArray)))
theorem impl_FunRefs.mono : ∀ a0 a1 a2 k, LeO (impl_FunRefs.f k a0 a1 a2) (impl_FunRefs.f (k + 1) a0 a1 a2) := by
  intro a0 a1 a2 k
  unfold impl_FunRefs.f
  repeat' first
      | (with_reducible exact impl_Fun_refs.mono _ _ _ _)
      | (with_reducible exact LeO.refl _)
      | (with_reducible exact LeO.none _)
      | (with_reducible refine LeO.ite ?_ ?_)
      | (with_reducible refine LeO.bind ?_ (fun _ => ?_))
      | exact impl_Fun_refs.mono _ _ _ _
      | exact LeO.none _
      | refine LeO.ite ?_ ?_
      | refine LeO.bind ?_ (fun _ => ?_)
set_option maxHeartbeats 8000000 in
set_option maxRecDepth 100000 in
theorem impl_FunRefs.calls (k : Nat) (a0_0 : ByteArray) (a0_1 : Bool) (A0_2 : Option Addr) (c0_2 : Nat) (l0_2 : List (S110)) (r : List ByteArray) (w : World) (hr0_2 : Kd.C k110 w A0_2 l0_2.length l0_2) (hc0_2 : l0_2.length ≤ c0_2) (h : impl_FunRefs.f k a0_0 a0_1 l0_2 = some r) :
    Calls Try.prog 37 #[.agg #[.string a0_0, .bool a0_1, .slice A0_2 l0_2.length c0_2]] w fun e w' => ∃ v0_ : Value, e = .returned (v0_) ∧ Kd.R Kd.string 9 w' w.heap.size (fun _ => True) v0_ r ∧ Below w.heap.size w w' := by
  have hu52 := Try.underlying52
  have HR0_2 := Aside0.mk hr0_2
  have HC0_2 := Aside0.mk hc0_2
  clear hr0_2 hc0_2
  have HB := Aside0.mk (Below.refl w.heap.size w)
  have H : ((impl_FunOk.f a0_0 a0_1 l0_2).bind fun t743 => (if t743 = true then ((impl_Fun_refs.f k a0_0 a0_1 l0_2).bind fun t744 => (some t744)) else (some ([] : List ByteArray)))) = some r := h
  clear h
  replace H := Option.bind_eq_some_iff.mp H
  obtain ⟨t743, A20, H⟩ := H
  replace H : (if t743 = true then ((impl_Fun_refs.f k a0_0 a0_1 l0_2).bind fun t744 => (some t744)) else (some ([] : List ByteArray))) = some r := H
  have A2 := Aside0.mk A20
  clear A20
  by_cases c3 : t743 = true
  · subst c3
    have H1 : ((impl_Fun_refs.f k a0_0 a0_1 l0_2).bind fun t744 => (some t744)) = some r := by rw [if_pos rfl] at H; exact H
    clear H
    have H := H1
    clear H1
    replace H := Option.bind_eq_some_iff.mp H
    obtain ⟨t744, A40, H⟩ := H
    replace H : (some t744) = some r := H
    have A4 := Aside0.mk A40
    clear A40
    obtain rfl := Option.some.inj H
    go_enter Try.func37, Try.ntmps37
    go_wp2_with (first | ((with_reducible refine gate_dst (N := 1) rfl ?_); refine box_event ?hg (N := 1) ?hd (cs := #[.string a0_0, .bool a0_1, .slice A0_2 l0_2.length c0_2]) (t := 52) ?hr ?_; (case hd => rfl); (case hg => rfl); (case hr => first | (go_simp; done) | (go_simp; rfl)); intro gb742 hg w5 hbox hb; have n0_ := Aside0.mk (below_step (by repeat (first | (with_reducible first | exact HB.out | apply below_alloc | apply pw_below_drewN | apply below_drew1) | exact HB.out)) hb); have n1_ := Aside0.mk (hbox); have n2_ := Aside0.mk ((by rw [hg]; exact (below_size (by repeat (first | (with_reducible first | exact HB.out | apply below_alloc | apply pw_below_drewN | apply below_drew1) | exact HB.out))) : w.heap.size ≤ gb742)); have n3_ := Aside0.mk ((by rw [hg]; exact (below_size (by repeat (first | (with_reducible first | exact HB.out | apply below_alloc | apply pw_below_drewN | apply below_drew1) | exact HB.out))) : w.heap.size ≤ gb742)); clear HB; have HB := n0_; have BK742 := n1_; have GW742 := n2_; have GE742 := n3_; clear n0_ n1_ n2_ n3_; clear hb hbox hg; have hcz6_0 : w5.cell? ⟨gb742, 0, none⟩ = some (.string a0_0) := (blk_cell BK742.out 0).trans rfl; have hcz6_1 : w5.cell? ⟨gb742, 1, none⟩ = some (.bool a0_1) := (blk_cell BK742.out 1).trans rfl; have hcz6_2 : w5.cell? ⟨gb742, 2, none⟩ = some (.slice A0_2 l0_2.length c0_2) := (blk_cell BK742.out 2).trans rfl; have hfz6_0 := blk_frozen BK742.out 0; have hfz6_1 := blk_frozen BK742.out 1; have hfz6_2 := blk_frozen BK742.out 2) | ((with_reducible refine gate_callee (f := 80) rfl ?_); refine goesL_ (some 4) rfl rfl Try.func80 (by kernel_rfl) rfl #[.agg #[.string a0_0, .bool a0_1, .slice A0_2 l0_2.length c0_2]] rfl (by (try simp only [List.map_toArray, List.map_cons, List.map_nil]); first | done | rfl | (simp only [List.length_drop, List.length_take]; rfl)) ?_; (with_reducible refine (impl_FunOk.calls a0_0 a0_1 _ _ l0_2 true _ ?side1 ?side2 A2.out).mono ?_); (case side1 => repeat (first | exact (Kd.C_below HR0_2.out HB.out) | (with_reducible refine Kd.C_alloc ?_ _) | (with_reducible refine Kd.C_drewN ?_ _) | (with_reducible refine Kd.C_drew ?_))); (case side2 => exact HC0_2.out); rintro e w7 ⟨rfl, hb⟩; refine ⟨_, rfl, ?_⟩; have n0_ := Aside0.mk (blk_below (g := gb742) (o := .cells #[.string a0_0, .bool a0_1, .slice A0_2 l0_2.length c0_2] 52 (0, 0)) (by (with_reducible repeat (first | refine blk_drewN ?_ _ | refine blk_drew ?_ | refine blk_alloc ?_ _)); exact BK742.out) hb); have n1_ := Aside0.mk (below_step (by repeat (first | (with_reducible first | exact HB.out | apply below_alloc | apply pw_below_drewN | apply below_drew1 | refine below_set ?_ GE742.out) | exact HB.out)) hb); clear BK742; clear HB; have BK742 := n0_; have HB := n1_; clear n0_ n1_; (try clear hb); (try clear hb2); (try clear hk); (try clear hi); have hcz8_0 : w7.cell? ⟨gb742, 0, none⟩ = some (.string a0_0) := (blk_cell BK742.out 0).trans rfl; have hcz8_1 : w7.cell? ⟨gb742, 1, none⟩ = some (.bool a0_1) := (blk_cell BK742.out 1).trans rfl; have hcz8_2 : w7.cell? ⟨gb742, 2, none⟩ = some (.slice A0_2 l0_2.length c0_2) := (blk_cell BK742.out 2).trans rfl; have hfz8_0 := blk_frozen BK742.out 0; have hfz8_1 := blk_frozen BK742.out 1; have hfz8_2 := blk_frozen BK742.out 2) | ((with_reducible refine gate_callee (f := 81) rfl ?_); refine goesL_ (some 7) rfl rfl Try.func81 (by kernel_rfl) rfl #[.agg #[.string a0_0, .bool a0_1, .slice A0_2 l0_2.length c0_2]] rfl (by (try simp only [List.map_toArray, List.map_cons, List.map_nil]); first | done | rfl | (simp only [List.length_drop, List.length_take]; rfl)) ?_; (with_reducible refine (impl_Fun_refs.calls k a0_0 a0_1 _ _ l0_2 t744 _ ?side1 ?side2 A4.out).mono ?_); (case side1 => repeat (first | exact (Kd.C_below HR0_2.out HB.out) | (with_reducible refine Kd.C_alloc ?_ _) | (with_reducible refine Kd.C_drewN ?_ _) | (with_reducible refine Kd.C_drew ?_))); (case side2 => exact HC0_2.out); rintro e w9 ⟨v745, rfl, ho0, hb⟩; refine ⟨_, rfl, ?_⟩; have n0_ := Aside0.mk (Kd.R_lower ho0 (below_size (by repeat (first | (with_reducible first | exact HB.out | apply below_alloc | apply pw_below_drewN | apply below_drew1 | refine below_set ?_ GE742.out) | exact HB.out)))); have n1_ := Aside0.mk (blk_below (g := gb742) (o := .cells #[.string a0_0, .bool a0_1, .slice A0_2 l0_2.length c0_2] 52 (0, 0)) (by (with_reducible repeat (first | refine blk_drewN ?_ _ | refine blk_drew ?_ | refine blk_alloc ?_ _)); exact BK742.out) hb); have n2_ := Aside0.mk (below_step (by repeat (first | (with_reducible first | exact HB.out | apply below_alloc | apply pw_below_drewN | apply below_drew1 | refine below_set ?_ GE742.out) | exact HB.out)) hb); clear BK742; clear HB; have HO746 := n0_; have BK742 := n1_; have HB := n2_; clear n0_ n1_ n2_; (try clear hb); (try clear hb2); (try clear hk); (try clear hi); (try clear ho0)))
    go_ret
    exact ⟨_, by first | rfl | (simp [errW_none, errW_some] <;> rfl) | (simp [*, errW_none, errW_some] <;> rfl), by (with_reducible repeat (first | apply Kd.R_alloc | apply Kd.R_drewN | apply Kd.R_drew)); exact HO746.out, by repeat (first | (with_reducible first | exact HB.out | apply below_alloc | apply pw_below_drewN | apply below_drew1 | refine below_set ?_ GE742.out) | exact HB.out)⟩
  · replace c3 := Bool.eq_false_iff.mpr c3
    subst c3
    have H1 : (some ([] : List ByteArray)) = some r := by rw [if_neg (show ¬ (false = true) by decide)] at H; exact H
    clear H
    have H := H1
    clear H1
    obtain rfl := Option.some.inj H
    go_enter Try.func37, Try.ntmps37
    go_wp2_with (first | ((with_reducible refine gate_dst (N := 1) rfl ?_); refine box_event ?hg (N := 1) ?hd (cs := #[.string a0_0, .bool a0_1, .slice A0_2 l0_2.length c0_2]) (t := 52) ?hr ?_; (case hd => rfl); (case hg => rfl); (case hr => first | (go_simp; done) | (go_simp; rfl)); intro gb742 hg w10 hbox hb; have n0_ := Aside0.mk (below_step (by repeat (first | (with_reducible first | exact HB.out | apply below_alloc | apply pw_below_drewN | apply below_drew1) | exact HB.out)) hb); have n1_ := Aside0.mk (hbox); have n2_ := Aside0.mk ((by rw [hg]; exact (below_size (by repeat (first | (with_reducible first | exact HB.out | apply below_alloc | apply pw_below_drewN | apply below_drew1) | exact HB.out))) : w.heap.size ≤ gb742)); have n3_ := Aside0.mk ((by rw [hg]; exact (below_size (by repeat (first | (with_reducible first | exact HB.out | apply below_alloc | apply pw_below_drewN | apply below_drew1) | exact HB.out))) : w.heap.size ≤ gb742)); clear HB; have HB := n0_; have BK742 := n1_; have GW742 := n2_; have GE742 := n3_; clear n0_ n1_ n2_ n3_; clear hb hbox hg; have hcz11_0 : w10.cell? ⟨gb742, 0, none⟩ = some (.string a0_0) := (blk_cell BK742.out 0).trans rfl; have hcz11_1 : w10.cell? ⟨gb742, 1, none⟩ = some (.bool a0_1) := (blk_cell BK742.out 1).trans rfl; have hcz11_2 : w10.cell? ⟨gb742, 2, none⟩ = some (.slice A0_2 l0_2.length c0_2) := (blk_cell BK742.out 2).trans rfl; have hfz11_0 := blk_frozen BK742.out 0; have hfz11_1 := blk_frozen BK742.out 1; have hfz11_2 := blk_frozen BK742.out 2) | ((with_reducible refine gate_callee (f := 80) rfl ?_); refine goesL_ (some 4) rfl rfl Try.func80 (by kernel_rfl) rfl #[.agg #[.string a0_0, .bool a0_1, .slice A0_2 l0_2.length c0_2]] rfl (by (try simp only [List.map_toArray, List.map_cons, List.map_nil]); first | done | rfl | (simp only [List.length_drop, List.length_take]; rfl)) ?_; (with_reducible refine (impl_FunOk.calls a0_0 a0_1 _ _ l0_2 false _ ?side1 ?side2 A2.out).mono ?_); (case side1 => repeat (first | exact (Kd.C_below HR0_2.out HB.out) | (with_reducible refine Kd.C_alloc ?_ _) | (with_reducible refine Kd.C_drewN ?_ _) | (with_reducible refine Kd.C_drew ?_))); (case side2 => exact HC0_2.out); rintro e w12 ⟨rfl, hb⟩; refine ⟨_, rfl, ?_⟩; have n0_ := Aside0.mk (blk_below (g := gb742) (o := .cells #[.string a0_0, .bool a0_1, .slice A0_2 l0_2.length c0_2] 52 (0, 0)) (by (with_reducible repeat (first | refine blk_drewN ?_ _ | refine blk_drew ?_ | refine blk_alloc ?_ _)); exact BK742.out) hb); have n1_ := Aside0.mk (below_step (by repeat (first | (with_reducible first | exact HB.out | apply below_alloc | apply pw_below_drewN | apply below_drew1 | refine below_set ?_ GE742.out) | exact HB.out)) hb); clear BK742; clear HB; have BK742 := n0_; have HB := n1_; clear n0_ n1_; (try clear hb); (try clear hb2); (try clear hk); (try clear hi)))
    go_ret
    exact ⟨_, by first | rfl | (simp [errW_none, errW_some] <;> rfl) | (simp [*, errW_none, errW_some] <;> rfl), by first | exact Kd.R_nil _ _ _ _ _ | exact Kd.N_nil _ _ _ _ _ | exact Kd.V_nil _ _ _ _ _ | exact Kd.Q_nil _ _ _ _ _ | exact Kd.S_nil _ _ _ _ _, by repeat (first | (with_reducible first | exact HB.out | apply below_alloc | apply pw_below_drewN | apply below_drew1 | refine below_set ?_ GE742.out) | exact HB.out)⟩

end Go.Proofs.Ytppmalfpggkpdaa.P

/- The names in a function; marks in texts. -/
namespace Go.Proofs.Ytppmalfpggkpdaa.L
open Go.RowKit Go.Proofs.YtppmalfpggkpdaaW.PrintWords Go.Proofs.YtppmalfpggkpdaaW.PrintLast Go.Proofs.YtppmalfpggkpdaaW.PrintMore Go.Proofs.Ytppmalfpggkpdaa.P
set_option linter.unusedVariables false
set_option linter.unusedSimpArgs false
def hasB (l : List ByteArray) (a : ByteArray) : Bool := l.any fun x => x.toList == a.toList
def refsAdd (x : S110) (s : List ByteArray) : List ByteArray := if refersB x.f0 && !hasB s x.f2 then s ++ [x.f2] else s
def refsV (l : List S110) : List ByteArray := l.foldl (fun s x => refsAdd x s) []
theorem refsAdd_len (x : S110) (s : List ByteArray) : (refsAdd x s).length ≤ s.length + 1 := by
  unfold refsAdd
  split
  · simp
  · omega
theorem foldl_len : ∀ (l : List S110) (s : List ByteArray), (l.foldl (fun s x => refsAdd x s) s).length ≤ s.length + l.length
  | [], s => by simp
  | x :: l, s => by
    have := foldl_len l (refsAdd x s)
    have := refsAdd_len x s
    simp only [List.foldl, List.length_cons]
    omega
theorem refsV_len (l : List S110) : (refsV l).length ≤ l.length := by
  have := foldl_len l []
  simpa [refsV] using this
theorem runS_fold {β : Type} (E : List ByteArray → β) : ∀ (l : List S110) (i : Nat) (s : List ByteArray), runS (fun _ x s => (.inl (refsAdd x s) : List ByteArray ⊕ β)) E l i s = E (l.foldl (fun s x => refsAdd x s) s)
  | [], _, _ => rfl
  | x :: l, i, s => runS_fold E l (i + 1) (refsAdd x s)
theorem slices_Contains_sstring_string_f (l : List ByteArray) (hn : l.length ≤ 9223372036854775807) (a : ByteArray) (k : Nat) (hk : l.length < k) : slices_Contains_sstring_string.f k l a = some (hasB l a) := by
  unfold slices_Contains_sstring_string.f slices_Index_sstring_string.f
  have h : slices_Index_sstring_string.l0 k l a (l.length : Int) 0 = some (idxFrom (fun x => x.toList == a.toList) l 0) := by
    refine loop_idx (fun x => x.toList == a.toList) ByteArray.empty l hn (fun k i => slices_Index_sstring_string.l0 k l a (l.length : Int) i) 0 ?_ ?_ ?_ k (by omega)
    · intro k i _ hi hq
      simp only [slices_Index_sstring_string.l0]
      rw [if_pos (by omega), if_pos (by omega), if_pos (by omega), if_pos (show a.toList = (rdOf ByteArray.empty l (i : Int)).toList from (beq_iff_eq.mp hq).symm)]
    · intro k i _ hi hq
      simp only [slices_Index_sstring_string.l0]
      rw [if_pos (by omega), if_pos (by omega), if_pos (by omega), if_neg (show ¬ a.toList = (rdOf ByteArray.empty l (i : Int)).toList from fun e => beq_eq_false_iff_ne.mp hq e.symm)]
    · intro k _
      simp only [slices_Index_sstring_string.l0]
      rw [if_neg (by omega)]
  rw [h]
  simp only [Option.bind_some, hasB]
  rw [← idxFrom_any _ l 0 (by decide)]
theorem spec_l2Has_f (l : List ByteArray) (hn : l.length ≤ 9223372036854775806) (a : ByteArray) (k : Nat) (hk : l.length < k) : spec_l2Has.f k l a = some (hasB l a) := by
  have e : ∀ (l' : List ByteArray) (i : Nat), runS (fun _ x (_ : Unit) => if x.toList = a.toList then (.inr (some true) : Unit ⊕ Option Bool) else .inl ()) (fun _ => some false) l' i () = some (hasB l' a) := by
    intro l'
    induction l' with
    | nil => intro i; rfl
    | cons x l' ih =>
      intro i
      simp only [runS, hasB, List.any_cons]
      by_cases h : x.toList = a.toList
      · rw [if_pos h, beq_iff_eq.mpr h]; rfl
      · rw [if_neg h, beq_eq_false_iff_ne.mpr h]
        exact ih (i + 1)
  unfold spec_l2Has.f
  refine (loop_run (fun _ x (_ : Unit) => if x.toList = a.toList then (.inr (some true) : Unit ⊕ Option Bool) else .inl ()) (fun _ _ => some false) (fun _ _ => True) ByteArray.empty l hn (fun k _ i => spec_l2Has.l0 k l a i) 0 ?_ (fun _ _ _ _ _ _ => trivial) ?_ k (by omega) () trivial).trans (e l 0)
  · intro k i s _ hi _
    simp only [spec_l2Has.l0]
    rw [if_pos (by omega), if_pos (by omega)]
    show (if (l.getD i ByteArray.empty).toList = a.toList then _ else _) = _
    split <;> rfl
  · intro k s _ _
    simp only [spec_l2Has.l0]
    rw [if_neg (by omega)]
theorem impl_Fun_refs_f (a : ByteArray) (b : Bool) (l : List S110) (hn : l.length ≤ 8796093022207) (k : Nat) (hk : 2 * l.length + 5 < k) : impl_Fun_refs.f k a b l = some (refsV l) := by
  unfold impl_Fun_refs.f
  refine (loop_run (fun _ x s => (.inl (refsAdd x s) : List ByteArray ⊕ Option (List ByteArray))) (fun _ s => some s) (fun i s => s.length ≤ i) z110 l (by omega) (fun k s i => impl_Fun_refs.l0 k s l (l.length : Int) i) (l.length + 1) ?_ ?_ ?_ k (by omega) [] (by simp)).trans (runS_fold _ l 0 [])
  · intro k i s hK hi hs
    simp only [impl_Fun_refs.l0]
    rw [if_pos (by omega), if_pos (by omega), if_pos (by omega), impl_InsRefs_f (rd_T110 l (i : Int)).f0 _ _]
    simp only [Option.bind_some]
    rw [slices_Contains_sstring_string_f s (by omega) _ k (by omega)]
    simp only [Option.bind_some]
    show (if refersB (l.getD i z110).f0 = true then (if hasB s (l.getD i z110).f2 = true then _ else (if s.length < 8796093022208 then impl_Fun_refs.l0 k (s ++ [(l.getD i z110).f2]) l (l.length : Int) (wrap64 ((i : Int) + 1)) else none)) else _) = impl_Fun_refs.l0 k (refsAdd (l.getD i z110) s) l (l.length : Int) (wrap64 ((i : Int) + 1))
    rw [if_pos (show s.length < 8796093022208 by omega)]
    unfold refsAdd
    cases refersB (l.getD i z110).f0 <;> cases hasB s (l.getD i z110).f2 <;> rfl
  · intro i s s' hi hs he
    have := refsAdd_len (l.getD i z110) s
    cases he
    omega
  · intro k s _ _
    simp only [impl_Fun_refs.l0]
    rw [if_neg (by omega)]
theorem spec_l2Refs_f (l : List S110) (hn : l.length ≤ 8796093022207) (k : Nat) (hk : 2 * l.length + 5 < k) : spec_l2Refs.f k l = some (refsV l) := by
  unfold spec_l2Refs.f
  refine (loop_run (fun _ x s => (.inl (refsAdd x s) : List ByteArray ⊕ Option (List ByteArray))) (fun _ s => some s) (fun i s => s.length ≤ i) z110 l (by omega) (fun k s i => spec_l2Refs.l0 k l s i) (l.length + 1) ?_ ?_ ?_ k (by omega) [] (by simp)).trans (runS_fold _ l 0 [])
  · intro k i s hK hi hs
    simp only [spec_l2Refs.l0]
    rw [if_pos (by omega), if_pos (by omega), spec_InsRefs_f (rd_T110 l (i : Int)).f0 _ _]
    simp only [Option.bind_some]
    rw [spec_l2Has_f s (by omega) _ k (by omega)]
    simp only [Option.bind_some]
    show (if refersB (l.getD i z110).f0 = true then (if hasB s (l.getD i z110).f2 = true then _ else (if s.length < 8796093022208 then spec_l2Refs.l0 k l (s ++ [(l.getD i z110).f2]) (wrap64 ((i : Int) + 1)) else none)) else _) = spec_l2Refs.l0 k l (refsAdd (l.getD i z110) s) (wrap64 ((i : Int) + 1))
    rw [if_pos (show s.length < 8796093022208 by omega)]
    unfold refsAdd
    cases refersB (l.getD i z110).f0 <;> cases hasB s (l.getD i z110).f2 <;> rfl
  · intro i s s' hi hs he
    have := refsAdd_len (l.getD i z110) s
    cases he
    omega
  · intro k s _ _
    simp only [spec_l2Refs.l0]
    rw [if_neg (by omega)]
def funRefsV (x : S52) : List ByteArray := if funOkB x.f0 x.f2 = true then refsV x.f2 else []
theorem funRefsV_len (x : S52) : (funRefsV x).length ≤ 10 := by
  unfold funRefsV
  split
  · rename_i h
    have := funOkB_len h
    have := refsV_len x.f2
    omega
  · simp
theorem impl_FunRefs_f (x : S52) (hx : FitF x) (k : Nat) (hk : 100 < k) : impl_FunRefs.f k x.f0 x.f1 x.f2 = some (funRefsV x) := by
  unfold impl_FunRefs.f funRefsV
  rw [impl_FunOk_f x hx]
  simp only [Option.bind_some]
  by_cases h : funOkB x.f0 x.f2 = true
  · have := funOkB_len h
    rw [if_pos h, if_pos h, impl_Fun_refs_f x.f0 x.f1 x.f2 (by omega) k (by omega)]
    rfl
  · rw [if_neg h, if_neg h]
end Go.Proofs.Ytppmalfpggkpdaa.L

/- The names that functions lack; when a program is ok. -/
namespace Go.Proofs.Ytppmalfpggkpdaa.L
open Go.RowKit Go.Proofs.YtppmalfpggkpdaaW.PrintWords Go.Proofs.YtppmalfpggkpdaaW.PrintLast Go.Proofs.YtppmalfpggkpdaaW.PrintMore Go.Proofs.Ytppmalfpggkpdaa.P
set_option linter.unusedVariables false
set_option linter.unusedSimpArgs false
/-- Of some names, those that no function of p has. -/
def lackOf (p : List S52) (ns : List ByteArray) : List ByteArray := ns.filter fun a => decide (findI p a < 0)
def lackRaw (p l : List S52) : List ByteArray := l.flatMap fun x => lackOf p (refsV x.f2)
theorem lackOf_len (p : List S52) (ns : List ByteArray) : (lackOf p ns).length ≤ ns.length := List.length_filter_le _ _
def goodRaw (p : List S52) : Bool := p.all fun x => (refsV x.f2).all fun a => !decide (findI p a < 0)
theorem lackRaw_good (p : List S52) : (lackRaw p p).isEmpty = goodRaw p := by
  have key : ∀ l : List S52, (lackRaw p l).isEmpty = l.all fun x => (refsV x.f2).all fun a => !decide (findI p a < 0) := by
    intro l
    induction l with
    | nil => rfl
    | cons x l ih =>
      have e : lackRaw p (x :: l) = lackOf p (refsV x.f2) ++ lackRaw p l := by simp [lackRaw]
      have e2 : ∀ ns : List ByteArray, (lackOf p ns).isEmpty = ns.all fun a => !decide (findI p a < 0) := by
        intro ns
        induction ns with
        | nil => rfl
        | cons a ns ih2 =>
          rw [List.all_cons, ← ih2]
          unfold lackOf
          rw [List.filter_cons]
          cases h : decide (findI p a < 0) with
          | true => simp
          | false => simp
      have e3 : ∀ a b : List ByteArray, (a ++ b).isEmpty = (a.isEmpty && b.isEmpty) := fun a b => by cases a <;> rfl
      rw [e, List.all_cons, ← ih, ← e2, e3]
  exact key p
theorem compact_nil_iff (l : List (List UInt8)) : (Lib.compact l).isEmpty = l.isEmpty := by
  have key : ∀ (d : Array (List UInt8)) (m : Nat), Lib.compactUpTo d (m + 1) ≠ [] := by
    intro d m
    induction m with
    | zero =>
      rw [Lib.compactUpTo_succ]
      have : Lib.keeps d 0 = true := by simp [Lib.keeps]
      rw [if_pos this]
      simp
    | succ m ih =>
      rw [Lib.compactUpTo_succ]
      intro h
      exact ih (List.append_eq_nil_iff.mp h).1
  cases l with
  | nil => rfl
  | cons x l =>
    have := key (x :: l).toArray l.length
    unfold Lib.compact
    cases h : Lib.compactUpTo (x :: l).toArray (x :: l).length with
    | nil => exact absurd h this
    | cons _ _ => rfl
theorem orderedV_nil (l : List ByteArray) : (orderedV l).isEmpty = l.isEmpty := by
  have h1 : ∀ m : List (List UInt8), (textsL m).isEmpty = m.isEmpty := fun m => by cases m <;> rfl
  have h2 : ∀ m : List (List UInt8), (sortV m).isEmpty = m.isEmpty := fun m => by
    have := List.length_mergeSort (le := fun x y => decide (x ≤ y)) m
    cases h : sortV m with
    | nil => unfold sortV at h; rw [h] at this; cases m with
      | nil => rfl
      | cons _ _ => simp at this
    | cons _ _ => unfold sortV at h; rw [h] at this; cases m with
      | nil => simp at this
      | cons _ _ => rfl
  have h3 : (bytesL l).isEmpty = l.isEmpty := by cases l <;> rfl
  unfold orderedV
  rw [h1, compact_nil_iff, h2, h3]
theorem len_isEmpty {α : Type} (l : List α) : (((l.length : Nat) : Int) == 0) = l.isEmpty := by
  cases l with
  | nil => rfl
  | cons x l => simp only [List.length_cons, List.isEmpty_cons, beq_eq_false_iff_ne]; omega
theorem runS_filter {β : Type} (q : ByteArray → Bool) (E : List ByteArray → β) : ∀ (l : List ByteArray) (i : Nat) (s : List ByteArray), runS (fun _ a s => if q a then (.inl (s ++ [a]) : List ByteArray ⊕ β) else .inl s) E l i s = E (s ++ l.filter q)
  | [], _, s => by simp [runS]
  | a :: l, i, s => by
    simp only [runS, List.filter_cons]
    cases h : q a with
    | true => rw [if_pos rfl, if_pos rfl]; simp only; rw [runS_filter q E l (i + 1) (s ++ [a]), List.append_assoc]; rfl
    | false => rw [if_neg (by decide), if_neg (by decide)]; simp only; exact runS_filter q E l (i + 1) s
theorem runS_flat {β : Type} (p : List S52) (E : List ByteArray → β) : ∀ (l : List S52) (i : Nat) (s : List ByteArray), runS (fun _ x s => (.inl (s ++ lackOf p (refsV x.f2)) : List ByteArray ⊕ β)) E l i s = E (s ++ lackRaw p l)
  | [], _, s => by simp [runS, lackRaw]
  | x :: l, i, s => by
    simp only [runS]
    rw [runS_flat p E l (i + 1) _, List.append_assoc]
    rfl
theorem impl_lacking_l1 (p l : List S52) (c j : Int) (ns : List ByteArray) (hn : ns.length ≤ 1000) (s : List ByteArray) (hs : s.length ≤ 1000000) (k : Nat) (hk : ns.length < k) :
    impl_lacking.l1 k p s l c j ns (ns.length : Int) 0 = impl_lacking.l0 (k - ns.length - 1) p (s ++ lackOf p ns) l c (wrap64 (j + 1)) := by
  refine (loop_run (fun _ a s => if decide (findI p a < 0) then (.inl (s ++ [a]) : List ByteArray ⊕ Option (List ByteArray)) else .inl s) (fun k s => impl_lacking.l0 k p s l c (wrap64 (j + 1))) (fun i s => s.length ≤ 1000000 + i) ByteArray.empty ns (by omega) (fun k s i => impl_lacking.l1 k p s l c j ns (ns.length : Int) i) 0 ?_ ?_ ?_ k (by omega) s (by omega)).trans (runS_filter _ _ ns 0 s)
  · intro k i s _ hi hI
    simp only [impl_lacking.l1, impl_find.f]
    rw [if_pos (by omega), if_pos (by omega), if_pos (by omega)]
    simp only [Option.bind_some]
    show (if findI p (ns.getD i ByteArray.empty) < 0 then (if s.length < 8796093022208 then impl_lacking.l1 k p (s ++ [ns.getD i ByteArray.empty]) l c j ns (ns.length : Int) (wrap64 ((i : Int) + 1)) else none) else _) = _
    rw [if_pos (show s.length < 8796093022208 by omega)]
    by_cases h : findI p (ns.getD i ByteArray.empty) < 0
    · rw [if_pos h, if_pos (decide_eq_true h)]
    · rw [if_neg h, if_neg (by rw [decide_eq_false h]; decide)]
  · intro i s s' hi hI he
    split at he
    · cases he; simp only [List.length_append, List.length_cons, List.length_nil]; omega
    · cases he; omega
  · intro k s _ _
    simp only [impl_lacking.l1]
    rw [if_neg (by omega)]
theorem impl_lacking_f (p : List S52) (hn : p.length ≤ 100) (hx : ∀ x ∈ p, x.f2.length ≤ 100) (k : Nat) (hk : 100000 < k) : impl_lacking.f k p = some (orderedV (lackRaw p p)) := by
  unfold impl_lacking.f
  refine (loop_var (fun _ x s => (.inl (s ++ lackOf p (refsV x.f2)) : List ByteArray ⊕ Option (List ByteArray))) (fun s => some (orderedV s)) (fun i s => s.length ≤ 100 * i) z52 p (by omega) (fun k s i => impl_lacking.l0 k p s p (p.length : Int) i) 1000 200 ?_ ?_ k (by omega) [] (by simp)).trans (by rw [runS_flat]; rfl)
  · intro k i s hK hi hs
    have hr := refsV_len (p.getD i z52).f2
    have hx2 := hx _ (getD_mem (d := z52) hi)
    have hl := lackOf_len p (refsV (p.getD i z52).f2)
    simp only
    refine ⟨by rw [List.length_append]; omega, k - (refsV (p.getD i z52).f2).length - 1, by omega, ?_⟩
    simp only [impl_lacking.l0]
    rw [show rd_T52 p (i : Int) = p.getD i z52 from rfl]
    rw [if_pos (by omega), if_pos (by omega), if_pos (by omega), impl_Fun_refs_f _ _ (p.getD i z52).f2 (by omega) k (by omega)]
    simp only [Option.bind_some]
    rw [impl_lacking_l1 p p _ _ _ (by omega) s (by omega) k (by omega)]
  · intro k s _ hs
    simp only [impl_lacking.l0]
    rw [if_neg (by omega)]
    unfold impl_ordered.f
    rw [if_pos (by omega)]
    rfl
def keepOkB (p : List S52) : Bool := (decide (1 ≤ (p.length : Int)) && decide ((p.length : Int) ≤ 40)) && (unitGood p && goodRaw p)
theorem unitGood_len {p : List S52} (h : unitGood p = true) : ∀ x ∈ p, x.f2.length ≤ 10 := by
  have key : ∀ (l : List S52) (i : Nat), allFrom (fun i x => funOkB x.f0 x.f2 && (findI p x.f0 == (i : Int))) l i = true → ∀ x ∈ l, x.f2.length ≤ 10 := by
    intro l
    induction l with
    | nil => intro i _ x hx; simp at hx
    | cons y l ih =>
      intro i h x hx
      simp only [allFrom, Bool.and_eq_true] at h
      rcases List.mem_cons.mp hx with rfl | hx
      · exact (funOkB_len h.1.1).2
      · exact ih (i + 1) h.2 x hx
  exact key p 0 h
theorem impl_KeepOk_f (p : List S52) (hn : p.length ≤ 140737488351232) (hx : ∀ x ∈ p, FitF x) (k : Nat) (hk : 100000 + p.length < k) : impl_KeepOk.f k p = some (keepOkB p) := by
  unfold impl_KeepOk.f keepOkB
  rw [impl_in_f]
  simp only [Option.bind_some]
  cases h1 : decide (1 ≤ (p.length : Int)) && decide ((p.length : Int) ≤ 40) with
  | false => rw [if_neg (by decide)]; rfl
  | true =>
    rw [if_pos rfl, impl_funsOk_f p hn hx k (by omega)]
    simp only [Option.bind_some, Bool.true_and]
    cases h2 : unitGood p with
    | false => rw [if_neg (by decide)]; rfl
    | true =>
      simp only [Bool.and_eq_true, decide_eq_true_eq] at h1
      have h3 := unitGood_len h2
      rw [if_pos rfl, impl_lacking_f p (by omega) (fun x hx => by have := h3 x hx; omega) k (by omega)]
      simp only [Option.bind_some, Bool.true_and]
      rw [len_isEmpty, orderedV_nil, lackRaw_good]
theorem runS_all {β : Type} (q : ByteArray → Bool) (E : β) (F : β) : ∀ (l : List ByteArray) (i : Nat), runS (fun _ a (_ : Unit) => if q a then (.inr F : Unit ⊕ β) else .inl ()) (fun _ => E) l i () = if (l.all fun a => !q a) = true then E else F
  | [], _ => rfl
  | a :: l, i => by
    simp only [runS]
    by_cases h : q a = true
    · rw [if_pos h, show ((a :: l).all fun a => !q a) = false by rw [List.all_cons, h]; rfl]; rfl
    · have h' : q a = false := by simpa using h
      rw [if_neg h, show ((a :: l).all fun a => !q a) = (l.all fun a => !q a) by rw [List.all_cons, h']; rfl]; exact runS_all q E F l (i + 1)
theorem spec_KeepOk_l2 (p : List S52) (hn : p.length ≤ 1000) (j : Int) (ns : List ByteArray) (hl : ns.length ≤ 1000) (k : Nat) (hk : 1001 + ns.length < k) :
    spec_KeepOk.l2 k p j ns 0 = if (ns.all fun a => !decide (findI p a < 0)) = true then spec_KeepOk.l1 (k - ns.length - 1) p (wrap64 (j + 1)) else some false := by
  refine (loop_run (fun _ a (_ : Unit) => if decide (findI p a < 0) then (.inr (some false) : Unit ⊕ Option Bool) else .inl ()) (fun k _ => spec_KeepOk.l1 k p (wrap64 (j + 1))) (fun _ _ => True) ByteArray.empty ns (by omega) (fun k _ i => spec_KeepOk.l2 k p j ns i) 1001 ?_ (fun _ _ _ _ _ _ => trivial) ?_ k (by omega) () trivial).trans (runS_all _ _ _ ns 0)
  · intro k i s hK hi _
    simp only [spec_KeepOk.l2]
    rw [if_pos (by omega), if_pos (by omega), spec_l2Find_f p (by omega) _ k (by omega)]
    simp only [Option.bind_some]
    show (if findI p (ns.getD i ByteArray.empty) < 0 then _ else _) = _
    by_cases h : findI p (ns.getD i ByteArray.empty) < 0
    · rw [if_pos h, if_pos (decide_eq_true h)]
    · rw [if_neg h, if_neg (by rw [decide_eq_false h]; decide)]
  · intro k s _ _
    simp only [spec_KeepOk.l2]
    rw [if_neg (by omega)]
theorem runS_allF {β : Type} (q : S52 → Bool) (E : β) (F : β) : ∀ (l : List S52) (i : Nat), runS (fun _ a (_ : Unit) => if q a then (.inl () : Unit ⊕ β) else .inr F) (fun _ => E) l i () = if l.all q = true then E else F
  | [], _ => rfl
  | a :: l, i => by
    simp only [runS]
    by_cases h : q a = true
    · rw [if_pos h, show (a :: l).all q = l.all q by rw [List.all_cons, h]; rfl]; exact runS_allF q E F l (i + 1)
    · have h' : q a = false := by simpa using h
      rw [if_neg h, show (a :: l).all q = false by rw [List.all_cons, h']; rfl]; rfl
theorem spec_KeepOk_l1 (p : List S52) (hn : p.length ≤ 1000) (hx : ∀ x ∈ p, x.f2.length ≤ 10) (k : Nat) (hk : 200000 < k) : spec_KeepOk.l1 k p 0 = some (goodRaw p) := by
  refine (loop_var (fun _ x (_ : Unit) => if (refsV x.f2).all (fun a => !decide (findI p a < 0)) then (.inl () : Unit ⊕ Option Bool) else .inr (some false)) (fun _ => some true) (fun _ _ => True) z52 p (by omega) (fun k _ i => spec_KeepOk.l1 k p i) 2000 100 ?_ ?_ k (by omega) () trivial).trans ?_
  · intro k i s hK hi _
    have hr := refsV_len (p.getD i z52).f2
    have hx2 := hx _ (getD_mem (d := z52) hi)
    have e : spec_KeepOk.l1 (k + 1) p (i : Int) = if ((refsV (p.getD i z52).f2).all fun a => !decide (findI p a < 0)) = true then spec_KeepOk.l1 (k - (refsV (p.getD i z52).f2).length - 1) p (wrap64 ((i : Int) + 1)) else some false := by
      simp only [spec_KeepOk.l1]
      rw [show rd_T52 p (i : Int) = p.getD i z52 from rfl]
      rw [if_pos (by omega), if_pos (by omega), spec_l2Refs_f (p.getD i z52).f2 (by omega) k (by omega)]
      simp only [Option.bind_some]
      rw [spec_KeepOk_l2 p hn _ _ (by omega) k (by omega)]
    simp only [e]
    cases h : (refsV (p.getD i z52).f2).all fun a => !decide (findI p a < 0) with
    | true => exact ⟨trivial, k - (refsV (p.getD i z52).f2).length - 1, by omega, rfl⟩
    | false => rfl
  · intro k s _ _
    simp only [spec_KeepOk.l1]
    rw [if_neg (by omega)]
  · rw [runS_allF]
    unfold goodRaw
    split
    · rename_i h; rw [h]
    · rename_i h; rw [Bool.not_eq_true] at h; rw [h]
theorem spec_KeepOk_f (p : List S52) (hn : p.length ≤ 140737488351232) (hx : ∀ x ∈ p, FitF x) (k : Nat) (hk : 1000000000000000 ≤ k) : spec_KeepOk.f k p = some (keepOkB p) := by
  obtain ⟨m, rfl⟩ : ∃ m, k = m + 1 := ⟨k - 1, by omega⟩
  have hj (b : Bool) : spec_KeepOk.j0 (m + 1) p b = if b = true then some false else spec_KeepOk.l0 m p 0 := by simp only [spec_KeepOk.j0]
  unfold spec_KeepOk.f keepOkB
  rw [hj, hj]
  by_cases h1 : (p.length : Int) < 1
  · rw [if_pos h1, if_pos rfl, decide_eq_false (by omega)]; rfl
  · rw [if_neg h1, decide_eq_true (show 1 ≤ (p.length : Int) by omega)]
    by_cases h2 : (p.length : Int) > 40
    · rw [if_pos (decide_eq_true h2), decide_eq_false (show ¬ (p.length : Int) ≤ 40 by omega)]; rfl
    · rw [if_neg (by rw [decide_eq_false h2]; decide), decide_eq_true (show (p.length : Int) ≤ 40 by omega)]
      simp only [Bool.true_and]
      have e := loop_run (fun i x (_ : Unit) => if funOkB x.f0 x.f2 && (findI p x.f0 == (i : Int)) then (.inl () : Unit ⊕ Option Bool) else .inr (some false)) (fun k _ => spec_KeepOk.l1 k p 0) (fun _ _ => True) z52 p (by omega) (fun k _ i => spec_KeepOk.l0 k p i) 300000000000000 ?_ (fun _ _ _ _ _ _ => trivial) ?_ m (by omega) () trivial
      · rw [e]
        have key : ∀ (l : List S52) (i : Nat) (E : Option Bool), runS (fun i x (_ : Unit) => if funOkB x.f0 x.f2 && (findI p x.f0 == (i : Int)) then (.inl () : Unit ⊕ Option Bool) else .inr (some false)) (fun _ => E) l i () = if allFrom (fun i x => funOkB x.f0 x.f2 && (findI p x.f0 == (i : Int))) l i = true then E else some false := by
          intro l
          induction l with
          | nil => intro i E; rfl
          | cons x l ih =>
            intro i E
            simp only [runS]
            by_cases h : (funOkB x.f0 x.f2 && (findI p x.f0 == (i : Int))) = true
            · rw [if_pos h, show allFrom (fun i x => funOkB x.f0 x.f2 && (findI p x.f0 == (i : Int))) (x :: l) i = allFrom (fun i x => funOkB x.f0 x.f2 && (findI p x.f0 == (i : Int))) l (i + 1) by simp only [allFrom, h, Bool.true_and]]; exact ih (i + 1) E
            · have h' : (funOkB x.f0 x.f2 && (findI p x.f0 == (i : Int))) = false := Bool.eq_false_iff.mpr h
              rw [if_neg h, show allFrom (fun i x => funOkB x.f0 x.f2 && (findI p x.f0 == (i : Int))) (x :: l) i = false by simp only [allFrom, h', Bool.false_and]]; rfl
        rw [key p 0 _]
        show (if unitGood p = true then _ else _) = _
        cases h3 : unitGood p with
        | false => rfl
        | true =>
          rw [if_pos rfl, spec_KeepOk_l1 p (by omega) (unitGood_len h3) _ (by omega)]
          rfl
      · intro k i s hK hi _
        have hf := hx _ (getD_mem (d := z52) hi)
        simp only [spec_KeepOk.l0]
        rw [if_pos (by omega), if_pos (by omega), spec_FunOk_f (rd_T52 p (i : Int)) hf k (by have := hf.2.1; have e9 : rd_T52 p (i : Int) = p.getD i z52 := rfl; rw [e9]; omega)]
        simp only [Option.bind_some]
        show (if funOkB (p.getD i z52).f0 (p.getD i z52).f2 = true then _ else _) = _
        cases h3 : funOkB (p.getD i z52).f0 (p.getD i z52).f2 with
        | false => rw [if_neg (by decide)]; rfl
        | true =>
          rw [if_pos rfl, spec_l2Find_f p (by omega) _ k (by omega)]
          simp only [Option.bind_some, Bool.true_and]
          show (if findI p (p.getD i z52).f0 = (i : Int) then _ else _) = _
          by_cases hq : findI p (p.getD i z52).f0 = (i : Int)
          · rw [if_pos hq, if_pos (beq_iff_eq.mpr hq)]
          · rw [if_neg hq, if_neg (by rw [beq_eq_false_iff_ne.mpr hq]; decide)]
      · intro k s _ _
        simp only [spec_KeepOk.l0]
        rw [if_neg (by omega)]
end Go.Proofs.Ytppmalfpggkpdaa.L

/- What the reference lacks. -/
namespace Go.Proofs.Ytppmalfpggkpdaa.L
open Go.RowKit Go.Proofs.YtppmalfpggkpdaaW.PrintWords Go.Proofs.YtppmalfpggkpdaaW.PrintLast Go.Proofs.YtppmalfpggkpdaaW.PrintMore Go.Proofs.Ytppmalfpggkpdaa.P
set_option linter.unusedVariables false
set_option linter.unusedSimpArgs false
theorem puts_len (ns : List ByteArray) : ∀ s : List ByteArray, (ns.foldl putB s).length ≤ s.length + ns.length := by
  induction ns with
  | nil => intro s; simp
  | cons a ns ih =>
    intro s
    have := ih (putB s a)
    have := putB_len a s
    simp only [List.foldl, List.length_cons]
    omega
theorem runS_puts {β : Type} (p : List S52) (E : List ByteArray → β) : ∀ (l : List ByteArray) (i : Nat) (s : List ByteArray), runS (fun _ a s => if decide (findI p a < 0) then (.inl (putB s a) : List ByteArray ⊕ β) else .inl s) E l i s = E ((lackOf p l).foldl putB s)
  | [], _, s => rfl
  | a :: l, i, s => by
    simp only [runS, lackOf, List.filter_cons]
    by_cases h : decide (findI p a < 0) = true
    · rw [if_pos h, if_pos h]; exact runS_puts p E l (i + 1) (putB s a)
    · rw [if_neg h, if_neg h]; exact runS_puts p E l (i + 1) s
theorem runS_wants {β : Type} (p : List S52) (E : List ByteArray → β) : ∀ (l : List S52) (i : Nat) (s : List ByteArray), runS (fun _ x s => (.inl ((lackOf p (refsV x.f2)).foldl putB s) : List ByteArray ⊕ β)) E l i s = E ((lackRaw p l).foldl putB s)
  | [], _, s => rfl
  | x :: l, i, s => by
    simp only [runS]
    rw [runS_wants p E l (i + 1) _, show lackRaw p (x :: l) = lackOf p (refsV x.f2) ++ lackRaw p l by simp [lackRaw], List.foldl_append]
theorem spec_l2Wants_l1 (p : List S52) (hp : p.length ≤ 1000) (j : Int) (ns : List ByteArray) (hn : ns.length ≤ 1000) (s : List ByteArray) (hs : s.length ≤ 100000) (k : Nat) (hk : 200000 + ns.length < k) :
    spec_l2Wants.l1 k p s j ns 0 = spec_l2Wants.l0 (k - ns.length - 1) p ((lackOf p ns).foldl putB s) (wrap64 (j + 1)) := by
  refine (loop_run (fun _ a s => if decide (findI p a < 0) then (.inl (putB s a) : List ByteArray ⊕ Option (List ByteArray)) else .inl s) (fun k s => spec_l2Wants.l0 k p s (wrap64 (j + 1))) (fun i s => s.length ≤ 100000 + i) ByteArray.empty ns (by omega) (fun k s i => spec_l2Wants.l1 k p s j ns i) 200000 ?_ ?_ ?_ k (by omega) s (by omega)).trans (runS_puts p _ ns 0 s)
  · intro k i s hK hi hI
    simp only [spec_l2Wants.l1]
    rw [show rdOf ByteArray.empty ns (i : Int) = ns.getD i ByteArray.empty from rfl]
    rw [if_pos (by omega), if_pos (by omega), spec_l2Find_f p (by omega) _ k (by omega)]
    simp only [Option.bind_some]
    by_cases h : findI p (ns.getD i ByteArray.empty) < 0
    · rw [if_pos h, if_pos (decide_eq_true h), spec_l2Put_f s (by omega) _ k (by omega)]
      rfl
    · rw [if_neg h, if_neg (by rw [decide_eq_false h]; decide)]
  · intro i s s' hi hI he
    split at he
    · have := putB_len (ns.getD i ByteArray.empty) s; cases he; omega
    · cases he; omega
  · intro k s _ _
    simp only [spec_l2Wants.l1]
    rw [if_neg (by omega)]
theorem spec_l2Wants_f (p : List S52) (hn : p.length ≤ 100) (hx : ∀ x ∈ p, x.f2.length ≤ 100) (k : Nat) (hk : 1000000 < k) : spec_l2Wants.f k p = some (orderedV (lackRaw p p)) := by
  unfold spec_l2Wants.f
  refine (loop_var (fun _ x s => (.inl ((lackOf p (refsV x.f2)).foldl putB s) : List ByteArray ⊕ Option (List ByteArray))) (fun s => some s) (fun i s => s.length ≤ 100 * i) z52 p (by omega) (fun k s i => spec_l2Wants.l0 k p s i) 300000 200 ?_ ?_ k (by omega) [] (by simp)).trans (by rw [runS_wants, puts_ordered])
  · intro k i s hK hi hs
    have hr := refsV_len (p.getD i z52).f2
    have hx2 := hx _ (getD_mem (d := z52) hi)
    have hl := lackOf_len p (refsV (p.getD i z52).f2)
    have hq := puts_len (lackOf p (refsV (p.getD i z52).f2)) s
    simp only
    refine ⟨by omega, k - (refsV (p.getD i z52).f2).length - 1, by omega, ?_⟩
    simp only [spec_l2Wants.l0]
    rw [show rd_T52 p (i : Int) = p.getD i z52 from rfl]
    rw [if_pos (by omega), if_pos (by omega), spec_l2Refs_f (p.getD i z52).f2 (by omega) k (by omega)]
    simp only [Option.bind_some]
    rw [spec_l2Wants_l1 p (by omega) _ _ (by omega) s (by omega) k (by omega)]
  · intro k s _ hs
    simp only [spec_l2Wants.l0]
    rw [if_neg (by omega)]
end Go.Proofs.Ytppmalfpggkpdaa.L

/- The names that a unit lacks: both sides. -/
namespace Go.Proofs.Ytppmalfpggkpdaa.L
open Go.RowKit Go.Proofs.YtppmalfpggkpdaaW.PrintWords Go.Proofs.YtppmalfpggkpdaaW.PrintLast Go.Proofs.YtppmalfpggkpdaaW.PrintMore Go.Proofs.Ytppmalfpggkpdaa.P
set_option linter.unusedVariables false
set_option linter.unusedSimpArgs false
def unitWantsV (l : List S52) : List ByteArray := if unitOkB l = true then orderedV (lackRaw l l) else []
theorem unitOk_bounds {l : List S52} (h : unitOkB l = true) : l.length ≤ 5 ∧ ∀ x ∈ l, x.f2.length ≤ 10 := by
  unfold unitOkB at h
  simp only [Bool.and_eq_true, decide_eq_true_eq] at h
  exact ⟨h.2, unitGood_len h.1⟩
theorem orderedV_len (ns : List ByteArray) : (orderedV ns).length ≤ ns.length := by
  have := puts_len ns []
  rw [puts_ordered] at this
  simpa using this
theorem lackRaw_len (p : List S52) (B : Nat) : ∀ l : List S52, (∀ x ∈ l, x.f2.length ≤ B) → (lackRaw p l).length ≤ l.length * B
  | [], _ => by simp [lackRaw]
  | x :: l, h => by
    have e : lackRaw p (x :: l) = lackOf p (refsV x.f2) ++ lackRaw p l := by simp [lackRaw]
    have h1 := lackRaw_len p B l (fun y hy => h y (List.mem_cons_of_mem _ hy))
    have h2 := lackOf_len p (refsV x.f2)
    have h3 := refsV_len x.f2
    have h4 := h x (List.mem_cons_self ..)
    rw [e, List.length_append, List.length_cons, Nat.succ_mul]
    omega
theorem unitWantsV_len (l : List S52) : (unitWantsV l).length ≤ 50 := by
  unfold unitWantsV
  split
  · rename_i h
    obtain ⟨h1, h2⟩ := unitOk_bounds h
    have := orderedV_len (lackRaw l l)
    have := lackRaw_len l 10 l h2
    omega
  · simp
theorem impl_UnitWants_f (l : List S52) (hn : l.length ≤ 140737488351232) (hx : ∀ x ∈ l, FitF x) (k : Nat) (hk : 1000000 + l.length < k) : impl_UnitWants.f k l = some (unitWantsV l) := by
  unfold impl_UnitWants.f unitWantsV
  rw [impl_UnitOk_f l hn hx k (by omega)]
  simp only [Option.bind_some]
  cases h : unitOkB l with
  | false => rfl
  | true =>
    obtain ⟨h1, h2⟩ := unitOk_bounds h
    simp only [if_true]
    rw [impl_lacking_f l (by omega) (fun x hx => by have := h2 x hx; omega) k (by omega)]
    rfl
theorem spec_UnitWants_f (l : List S52) (hn : l.length ≤ 140737488351232) (hx : ∀ x ∈ l, FitF x) (k : Nat) (hk : 500000000000000 ≤ k) : spec_UnitWants.f k l = some (unitWantsV l) := by
  unfold spec_UnitWants.f unitWantsV
  rw [spec_UnitOk_f l hn hx k (by omega)]
  simp only [Option.bind_some]
  cases h : unitOkB l with
  | false => rfl
  | true =>
    obtain ⟨h1, h2⟩ := unitOk_bounds h
    simp only [if_true]
    rw [spec_l2Wants_f l (by omega) (fun x hx => by have := h2 x hx; omega) k (by omega)]
    rfl
end Go.Proofs.Ytppmalfpggkpdaa.L

/- The marks in functions: how many there are. -/
namespace Go.Proofs.Ytppmalfpggkpdaa.L
open Go.RowKit Go.Proofs.YtppmalfpggkpdaaW.PrintWords Go.Proofs.YtppmalfpggkpdaaW.PrintLast Go.Proofs.YtppmalfpggkpdaaW.PrintMore Go.Proofs.Ytppmalfpggkpdaa.P
set_option linter.unusedVariables false
set_option linter.unusedSimpArgs false
theorem szFold_marks (l : List S95) : ∀ s : Int, 0 ≤ s → 0 ≤ szFold gFun l s → 3 * szFold gFun l s + markLen (l.map cvFun) ≤ 3 * s + 2 * l.length := by
  induction l with
  | nil => intro s _ _; simp [szFold, markLen]
  | cons x l ih =>
    intro s hs h
    have hg := gFun_le x s hs
    simp only [szFold] at h ⊢
    by_cases h0 : gFun x s < 0
    · rw [if_pos h0] at h; omega
    · rw [if_neg h0] at h ⊢
      have := ih (gFun x s) (by omega) h
      have hx : gFun x s ≤ s - (x.f2.length : Int) := by
        unfold gFun at h0 ⊢
        have h1 := szS_le x.f0 s hs
        by_cases c : szS x.f0 s < 0
        · rw [if_pos c] at h0; omega
        · rw [if_neg c] at h0 ⊢
          unfold szL at h0 ⊢
          by_cases c2 : szS x.f0 s < (x.f2.length : Int)
          · rw [if_pos c2] at h0; omega
          · rw [if_neg c2] at h0 ⊢
            have := szFold_le gIns gIns_le x.f2 (szS x.f0 s - x.f2.length) (by omega)
            omega
      simp only [List.map_cons, markLen, cvFun, List.length_map, List.length_cons]
      push_cast
      have e : markLen (l.map cvFun) = markLen (List.map cvFun l) := rfl
      simp only [cvFun] at *
      omega
theorem gFunS_marks (l : List S95) (s : Int) (hs : 0 ≤ s) (h : ¬ gFunS l s < 0) : markLen (l.map cvFun) ≤ 3 * s := by
  unfold gFunS szL at h
  by_cases c : s < (l.length : Int)
  · rw [if_pos c] at h; omega
  · rw [if_neg c] at h
    have := szFold_marks l (s - l.length) (by omega) (by omega)
    omega
theorem eqStrS_f (l m : List ByteArray) (hn : l.length ≤ 9223372036854775807) (k : Nat) (hk : l.length < k) : laws_eqStringS.f k l m = some (all2 strSame l m) := by
  unfold laws_eqStringS.f
  by_cases hl : l.length = m.length
  · rw [if_pos (by omega)]
    refine loop_all2 strSame ByteArray.empty ByteArray.empty l m hl hn (fun k i => laws_eqStringS.l0 k l m i) 0 ?_ ?_ ?_ k (by omega)
    · intro k i hK hi hq
      have hi' : i < m.length := by omega
      simp only [laws_eqStringS.l0]
      rw [if_pos (by omega), if_pos (by omega), if_pos (by omega)]
      rw [if_pos (show (rdOf ByteArray.empty l (i : Int)).toList = (rdOf ByteArray.empty m (i : Int)).toList from beq_iff_eq.mp hq)]
    · intro k i hK hi hq
      have hi' : i < m.length := by omega
      simp only [laws_eqStringS.l0]
      rw [if_pos (by omega), if_pos (by omega), if_pos (by omega)]
      rw [if_neg (show ¬ ((rdOf ByteArray.empty l (i : Int)).toList = (rdOf ByteArray.empty m (i : Int)).toList) from beq_eq_false_iff_ne.mp hq)]
    · intro k hK
      simp only [laws_eqStringS.l0]
      rw [if_neg (by omega)]
  · rw [if_neg (by omega), all2_len _ _ _ hl]
end Go.Proofs.Ytppmalfpggkpdaa.L

/- The program's UnitWants returns what the reference's returns, for all arguments. -/
namespace Go.Proofs.Ytppmalfpggkpdaa.Pure
open Go.RowKit Go.Proofs.Ytppmalfpggkpdaa.P Go.Proofs.Ytppmalfpggkpdaa.L Go.Proofs.YtppmalfpggkpdaaW.PrintWords
set_option linter.unusedVariables false
theorem all2_str (l : List ByteArray) : all2 strSame l l = true := all2_refl _ _ (fun x _ => beq_self_eq_true _)
theorem FnExactUnitWants : laws_FnExactUnitWants.Pure := by
  intro x h_x
  replace h_x : OkU x := h_x
  obtain ⟨K, hK⟩ : ∃ K : Nat, 10000000000000000000 ≤ K := ⟨_, Nat.le_refl _⟩
  refine ⟨K + 12, ?_⟩
  unfold laws_FnExactUnitWants.f
  rw [a_szFunS h_x 1048576 (by decide) (by decide) _ (by omega)]
  simp only [Option.bind_some]
  by_cases c_x : gFunS x 1048576 < 0
  · rw [if_pos c_x]
  rw [if_neg c_x]
  have hl : (x.map cvFun).length ≤ 2932031007402 := by rw [List.length_map]; exact h_x.len
  have e1 : ∀ k, 1000000000000000000 ≤ k → spec_UnitWants.f k (x.map cvFun) = some (unitWantsV (x.map cvFun)) := fun k hk => spec_UnitWants_f (x.map cvFun) (by omega) (fits_cv h_x) k (by omega)
  have e2 : ∀ k, 1000000000000000000 ≤ k → impl_UnitWants.f k (x.map cvFun) = some (unitWantsV (x.map cvFun)) := fun k hk => impl_UnitWants_f (x.map cvFun) (by omega) (fits_cv h_x) k (by omega)
  have hv : (unitWantsV (x.map cvFun)).length ≤ 1000 := by have := unitWantsV_len (x.map cvFun); omega
  generalize unitWantsV (x.map cvFun) = v at e1 e2 hv
  have e3 : ∀ k, 1000000000000000000 ≤ k → laws_eqStringS.f k v v = some true := fun k hk => by rw [eqStrS_f _ _ (by omega) k (by omega), all2_str]
  have hm := gFunS_marks x 1048576 (by decide) c_x
  have hm0 := markLen_nonneg (x.map cvFun)
  have e4 : laws_markFunS.f (x.map cvFun) 1 = some (1 + markLen (x.map cvFun)) := by
    unfold laws_markFunS.f
    rw [if_pos ⟨by omega, by omega, fun y hy => by have := cv_len h_x y hy; omega⟩]
  obtain ⟨r5, e5, c5, c6, c7⟩ := markStringS_f v (by omega) (K + 7) (by omega)
  have e6 : ∀ k, 1000000000000000000 ≤ k → laws_heldStringS.f k r5.2 1 = some (1 + (r5.2.length : Int)) := fun k hk => heldStringS_f r5.2 (by omega) c7 k (by omega)
  simp only [laws_FnExactUnitWants.j0]
  rw [a_toFunS h_x _ (by omega)]
  simp only [Option.bind_some]
  rw [e1 _ (by omega), e2 _ (by omega)]
  simp only [Option.bind_some]
  rw [e3 _ (by omega)]
  simp only [Option.bind_some, if_true, laws_FnExactUnitWants.j1]
  rw [a_toFunS h_x _ (by omega)]
  simp only [Option.bind_some]
  rw [a_eqFunS h_x _ (by omega)]
  simp only [Option.bind_some, if_true, laws_FnExactUnitWants.j2]
  rw [e4]
  simp only [Option.bind_some]
  rw [if_neg (by omega), e3 _ (by omega)]
  simp only [Option.bind_some, laws_FnExactUnitWants.j3]
  rw [if_neg (by decide)]
  simp only [laws_FnExactUnitWants.j4]
  rw [e5]
  simp only [Option.bind_some]
  rw [e6 _ (by omega)]
  simp only [Option.bind_some]
  rw [if_neg (by omega)]
  simp only [laws_FnExactUnitWants.j5]
  rw [if_pos (by omega)]
  simp only [laws_FnExactUnitWants.j6]
  rw [a_toFunS h_x _ (by omega)]
  simp only [Option.bind_some]
  rw [e2 _ (by omega)]
  simp only [Option.bind_some]
  rw [e3 _ (by omega)]
  simp only [Option.bind_some, if_true, laws_FnExactUnitWants.j7]
  rw [e6 _ (by omega)]
  simp only [Option.bind_some]
  rw [if_neg (by omega), if_pos (by omega)]
end Go.Proofs.Ytppmalfpggkpdaa.Pure
