-- PximplUnitOk, PximplUnitFind, PxspecUnitOk, LUnit, LAllU, LRun, PximplFunRefs, LRefs, LLack, PureFnExactKeepOk: put together by squash.py
import Derived.Test.YtppmalfpggkpdaaSqFnExactKeepOk1
import Derived.Test.YtppmalfpggkpdaaSqFnExactKeepOk6
import Derived.Test.YtppmalfpggkpdaaSqFnExactKeepOk4
import Derived.Test.YtppmalfpggkpdaaSqFnExactKeepOk3
import Derived.Test.YtppmalfpggkpdaaSqFnExactKeepOk5
import Derived.Test.YtppmalfpggkpdaaSqFnExactKeepOk2

-- made by printx.py (own driver over the kit's print); Lean checks it
namespace Go.Proofs.Ytppmalfpggkpdaa.P
open Go.RowKit Go.Proofs.YtppmalfpggkpdaaW.PrintWords Go.Proofs.YtppmalfpggkpdaaW.PrintLast Go.Proofs.YtppmalfpggkpdaaW.PrintMore
attribute [local go_sem] max2_int min2_int max_two min_two max_three min_three max_four min_four   -- for this text's walks alone
set_option linter.unusedVariables false
set_option linter.unusedSimpArgs false

/-! ### impl_UnitOk: function 69 -/
def impl_UnitOk.f (k : Nat) (l0 : List (S52)) : Option (Bool) := if (l0.length : Int) ≤ 5 then ((impl_funsOk.f k l0).bind fun t269 => (some t269)) else (some false)
theorem impl_UnitOk.mono : ∀ a0 k, LeO (impl_UnitOk.f k a0) (impl_UnitOk.f (k + 1) a0) := by
  intro a0 k
  unfold impl_UnitOk.f
  repeat' first
      | (with_reducible exact impl_funsOk.mono _ _)
      | (with_reducible exact LeO.refl _)
      | (with_reducible exact LeO.none _)
      | (with_reducible refine LeO.ite ?_ ?_)
      | (with_reducible refine LeO.bind ?_ (fun _ => ?_))
      | exact impl_funsOk.mono _ _
      | exact LeO.none _
      | refine LeO.ite ?_ ?_
      | refine LeO.bind ?_ (fun _ => ?_)
set_option maxHeartbeats 8000000 in
set_option maxRecDepth 100000 in
theorem impl_UnitOk.calls (k : Nat) (A0 : Option Addr) (c0 : Nat) (l0 : List (S52)) (r : Bool) (w : World) (hr0 : Kd.C k52 w A0 l0.length l0) (hc0 : l0.length ≤ c0) (h : impl_UnitOk.f k l0 = some r) :
    Calls Try.prog 69 #[.slice A0 l0.length c0] w fun e w' => e = .returned (.bool r) ∧ Below w.heap.size w w' := by
  have HR0 := Aside0.mk hr0
  have HC0 := Aside0.mk hc0
  clear hr0 hc0
  have HB := Aside0.mk (Below.refl w.heap.size w)
  have H : (if (l0.length : Int) ≤ 5 then ((impl_funsOk.f k l0).bind fun t269 => (some t269)) else (some false)) = some r := h
  clear h
  by_cases c2 : (l0.length : Int) ≤ 5
  · rw [if_pos c2] at H
    have c2b0 : decide ((l0.length : Int) ≤ 5) = true := decide_eq_true c2
    have c2b1 : decide (l0.length ≤ 5) = true := decide_eq_true (by omega)
    clear c2
    replace H := Option.bind_eq_some_iff.mp H
    obtain ⟨t269, A30, H⟩ := H
    replace H : (some t269) = some r := H
    have A3 := Aside0.mk A30
    clear A30
    obtain rfl := Option.some.inj H
    go_enter Try.func69, Try.ntmps69
    go_wp2_with (first | (go_at_call 76; (with_reducible refine (impl_funsOk.calls k _ _ l0 t269 _ ?side1 ?side2 A3.out).mono ?_); (case side1 => repeat (first | exact HR0.out | (with_reducible refine Kd.C_alloc ?_ _) | (with_reducible refine Kd.C_drewN ?_ _) | (with_reducible refine Kd.C_drew ?_))); (case side2 => exact HC0.out); rintro e w4 ⟨rfl, hb⟩; have n0_ := Aside0.mk (below_step (by repeat (first | (with_reducible first | exact HB.out | apply below_alloc | apply pw_below_drewN | apply below_drew1) | exact HB.out)) hb); clear HB; have HB := n0_; clear n0_; (try clear hb); (try clear hb2); (try clear hk); (try clear hi)))
    go_ret
    exact ⟨by first | rfl | (simp [errW_none, errW_some] <;> rfl) | (simp [*, errW_none, errW_some] <;> rfl), by repeat (first | (with_reducible first | exact HB.out | apply below_alloc | apply pw_below_drewN | apply below_drew1) | exact HB.out)⟩
  · rw [if_neg c2] at H
    have c2b0 : decide ((l0.length : Int) ≤ 5) = false := decide_eq_false c2
    have c2b1 : decide (l0.length ≤ 5) = false := decide_eq_false (by omega)
    clear c2
    obtain rfl := Option.some.inj H
    go_enter Try.func69, Try.ntmps69
    go_wp2
    go_ret
    exact ⟨by first | rfl | (simp [errW_none, errW_some] <;> rfl) | (simp [*, errW_none, errW_some] <;> rfl), by repeat (first | (with_reducible first | exact HB.out | apply below_alloc | apply pw_below_drewN | apply below_drew1) | exact HB.out)⟩

end Go.Proofs.Ytppmalfpggkpdaa.P

-- made by printx.py (own driver over the kit's print); Lean checks it
namespace Go.Proofs.Ytppmalfpggkpdaa.P
open Go.RowKit Go.Proofs.YtppmalfpggkpdaaW.PrintWords Go.Proofs.YtppmalfpggkpdaaW.PrintLast Go.Proofs.YtppmalfpggkpdaaW.PrintMore
attribute [local go_sem] max2_int min2_int max_two min_two max_three min_three max_four min_four   -- for this text's walks alone
set_option linter.unusedVariables false
set_option linter.unusedSimpArgs false

/-! ### impl_UnitFind: function 38 -/
def impl_UnitFind.f (k : Nat) (l0 : List (S52)) (a1 : ByteArray) : Option (Int) := (impl_UnitOk.f k l0).bind fun t748 => (if t748 = true then ((impl_find.f l0 a1).bind fun t749 => (some t749)) else (some (-1)))
theorem impl_UnitFind.mono : ∀ a0 a1 k, LeO (impl_UnitFind.f k a0 a1) (impl_UnitFind.f (k + 1) a0 a1) := by
  intro a0 a1 k
  unfold impl_UnitFind.f
  repeat' first
      | (with_reducible exact impl_UnitOk.mono _ _)
      | (with_reducible exact LeO.refl _)
      | (with_reducible exact LeO.none _)
      | (with_reducible refine LeO.ite ?_ ?_)
      | (with_reducible refine LeO.bind ?_ (fun _ => ?_))
      | exact impl_UnitOk.mono _ _
      | exact LeO.none _
      | refine LeO.ite ?_ ?_
      | refine LeO.bind ?_ (fun _ => ?_)
set_option maxHeartbeats 8000000 in
set_option maxRecDepth 100000 in
theorem impl_UnitFind.calls (k : Nat) (A0 : Option Addr) (c0 : Nat) (l0 : List (S52)) (a1 : ByteArray) (r : Int) (w : World) (hr0 : Kd.C k52 w A0 l0.length l0) (hc0 : l0.length ≤ c0) (h : impl_UnitFind.f k l0 a1 = some r) :
    Calls Try.prog 38 #[.slice A0 l0.length c0, .string a1] w fun e w' => e = .returned (.int .i64 r) ∧ Below w.heap.size w w' := by
  have HR0 := Aside0.mk hr0
  have HC0 := Aside0.mk hc0
  clear hr0 hc0
  have HB := Aside0.mk (Below.refl w.heap.size w)
  have H : ((impl_UnitOk.f k l0).bind fun t748 => (if t748 = true then ((impl_find.f l0 a1).bind fun t749 => (some t749)) else (some (-1)))) = some r := h
  clear h
  replace H := Option.bind_eq_some_iff.mp H
  obtain ⟨t748, A30, H⟩ := H
  replace H : (if t748 = true then ((impl_find.f l0 a1).bind fun t749 => (some t749)) else (some (-1))) = some r := H
  have A3 := Aside0.mk A30
  clear A30
  by_cases c4 : t748 = true
  · subst c4
    have H1 : ((impl_find.f l0 a1).bind fun t749 => (some t749)) = some r := by rw [if_pos rfl] at H; exact H
    clear H
    have H := H1
    clear H1
    replace H := Option.bind_eq_some_iff.mp H
    obtain ⟨t749, A50, H⟩ := H
    replace H : (some t749) = some r := H
    have A5 := Aside0.mk A50
    clear A50
    obtain rfl := Option.some.inj H
    go_enter Try.func38, Try.ntmps38
    go_wp2_with (first | ((with_reducible refine gate_callee (f := 69) rfl ?_); refine goesL_ (some 6) rfl rfl Try.func69 (by kernel_rfl) rfl #[.slice A0 l0.length c0] rfl (by (try simp only [List.map_toArray, List.map_cons, List.map_nil]); first | done | rfl | (simp only [List.length_drop, List.length_take]; rfl)) ?_; (with_reducible refine (impl_UnitOk.calls k _ _ l0 true _ ?side1 ?side2 A3.out).mono ?_); (case side1 => repeat (first | exact HR0.out | (with_reducible refine Kd.C_alloc ?_ _) | (with_reducible refine Kd.C_drewN ?_ _) | (with_reducible refine Kd.C_drew ?_))); (case side2 => exact HC0.out); rintro e w6 ⟨rfl, hb⟩; refine ⟨_, rfl, ?_⟩; have n0_ := Aside0.mk (below_step (by repeat (first | (with_reducible first | exact HB.out | apply below_alloc | apply pw_below_drewN | apply below_drew1) | exact HB.out)) hb); clear HB; have HB := n0_; clear n0_; (try clear hb); (try clear hb2); (try clear hk); (try clear hi)) | ((with_reducible refine gate_callee (f := 82) rfl ?_); refine goesL_ (some 10) rfl rfl Try.func82 (by kernel_rfl) rfl #[.slice A0 l0.length c0, .string a1] rfl (by (try simp only [List.map_toArray, List.map_cons, List.map_nil]); first | done | rfl | (simp only [List.length_drop, List.length_take]; rfl)) ?_; (with_reducible refine (impl_find.calls _ _ l0 a1 t749 _ ?side1 ?side2 A5.out).mono ?_); (case side1 => repeat (first | exact (Kd.C_below HR0.out HB.out) | (with_reducible refine Kd.C_alloc ?_ _) | (with_reducible refine Kd.C_drewN ?_ _) | (with_reducible refine Kd.C_drew ?_))); (case side2 => exact HC0.out); rintro e w7 ⟨rfl, hb⟩; refine ⟨_, rfl, ?_⟩; have n0_ := Aside0.mk (below_step (by repeat (first | (with_reducible first | exact HB.out | apply below_alloc | apply pw_below_drewN | apply below_drew1) | exact HB.out)) hb); clear HB; have HB := n0_; clear n0_; (try clear hb); (try clear hb2); (try clear hk); (try clear hi)))
    go_ret
    exact ⟨by first | rfl | (simp [errW_none, errW_some] <;> rfl) | (simp [*, errW_none, errW_some] <;> rfl), by repeat (first | (with_reducible first | exact HB.out | apply below_alloc | apply pw_below_drewN | apply below_drew1) | exact HB.out)⟩
  · replace c4 := Bool.eq_false_iff.mpr c4
    subst c4
    have H1 : (some (-1)) = some r := by rw [if_neg (show ¬ (false = true) by decide)] at H; exact H
    clear H
    have H := H1
    clear H1
    obtain rfl := Option.some.inj H
    go_enter Try.func38, Try.ntmps38
    go_wp2_with (first | ((with_reducible refine gate_callee (f := 69) rfl ?_); refine goesL_ (some 6) rfl rfl Try.func69 (by kernel_rfl) rfl #[.slice A0 l0.length c0] rfl (by (try simp only [List.map_toArray, List.map_cons, List.map_nil]); first | done | rfl | (simp only [List.length_drop, List.length_take]; rfl)) ?_; (with_reducible refine (impl_UnitOk.calls k _ _ l0 false _ ?side1 ?side2 A3.out).mono ?_); (case side1 => repeat (first | exact HR0.out | (with_reducible refine Kd.C_alloc ?_ _) | (with_reducible refine Kd.C_drewN ?_ _) | (with_reducible refine Kd.C_drew ?_))); (case side2 => exact HC0.out); rintro e w8 ⟨rfl, hb⟩; refine ⟨_, rfl, ?_⟩; have n0_ := Aside0.mk (below_step (by repeat (first | (with_reducible first | exact HB.out | apply below_alloc | apply pw_below_drewN | apply below_drew1) | exact HB.out)) hb); clear HB; have HB := n0_; clear n0_; (try clear hb); (try clear hb2); (try clear hk); (try clear hi)))
    go_ret
    exact ⟨by first | rfl | (simp [errW_none, errW_some] <;> rfl) | (simp [*, errW_none, errW_some] <;> rfl), by repeat (first | (with_reducible first | exact HB.out | apply below_alloc | apply pw_below_drewN | apply below_drew1) | exact HB.out)⟩

end Go.Proofs.Ytppmalfpggkpdaa.P

-- made by printx.py (own driver over the kit's print); Lean checks it
namespace Go.Proofs.Ytppmalfpggkpdaa.P
open Go.RowKit Go.Proofs.YtppmalfpggkpdaaW.PrintWords Go.Proofs.YtppmalfpggkpdaaW.PrintLast Go.Proofs.YtppmalfpggkpdaaW.PrintMore
attribute [local go_sem] max2_int min2_int max_two min_two max_three min_three max_four min_four   -- for this text's walks alone
set_option linter.unusedVariables false
set_option linter.unusedSimpArgs false

/-! ### spec_UnitOk: function 36 -/
def spec_UnitOk.l0 : Nat → List (S52) → Int → Option (Bool)
  | 0, _, _ => none
  | k + 1, x0, x3 => if x3 < (x0.length : Int) then (if 0 ≤ x3 then ((spec_FunOk.f k ((rd_T52 x0 x3).f0) ((rd_T52 x0 x3).f1) ((rd_T52 x0 x3).f2)).bind fun t121 => (if t121 = true then ((spec_l2Find.f k x0 ((rd_T52 x0 x3).f0)).bind fun t123 => (if t123 = x3 then (spec_UnitOk.l0 k x0 (wrap64 (x3 + 1))) else (some false))) else (some false))) else (none)) else (some (decide ((x0.length : Int) ≤ 5)))
def spec_UnitOk.f (k : Nat) (l0 : List (S52)) : Option (Bool) := spec_UnitOk.l0 k l0 0
theorem spec_UnitOk.mono_l : ∀ k, (∀ y0 y1, LeO (spec_UnitOk.l0 k y0 y1) (spec_UnitOk.l0 (k + 1) y0 y1))
  | 0 => fun _ _ r h => by simp [spec_UnitOk.l0] at h
  | k + 1 => by
    have ih0 := spec_UnitOk.mono_l k
    · intro y0 y1
      unfold spec_UnitOk.l0
      repeat' first
      | (with_reducible exact ih0 _ _)
      | (with_reducible exact spec_FunOk.mono _ _ _ _)
      | (with_reducible exact spec_l2Find.mono _ _ _)
      | (with_reducible exact LeO.refl _)
      | (with_reducible exact LeO.none _)
      | (with_reducible refine LeO.ite ?_ ?_)
      | (with_reducible refine LeO.bind ?_ (fun _ => ?_))
      | exact ih0 _ _
      | exact spec_FunOk.mono _ _ _ _
      | exact spec_l2Find.mono _ _ _
      | exact LeO.none _
      | refine LeO.ite ?_ ?_
      | refine LeO.bind ?_ (fun _ => ?_)
theorem spec_UnitOk.mono : ∀ a0 k, LeO (spec_UnitOk.f k a0) (spec_UnitOk.f (k + 1) a0) := by
  intro a0 k
  have ih0 := spec_UnitOk.mono_l k
  unfold spec_UnitOk.f
  repeat' first
      | (with_reducible exact ih0 _ _)
      | (with_reducible exact spec_FunOk.mono _ _ _ _)
      | (with_reducible exact spec_l2Find.mono _ _ _)
      | (with_reducible exact LeO.refl _)
      | (with_reducible exact LeO.none _)
      | (with_reducible refine LeO.ite ?_ ?_)
      | (with_reducible refine LeO.bind ?_ (fun _ => ?_))
      | exact ih0 _ _
      | exact spec_FunOk.mono _ _ _ _
      | exact spec_l2Find.mono _ _ _
      | exact LeO.none _
      | refine LeO.ite ?_ ?_
      | refine LeO.bind ?_ (fun _ => ?_)
set_option maxHeartbeats 8000000 in
set_option maxRecDepth 100000 in
theorem spec_UnitOk.calls (k : Nat) (A0 : Option Addr) (c0 : Nat) (l0 : List (S52)) (r : Bool) (w : World) (hr0 : Kd.C k52 w A0 l0.length l0) (hc0 : l0.length ≤ c0) (h : spec_UnitOk.f k l0 = some r) :
    Calls Try.prog 36 #[.slice A0 l0.length c0] w fun e w' => e = .returned (.bool r) ∧ Below w.heap.size w w' := by
  have hu52 := Try.underlying52
  have HR0 := Aside0.mk hr0
  have HC0 := Aside0.mk hc0
  clear hr0 hc0
  have HB := Aside0.mk (Below.refl w.heap.size w)
  have H : (spec_UnitOk.l0 k l0 0) = some r := h
  clear h
  have H' := Aside0.mk H
  clear H
  go_enter Try.func36, Try.ntmps36
  go_wp2
  go_loopg [3] k (fun kq v3 w' => ∃ (x3_1 : Int), v3 = .int .i64 x3_1 ∧ Aside0 (spec_UnitOk.l0 kq l0 x3_1 = some r) ∧ Aside0 (kq ≤ k) ∧ Aside0 (Below w.heap.size w w'))
  case atStart => exact ⟨(0), (by first | rfl | (simp; done) | (simp [*]; done)), H', ⟨Nat.le_refl _⟩, ⟨by repeat (first | (with_reducible first | exact HB.out | apply below_alloc | apply pw_below_drewN | apply below_drew1) | exact HB.out)⟩⟩
  case round =>
    clear H'
    obtain ⟨x3_1, rfl, HA, HK1, HB⟩ := hrel
    cases gk with
    | zero => exact absurd HA.out (by simp [spec_UnitOk.l0])
    | succ k1 =>
      have H := HA.out
      clear HA
      simp only [spec_UnitOk.l0] at H
      by_cases c2 : x3_1 < (l0.length : Int)
      · rw [if_pos c2] at H
        have c2b0 : decide (x3_1 < (l0.length : Int)) = true := decide_eq_true c2
        clear c2
        by_cases c3 : 0 ≤ x3_1
        · rw [if_pos c3] at H
          have c3b0 : decide (0 ≤ x3_1) = true := decide_eq_true c3
          clear c3
          replace H := Option.bind_eq_some_iff.mp H
          obtain ⟨t121, A40, H⟩ := H
          replace H : (if t121 = true then ((spec_l2Find.f k1 l0 ((rd_T52 l0 x3_1).f0)).bind fun t123 => (if t123 = x3_1 then (spec_UnitOk.l0 k1 l0 (wrap64 (x3_1 + 1))) else (some false))) else (some false)) = some r := H
          have A4 := Aside0.mk A40
          clear A40
          by_cases c5 : t121 = true
          · subst c5
            have H1 : ((spec_l2Find.f k1 l0 ((rd_T52 l0 x3_1).f0)).bind fun t123 => (if t123 = x3_1 then (spec_UnitOk.l0 k1 l0 (wrap64 (x3_1 + 1))) else (some false))) = some r := by rw [if_pos rfl] at H; exact H
            clear H
            have H := H1
            clear H1
            replace H := Option.bind_eq_some_iff.mp H
            obtain ⟨t123, A60, H⟩ := H
            replace H : (if t123 = x3_1 then (spec_UnitOk.l0 k1 l0 (wrap64 (x3_1 + 1))) else (some false)) = some r := H
            have A6 := Aside0.mk A60
            clear A60
            by_cases c7 : t123 = x3_1
            · rw [if_pos c7] at H
              have c7b0 : (t123 == x3_1) = true := beq_iff_eq.mpr c7
              have c7b1 : (t123 != x3_1) = false := bne_eq_false_iff_eq.mpr c7
              clear c7
              have H' := Aside0.mk H
              clear H
              have p120 : 0 ≤ (x3_1 : Int) := of_decide_eq_true (by first | (with_reducible assumption) | assumption)
              have q120 : x3_1 < (l0.length : Int) := of_decide_eq_true (by first | (with_reducible assumption) | assumption)
              obtain ⟨ad120, A120_2, c120_2, e120, hx120_0, hx120_1, hx120_2, hl120_2, hi120_2⟩ := at_T52 HR0.out x3_1 p120 q120
              cases e120
              replace hx120_0 := (HB.out.cell (World.block_lt_of_cell? w _ hx120_0)).trans hx120_0
              replace hx120_1 := (HB.out.cell (World.block_lt_of_cell? w _ hx120_1)).trans hx120_1
              replace hx120_2 := (HB.out.cell (World.block_lt_of_cell? w _ hx120_2)).trans hx120_2
              have HR120_2 := Aside0.mk hi120_2
              have HC120_2 := Aside0.mk hl120_2
              clear hi120_2 hl120_2
              replace p120 := eq_true p120
              replace q120 := eq_true q120
              go_wp2_with (first | ((with_reducible refine gate_callee (f := 71) rfl ?_); refine goesL_ (some 14) rfl rfl Try.func71 (by kernel_rfl) rfl #[.agg #[.string ((rd_T52 l0 x3_1).f0), .bool ((rd_T52 l0 x3_1).f1), .slice A120_2 ((rd_T52 l0 x3_1).f2).length c120_2]] rfl (by (try simp only [List.map_toArray, List.map_cons, List.map_nil]); first | done | rfl | (simp only [List.length_drop, List.length_take]; rfl)) ?_; (with_reducible refine (spec_FunOk.calls k1 ((rd_T52 l0 x3_1).f0) ((rd_T52 l0 x3_1).f1) _ _ ((rd_T52 l0 x3_1).f2) true _ ?side1 ?side2 A4.out).mono ?_); (case side1 => repeat (first | exact (Kd.C_below HR120_2.out HB.out) | (with_reducible refine Kd.C_alloc ?_ _) | (with_reducible refine Kd.C_drewN ?_ _) | (with_reducible refine Kd.C_drew ?_))); (case side2 => exact HC120_2.out); rintro e w8 ⟨rfl, hb⟩; refine ⟨_, rfl, ?_⟩; have n0_ := Aside0.mk (below_step (by repeat (first | (with_reducible first | exact HB.out | apply below_alloc | apply pw_below_drewN | apply below_drew1) | exact HB.out)) hb); clear HB; have HB := n0_; clear n0_; (try clear hb); (try clear hb2); (try clear hk); (try clear hi); have p122 : 0 ≤ (x3_1 : Int) := of_decide_eq_true (by first | (with_reducible assumption) | assumption); have q122 : x3_1 < (l0.length : Int) := of_decide_eq_true (by first | (with_reducible assumption) | assumption); obtain ⟨ad122, A122_2, c122_2, e122, hx122_0, hx122_1, hx122_2, hl122_2, hi122_2⟩ := at_T52 HR0.out x3_1 p122 q122; obtain rfl : ad120 = ad122 := (by injection e122); replace hx122_0 := (HB.out.cell (World.block_lt_of_cell? w _ hx122_0)).trans hx122_0; replace hx122_1 := (HB.out.cell (World.block_lt_of_cell? w _ hx122_1)).trans hx122_1; replace hx122_2 := (HB.out.cell (World.block_lt_of_cell? w _ hx122_2)).trans hx122_2; have HR122_2 := Aside0.mk hi122_2; have HC122_2 := Aside0.mk hl122_2; clear hi122_2 hl122_2; replace p122 := eq_true p122; replace q122 := eq_true q122) | (go_at_call 72; (with_reducible refine (spec_l2Find.calls k1 _ _ l0 ((rd_T52 l0 x3_1).f0) t123 _ ?side1 ?side2 A6.out).mono ?_); (case side1 => repeat (first | exact (Kd.C_below HR0.out HB.out) | (with_reducible refine Kd.C_alloc ?_ _) | (with_reducible refine Kd.C_drewN ?_ _) | (with_reducible refine Kd.C_drew ?_))); (case side2 => exact HC0.out); rintro e w' ⟨rfl, ⟨nd, rfl⟩⟩))
              go_roundg k1
              case measure => have := HK1.out; omega
              case rel => exact ⟨(wrap64 (x3_1 + 1)), (by first | rfl | (simp; done) | (simp [*]; done)), H', ⟨by have := HK1.out; omega⟩, ⟨by repeat (first | (with_reducible first | exact HB.out | apply below_alloc | apply pw_below_drewN | apply below_drew1) | exact HB.out)⟩⟩
            · rw [if_neg c7] at H
              have c7b0 : (t123 == x3_1) = false := beq_eq_false_iff_ne.mpr c7
              have c7b1 : (t123 != x3_1) = true := bne_iff_ne.mpr c7
              obtain rfl := Option.some.inj H
              have p120 : 0 ≤ (x3_1 : Int) := of_decide_eq_true (by first | (with_reducible assumption) | assumption)
              have q120 : x3_1 < (l0.length : Int) := of_decide_eq_true (by first | (with_reducible assumption) | assumption)
              obtain ⟨ad120, A120_2, c120_2, e120, hx120_0, hx120_1, hx120_2, hl120_2, hi120_2⟩ := at_T52 HR0.out x3_1 p120 q120
              cases e120
              replace hx120_0 := (HB.out.cell (World.block_lt_of_cell? w _ hx120_0)).trans hx120_0
              replace hx120_1 := (HB.out.cell (World.block_lt_of_cell? w _ hx120_1)).trans hx120_1
              replace hx120_2 := (HB.out.cell (World.block_lt_of_cell? w _ hx120_2)).trans hx120_2
              have HR120_2 := Aside0.mk hi120_2
              have HC120_2 := Aside0.mk hl120_2
              clear hi120_2 hl120_2
              replace p120 := eq_true p120
              replace q120 := eq_true q120
              go_wp2_with (first | ((with_reducible refine gate_callee (f := 71) rfl ?_); refine goesL_ (some 14) rfl rfl Try.func71 (by kernel_rfl) rfl #[.agg #[.string ((rd_T52 l0 x3_1).f0), .bool ((rd_T52 l0 x3_1).f1), .slice A120_2 ((rd_T52 l0 x3_1).f2).length c120_2]] rfl (by (try simp only [List.map_toArray, List.map_cons, List.map_nil]); first | done | rfl | (simp only [List.length_drop, List.length_take]; rfl)) ?_; (with_reducible refine (spec_FunOk.calls k1 ((rd_T52 l0 x3_1).f0) ((rd_T52 l0 x3_1).f1) _ _ ((rd_T52 l0 x3_1).f2) true _ ?side1 ?side2 A4.out).mono ?_); (case side1 => repeat (first | exact (Kd.C_below HR120_2.out HB.out) | (with_reducible refine Kd.C_alloc ?_ _) | (with_reducible refine Kd.C_drewN ?_ _) | (with_reducible refine Kd.C_drew ?_))); (case side2 => exact HC120_2.out); rintro e w9 ⟨rfl, hb⟩; refine ⟨_, rfl, ?_⟩; have n0_ := Aside0.mk (below_step (by repeat (first | (with_reducible first | exact HB.out | apply below_alloc | apply pw_below_drewN | apply below_drew1) | exact HB.out)) hb); clear HB; have HB := n0_; clear n0_; (try clear hb); (try clear hb2); (try clear hk); (try clear hi); have p122 : 0 ≤ (x3_1 : Int) := of_decide_eq_true (by first | (with_reducible assumption) | assumption); have q122 : x3_1 < (l0.length : Int) := of_decide_eq_true (by first | (with_reducible assumption) | assumption); obtain ⟨ad122, A122_2, c122_2, e122, hx122_0, hx122_1, hx122_2, hl122_2, hi122_2⟩ := at_T52 HR0.out x3_1 p122 q122; obtain rfl : ad120 = ad122 := (by injection e122); replace hx122_0 := (HB.out.cell (World.block_lt_of_cell? w _ hx122_0)).trans hx122_0; replace hx122_1 := (HB.out.cell (World.block_lt_of_cell? w _ hx122_1)).trans hx122_1; replace hx122_2 := (HB.out.cell (World.block_lt_of_cell? w _ hx122_2)).trans hx122_2; have HR122_2 := Aside0.mk hi122_2; have HC122_2 := Aside0.mk hl122_2; clear hi122_2 hl122_2; replace p122 := eq_true p122; replace q122 := eq_true q122) | (go_at_call 72; (with_reducible refine (spec_l2Find.calls k1 _ _ l0 ((rd_T52 l0 x3_1).f0) t123 _ ?side1 ?side2 A6.out).mono ?_); (case side1 => repeat (first | exact (Kd.C_below HR0.out HB.out) | (with_reducible refine Kd.C_alloc ?_ _) | (with_reducible refine Kd.C_drewN ?_ _) | (with_reducible refine Kd.C_drew ?_))); (case side2 => exact HC0.out); rintro e w' ⟨rfl, ⟨nd, rfl⟩⟩))
              go_ret
              exact ⟨by first | rfl | (simp [errW_none, errW_some] <;> rfl) | (simp [*, errW_none, errW_some] <;> rfl), by repeat (first | (with_reducible first | exact HB.out | apply below_alloc | apply pw_below_drewN | apply below_drew1) | exact HB.out)⟩
          · replace c5 := Bool.eq_false_iff.mpr c5
            subst c5
            have H1 : (some false) = some r := by rw [if_neg (show ¬ (false = true) by decide)] at H; exact H
            clear H
            have H := H1
            clear H1
            obtain rfl := Option.some.inj H
            have p120 : 0 ≤ (x3_1 : Int) := of_decide_eq_true (by first | (with_reducible assumption) | assumption)
            have q120 : x3_1 < (l0.length : Int) := of_decide_eq_true (by first | (with_reducible assumption) | assumption)
            obtain ⟨ad120, A120_2, c120_2, e120, hx120_0, hx120_1, hx120_2, hl120_2, hi120_2⟩ := at_T52 HR0.out x3_1 p120 q120
            cases e120
            replace hx120_0 := (HB.out.cell (World.block_lt_of_cell? w _ hx120_0)).trans hx120_0
            replace hx120_1 := (HB.out.cell (World.block_lt_of_cell? w _ hx120_1)).trans hx120_1
            replace hx120_2 := (HB.out.cell (World.block_lt_of_cell? w _ hx120_2)).trans hx120_2
            have HR120_2 := Aside0.mk hi120_2
            have HC120_2 := Aside0.mk hl120_2
            clear hi120_2 hl120_2
            replace p120 := eq_true p120
            replace q120 := eq_true q120
            go_wp2_with (first | ((with_reducible refine gate_callee (f := 71) rfl ?_); refine goesL_ (some 14) rfl rfl Try.func71 (by kernel_rfl) rfl #[.agg #[.string ((rd_T52 l0 x3_1).f0), .bool ((rd_T52 l0 x3_1).f1), .slice A120_2 ((rd_T52 l0 x3_1).f2).length c120_2]] rfl (by (try simp only [List.map_toArray, List.map_cons, List.map_nil]); first | done | rfl | (simp only [List.length_drop, List.length_take]; rfl)) ?_; (with_reducible refine (spec_FunOk.calls k1 ((rd_T52 l0 x3_1).f0) ((rd_T52 l0 x3_1).f1) _ _ ((rd_T52 l0 x3_1).f2) false _ ?side1 ?side2 A4.out).mono ?_); (case side1 => repeat (first | exact (Kd.C_below HR120_2.out HB.out) | (with_reducible refine Kd.C_alloc ?_ _) | (with_reducible refine Kd.C_drewN ?_ _) | (with_reducible refine Kd.C_drew ?_))); (case side2 => exact HC120_2.out); rintro e w10 ⟨rfl, hb⟩; refine ⟨_, rfl, ?_⟩; have n0_ := Aside0.mk (below_step (by repeat (first | (with_reducible first | exact HB.out | apply below_alloc | apply pw_below_drewN | apply below_drew1) | exact HB.out)) hb); clear HB; have HB := n0_; clear n0_; (try clear hb); (try clear hb2); (try clear hk); (try clear hi)))
            go_ret
            exact ⟨by first | rfl | (simp [errW_none, errW_some] <;> rfl) | (simp [*, errW_none, errW_some] <;> rfl), by repeat (first | (with_reducible first | exact HB.out | apply below_alloc | apply pw_below_drewN | apply below_drew1) | exact HB.out)⟩
        · rw [if_neg c3] at H
          exact absurd H (by simp)
      · rw [if_neg c2] at H
        have c2b0 : decide (x3_1 < (l0.length : Int)) = false := decide_eq_false c2
        clear c2
        obtain rfl := Option.some.inj H
        go_wp2
        go_ret
        exact ⟨by first | rfl | (simp [errW_none, errW_some] <;> rfl) | (simp [*, errW_none, errW_some] <;> rfl), by repeat (first | (with_reducible first | exact HB.out | apply below_alloc | apply pw_below_drewN | apply below_drew1) | exact HB.out)⟩

end Go.Proofs.Ytppmalfpggkpdaa.P

/- When a unit is ok, and where its functions are: what the printed functions of both sides compute. -/
namespace Go.Proofs.Ytppmalfpggkpdaa.L
open Go.RowKit Go.Proofs.YtppmalfpggkpdaaW.PrintWords Go.Proofs.YtppmalfpggkpdaaW.PrintLast Go.Proofs.YtppmalfpggkpdaaW.PrintMore Go.Proofs.Ytppmalfpggkpdaa.P
set_option linter.unusedVariables false
set_option linter.unusedSimpArgs false
/-- No text of the function is too long for an argument. -/
def FitI (x : S110) : Prop := x.f2.size ≤ 140737488351232
def FitF (x : S52) : Prop := x.f0.size ≤ 140737488351232 ∧ x.f2.length ≤ 140737488351232 ∧ ∀ y ∈ x.f2, y.f2.size ≤ 140737488351232
def named (a : ByteArray) (x : S52) : Bool := x.f0.toList == a.toList
def findI (l : List S52) (a : ByteArray) : Int := idxFrom (named a) l 0
def unitGood (l : List S52) : Bool := allFrom (fun i x => funOkB x.f0 x.f2 && (findI l x.f0 == (i : Int))) l 0
def unitOkB (l : List S52) : Bool := unitGood l && decide (l.length ≤ 5)
theorem impl_FunOk_f (x : S52) (h : FitF x) : impl_FunOk.f x.f0 x.f1 x.f2 = some (funOkB x.f0 x.f2) := by
  unfold impl_FunOk.f
  rw [if_pos ⟨h.1, h.2.2⟩]
theorem spec_FunOk_l0 (x : S52) (h : FitF x) (k : Nat) (hk : 140737488351236 + x.f2.length < k) : spec_FunOk.l0 k (x.f2.length : Int) 0 x.f0 x.f1 x.f2 = some (!(x.f2.any fun y => !insOkB y.f0 y.f1 y.f2)) := by
  have e := loop_all (fun _ (y : S110) => insOkB y.f0 y.f1 y.f2) z110 x.f2 true (by have := h.2.1; omega) (fun k i => spec_FunOk.l0 k (x.f2.length : Int) i x.f0 x.f1 x.f2) 140737488351236 ?_ ?_ ?_ k hk
  · rw [e, allFrom_all, Bool.and_true, all_not_any]
  · intro k i hK hi hq
    simp only [spec_FunOk.l0]
    have e := spec_InsOk_f (rd_T110 x.f2 (i : Int)).f0 (rd_T110 x.f2 (i : Int)).f1 (rd_T110 x.f2 (i : Int)).f2 (h.2.2 _ (getD_mem hi)) k (by have : (rd_T110 x.f2 (i : Int)).f2.size ≤ 140737488351232 := h.2.2 _ (getD_mem hi); omega)
    rw [show insOkB (rd_T110 x.f2 (i : Int)).f0 (rd_T110 x.f2 (i : Int)).f1 (rd_T110 x.f2 (i : Int)).f2 = true from hq] at e
    rw [if_pos (by omega), if_pos (by omega), if_pos (by omega), e]
    rfl
  · intro k i hK hi hq
    simp only [spec_FunOk.l0]
    have e := spec_InsOk_f (rd_T110 x.f2 (i : Int)).f0 (rd_T110 x.f2 (i : Int)).f1 (rd_T110 x.f2 (i : Int)).f2 (h.2.2 _ (getD_mem hi)) k (by have : (rd_T110 x.f2 (i : Int)).f2.size ≤ 140737488351232 := h.2.2 _ (getD_mem hi); omega)
    rw [show insOkB (rd_T110 x.f2 (i : Int)).f0 (rd_T110 x.f2 (i : Int)).f1 (rd_T110 x.f2 (i : Int)).f2 = false from hq] at e
    rw [if_pos (by omega), if_pos (by omega), if_pos (by omega), e]
    rfl
  · intro k hK
    simp only [spec_FunOk.l0]
    rw [if_neg (by omega)]
theorem spec_FunOk_f (x : S52) (h : FitF x) (k : Nat) (hk : 140737488351240 + x.f2.length < k) : spec_FunOk.f k x.f0 x.f1 x.f2 = some (funOkB x.f0 x.f2) := by
  obtain ⟨m, rfl⟩ : ∃ m, k = m + 1 := ⟨k - 1, by omega⟩
  have hs := h.1
  have hl := h.2.1
  unfold spec_FunOk.f funOkB
  rw [spec_NameOk_f x.f0 h.1 _ (by omega)]
  simp only [Option.bind_some]
  have j (b : Bool) : spec_FunOk.j0 (m + 1) (x.f2.length : Int) b x.f0 x.f1 x.f2 = some (!b && !(x.f2.any fun y => !insOkB y.f0 y.f1 y.f2)) := by
    simp only [spec_FunOk.j0]
    cases b with
    | true => rfl
    | false => rw [if_neg (by decide), spec_FunOk_l0 x h m (by omega)]; rfl
  cases nameOk x.f0 with
  | false => rw [if_neg (by decide), j]; rfl
  | true =>
    rw [if_pos rfl]
    by_cases h1 : (x.f2.length : Int) < 1
    · have e1 : decide (1 ≤ (x.f2.length : Int)) = false := decide_eq_false (by omega)
      rw [if_pos h1, j, e1]; rfl
    · rw [if_neg h1]
      have e1 : decide (1 ≤ (x.f2.length : Int)) = true := decide_eq_true (by omega)
      by_cases h2 : (x.f2.length : Int) > 10
      · have e2 : decide ((x.f2.length : Int) ≤ 10) = false := decide_eq_false (by omega)
        rw [if_pos h2, j, e1, e2]; rfl
      · rw [if_neg h2]
        have e2 : decide ((x.f2.length : Int) ≤ 10) = true := decide_eq_true (by omega)
        have w : wrap64 ((x.f2.length : Int) - 1) = (x.f2.length : Int) - 1 := wrap_id (by omega) (by omega)
        rw [w, if_pos (by omega), if_pos (by omega), spec_InsLast_f]
        simp only [Option.bind_some]
        rw [j, e1, e2]
        have e3 : (rd_T110 x.f2 ((x.f2.length : Int) - 1)) = x.f2.getD (x.f2.length - 1) z110 := by
          unfold rd_T110
          rw [show ((x.f2.length : Int) - 1).toNat = x.f2.length - 1 by omega]
        rw [e3]
        simp [Bool.and_comm]
theorem spec_l2Find_f (l : List S52) (hn : l.length ≤ 9223372036854775807) (a : ByteArray) (k : Nat) (hk : l.length < k) : spec_l2Find.f k l a = some (findI l a) := by
  unfold spec_l2Find.f findI
  refine loop_idx (named a) z52 l hn (fun k i => spec_l2Find.l0 k l a i) 0 ?_ ?_ ?_ k (by omega)
  · intro k i _ hi hq
    simp only [spec_l2Find.l0]
    rw [if_pos (by omega), if_pos (by omega), if_pos (show (rd_T52 l (i : Int)).f0.toList = a.toList from beq_iff_eq.mp hq)]
  · intro k i _ hi hq
    simp only [spec_l2Find.l0]
    rw [if_pos (by omega), if_pos (by omega), if_neg (show ¬ (rd_T52 l (i : Int)).f0.toList = a.toList from beq_eq_false_iff_ne.mp hq)]
  · intro k _
    simp only [spec_l2Find.l0]
    rw [if_neg (by omega)]
theorem spec_UnitOk_f (l : List S52) (hn : l.length ≤ 140737488351232) (hx : ∀ x ∈ l, FitF x) (k : Nat) (hk : 500000000000000 ≤ k) : spec_UnitOk.f k l = some (unitOkB l) := by
  unfold spec_UnitOk.f unitOkB
  have ed : decide ((l.length : Int) ≤ 5) = decide (l.length ≤ 5) := by congr 1; exact propext ⟨fun h => by omega, fun h => by omega⟩
  rw [← ed]
  have step : ∀ (k i : Nat), 300000000000000 ≤ k → i < l.length → spec_UnitOk.l0 (k + 1) l (i : Int) = if (funOkB (l.getD i z52).f0 (l.getD i z52).f2 && (findI l (l.getD i z52).f0 == (i : Int))) = true then spec_UnitOk.l0 k l (wrap64 ((i : Int) + 1)) else some false := by
    intro k i hK hi
    simp only [spec_UnitOk.l0]
    have hf := hx _ (getD_mem (d := z52) hi)
    have hl2 := hf.2.1
    have e := spec_FunOk_f (rd_T52 l (i : Int)) hf k (by have e0 : rd_T52 l (i : Int) = l.getD i z52 := rfl; rw [e0]; omega)
    rw [if_pos (by omega), if_pos (by omega), e]
    simp only [Option.bind_some]
    show (if funOkB (l.getD i z52).f0 (l.getD i z52).f2 = true then _ else _) = _
    cases funOkB (l.getD i z52).f0 (l.getD i z52).f2 with
    | false => rfl
    | true =>
      rw [if_pos rfl, spec_l2Find_f l (by omega) _ k (by omega)]
      simp only [Option.bind_some, Bool.true_and]
      show (if findI l (l.getD i z52).f0 = (i : Int) then _ else _) = _
      by_cases hq : findI l (l.getD i z52).f0 = (i : Int)
      · rw [if_pos hq, if_pos (beq_iff_eq.mpr hq)]
      · rw [if_neg hq, if_neg (by rw [beq_eq_false_iff_ne.mpr hq]; decide)]
  refine loop_all (fun i x => funOkB x.f0 x.f2 && (findI l x.f0 == (i : Int))) z52 l (decide ((l.length : Int) ≤ 5)) (by omega) (fun k i => spec_UnitOk.l0 k l i) 300000000000000 ?_ ?_ ?_ k (by omega)
  · intro k i hK hi hq
    show spec_UnitOk.l0 (k + 1) l (i : Int) = _
    rw [step k i hK hi, if_pos hq]
  · intro k i hK hi hq
    show spec_UnitOk.l0 (k + 1) l (i : Int) = _
    rw [step k i hK hi, if_neg (by rw [hq]; decide)]
  · intro k _
    simp only [spec_UnitOk.l0]
    rw [if_neg (by omega)]
theorem impl_funsOk_f (l : List S52) (hn : l.length ≤ 140737488351232) (hx : ∀ x ∈ l, FitF x) (k : Nat) (hk : l.length < k) : impl_funsOk.f k l = some (unitGood l) := by
  unfold impl_funsOk.f
  have step : ∀ (k i : Nat), i < l.length → impl_funsOk.l0 (k + 1) l l (l.length : Int) (i : Int) = if (funOkB (l.getD i z52).f0 (l.getD i z52).f2 && (findI l (l.getD i z52).f0 == (i : Int))) = true then impl_funsOk.l0 k l l (l.length : Int) (wrap64 ((i : Int) + 1)) else some false := by
    intro k i hi
    simp only [impl_funsOk.l0]
    have hf := hx _ (getD_mem (d := z52) hi)
    have e := impl_FunOk_f (rd_T52 l (i : Int)) hf
    rw [if_pos (by omega), if_pos (by omega), if_pos (by omega), e]
    simp only [Option.bind_some]
    show (if funOkB (l.getD i z52).f0 (l.getD i z52).f2 = true then _ else _) = _
    cases funOkB (l.getD i z52).f0 (l.getD i z52).f2 with
    | false => rfl
    | true =>
      rw [if_pos rfl]
      simp only [impl_find.f, Option.bind_some, Bool.true_and]
      show (if findI l (l.getD i z52).f0 = (i : Int) then _ else _) = _
      by_cases hq : findI l (l.getD i z52).f0 = (i : Int)
      · rw [if_pos hq, if_pos (beq_iff_eq.mpr hq)]
      · rw [if_neg hq, if_neg (by rw [beq_eq_false_iff_ne.mpr hq]; decide)]
  have e := loop_all (fun i x => funOkB x.f0 x.f2 && (findI l x.f0 == (i : Int))) z52 l true (by omega) (fun k i => impl_funsOk.l0 k l l (l.length : Int) i) 0 ?_ ?_ ?_ k (by omega)
  · rw [e, Bool.and_true]; rfl
  · intro k i hK hi hq
    show impl_funsOk.l0 (k + 1) l l (l.length : Int) (i : Int) = _
    rw [step k i hi, if_pos hq]
  · intro k i hK hi hq
    show impl_funsOk.l0 (k + 1) l l (l.length : Int) (i : Int) = _
    rw [step k i hi, if_neg (by rw [hq]; decide)]
  · intro k _
    simp only [impl_funsOk.l0]
    rw [if_neg (by omega)]
theorem impl_UnitOk_f (l : List S52) (hn : l.length ≤ 140737488351232) (hx : ∀ x ∈ l, FitF x) (k : Nat) (hk : l.length < k) : impl_UnitOk.f k l = some (unitOkB l) := by
  unfold impl_UnitOk.f unitOkB
  by_cases h : l.length ≤ 5
  · rw [if_pos (by omega), impl_funsOk_f l hn hx k hk]
    simp [h]
  · rw [if_neg (by omega)]
    simp [h]
def unitFindI (l : List S52) (a : ByteArray) : Int := if unitOkB l = true then findI l a else -1
theorem impl_UnitFind_f (l : List S52) (hn : l.length ≤ 140737488351232) (hx : ∀ x ∈ l, FitF x) (a : ByteArray) (k : Nat) (hk : l.length < k) : impl_UnitFind.f k l a = some (unitFindI l a) := by
  unfold impl_UnitFind.f unitFindI
  rw [impl_UnitOk_f l hn hx k hk]
  simp only [Option.bind_some]
  split <;> rfl
end Go.Proofs.Ytppmalfpggkpdaa.L

/- What the comparisons compute: two lists alike, place by place. -/
namespace Go.Proofs.Ytppmalfpggkpdaa.L
open Go.RowKit Go.Proofs.YtppmalfpggkpdaaW.PrintWords Go.Proofs.YtppmalfpggkpdaaW.PrintLast Go.Proofs.YtppmalfpggkpdaaW.PrintMore Go.Proofs.Ytppmalfpggkpdaa.P
set_option linter.unusedVariables false
set_option linter.unusedSimpArgs false

def insSame (x y : S110) : Bool := (x.f0 == y.f0) && ((x.f1 == y.f1) && (x.f2.toList == y.f2.toList))
theorem insSame_not (x y : S110) : (!(x.f0 == y.f0) || (!(x.f1 == y.f1) || (!(x.f2.toList == y.f2.toList)))) = !insSame x y := by
  simp only [insSame, Bool.not_and]
def funSame (x y : S52) : Bool := (x.f0.toList == y.f0.toList) && ((x.f1 == y.f1) && all2 insSame x.f2 y.f2)
def unitSame (l m : List S52) : Bool := all2 funSame l m
def strSame (a b : ByteArray) : Bool := a.toList == b.toList
def intSame (a b : Int) : Bool := a == b
def laySame (a : List Int) (b : List (List ByteArray)) (c : List Int) (d : List (List ByteArray)) : Bool := all2 intSame a c && all2 (all2 strSame) b d
theorem insSame_refl (x : S110) : insSame x x = true := by simp [insSame]
theorem funSame_refl (x : S52) : funSame x x = true := by simp [funSame, all2_refl insSame _ (fun y _ => insSame_refl y)]
theorem unitSame_refl (l : List S52) : unitSame l l = true := all2_refl _ _ (fun x _ => funSame_refl x)
theorem strSame_refl (a : ByteArray) : strSame a a = true := by simp [strSame]
theorem intSame_refl (a : Int) : intSame a a = true := by simp [intSame]
theorem insSame_comm (x y : S110) : insSame x y = insSame y x := by
  simp only [insSame, Bool.beq_comm (a := x.f0), Bool.beq_comm (a := x.f1), Bool.beq_comm (a := x.f2.toList)]
end Go.Proofs.Ytppmalfpggkpdaa.L
namespace Go.Proofs.Ytppmalfpggkpdaa.L
open Go.RowKit Go.Proofs.YtppmalfpggkpdaaW.PrintWords Go.Proofs.YtppmalfpggkpdaaW.PrintLast Go.Proofs.YtppmalfpggkpdaaW.PrintMore Go.Proofs.Ytppmalfpggkpdaa.P
set_option linter.unusedVariables false
set_option linter.unusedSimpArgs false

/-- What is left of a bound behind a list. -/
def szL {α : Type} (g : α → Int → Int) (l : List α) (s : Int) : Int := if s < l.length then -1 else szFold g l (s - l.length)
theorem szL_le {α : Type} (g : α → Int → Int) (h : ∀ x s, 0 ≤ s → -1 ≤ g x s ∧ g x s ≤ s) (l : List α) (s : Int) (hs : 0 ≤ s) : -1 ≤ szL g l s ∧ szL g l s ≤ s := by
  unfold szL
  split
  · omega
  · have := szFold_le g h l (s - l.length) (by omega)
    omega
/-- What is left behind a text. -/
def szS (a : ByteArray) (s : Int) : Int := if s < a.size then -1 else s - a.size
theorem szS_le (a : ByteArray) (s : Int) (hs : 0 ≤ s) : -1 ≤ szS a s ∧ szS a s ≤ s := by
  unfold szS
  split <;> omega
/-- How far a text may go. -/
abbrev Fits (s : ByteArray) : Prop := s.size ≤ 140737488351232
theorem szS_wrap (a : ByteArray) (s : Int) (ha : Fits a) (h0 : 0 ≤ s) (h1 : s ≤ 1048576) : (if (wrap64 (s - (a.size : Int))) < 0 then (-1 : Int) else (wrap64 (s - (a.size : Int)))) = szS a s := by
  rw [wrap_id (by omega) (by omega)]
  unfold szS
  by_cases h : s < a.size
  · rw [if_pos (by omega), if_pos h]
  · rw [if_neg (by omega), if_neg h]
theorem len_wrap {s : Int} {n : Nat} (hn : n ≤ 140737488351232) (h0 : 0 ≤ s) (h1 : s ≤ 1048576) : wrap64 (s - (n : Int)) = s - n := wrap_id (by omega) (by omega)
def gIns (x : S154) (s : Int) : Int := szS x.f2 s
theorem gIns_le (x : S154) (s : Int) (h : 0 ≤ s) : -1 ≤ gIns x s ∧ gIns x s ≤ s := szS_le _ _ h
def FitsIns (x : S154) : Prop := Fits x.f2
theorem laws_szIns_g (x : S154) (hx : FitsIns x) (s : Int) (h0 : 0 ≤ s) (h1 : s ≤ 1048576) : laws_szIns.f x.f0 x.f1 x.f2 s = some (gIns x s) := by
  unfold laws_szIns.f gIns
  rw [← szS_wrap x.f2 s hx h0 h1]
  split <;> rfl
theorem laws_szInsS_f (l : List S154) (hn : l.length ≤ 140737488351232) (hx : ∀ x ∈ l, FitsIns x) (s : Int) (h0 : 0 ≤ s) (h1 : s ≤ 1048576) (k : Nat) (hk : l.length < k) : laws_szInsS.f k l s = some (szL gIns l s) := by
  unfold laws_szInsS.f szL
  rw [len_wrap hn h0 h1]
  by_cases h : s < l.length
  · rw [if_pos (by omega), if_pos h]
  · rw [if_neg (by omega), if_neg h]
    refine loop_sz l z154 gIns gIns_le (by omega) (fun k s i => laws_szInsS.l0 k l s i) 0 ?_ ?_ (s - l.length) (by omega) (by omega) k (by omega)
    · intro k i s _ hi h0 h1
      simp only [laws_szInsS.l0]
      rw [if_pos (by omega), if_pos (by omega), laws_szIns_g (rd_T154 l (i : Int)) (hx _ (getD_mem hi)) s h0 h1]
      rfl
    · intro k s _
      simp only [laws_szInsS.l0]
      rw [if_neg (by omega)]
def gFun (x : S95) (s : Int) : Int := if szS x.f0 s < 0 then -1 else szL gIns x.f2 (szS x.f0 s)
theorem gFun_le (x : S95) (s : Int) (h : 0 ≤ s) : -1 ≤ gFun x s ∧ gFun x s ≤ s := by
  unfold gFun
  have := szS_le x.f0 s h
  split
  · omega
  · have := szL_le gIns gIns_le x.f2 (szS x.f0 s) (by omega)
    omega
def FitsFun (x : S95) : Prop := Fits x.f0 ∧ x.f2.length ≤ 140737488351232 ∧ ∀ y ∈ x.f2, FitsIns y
theorem laws_szFun_g (x : S95) (hx : FitsFun x) (s : Int) (h0 : 0 ≤ s) (h1 : s ≤ 1048576) (k : Nat) (hk : x.f2.length < k) : laws_szFun.f k x.f0 x.f1 x.f2 s = some (gFun x s) := by
  unfold laws_szFun.f gFun
  have e := szS_wrap x.f0 s hx.1 h0 h1
  have hb := szS_le x.f0 s h0
  have hs := hx.1
  have w : wrap64 (s - (x.f0.size : Int)) = s - x.f0.size := wrap_id (by have : x.f0.size ≤ 140737488351232 := hs; omega) (by omega)
  rw [w] at e ⊢
  by_cases h : s - (x.f0.size : Int) < 0
  · rw [if_pos h] at e ⊢
    rw [← e, if_pos (by omega)]
  · rw [if_neg h] at e ⊢
    rw [← e, if_neg h, laws_szInsS_f x.f2 hx.2.1 hx.2.2 _ (by omega) (by omega) k hk]
    simp only [Option.bind_some]
    have := szL_le gIns gIns_le x.f2 (s - x.f0.size) (by omega)
    split
    · congr 1; omega
    · rfl
theorem laws_szFunS_f (l : List S95) (hn : l.length ≤ 140737488351232) (hx : ∀ x ∈ l, FitsFun x) (B : Nat) (hB : ∀ x ∈ l, x.f2.length < B) (s : Int) (h0 : 0 ≤ s) (h1 : s ≤ 1048576) (k : Nat) (hk : B + l.length < k) : laws_szFunS.f k l s = some (szL gFun l s) := by
  unfold laws_szFunS.f szL
  rw [len_wrap hn h0 h1]
  by_cases h : s < l.length
  · rw [if_pos (by omega), if_pos h]
  · rw [if_neg (by omega), if_neg h]
    refine loop_sz l z95 gFun gFun_le (by omega) (fun k s i => laws_szFunS.l0 k l s i) B ?_ ?_ (s - l.length) (by omega) (by omega) k (by omega)
    · intro k i s hK hi h0 h1
      simp only [laws_szFunS.l0]
      rw [if_pos (by omega), if_pos (by omega), laws_szFun_g (rd_T95 l (i : Int)) (hx _ (getD_mem hi)) s h0 h1 k (by have := hB _ (getD_mem (d := z95) hi); exact Nat.lt_of_lt_of_le this hK)]
      rfl
    · intro k s _
      simp only [laws_szFunS.l0]
      rw [if_neg (by omega)]
def gFunS (l : List S95) (s : Int) : Int := szL gFun l s
theorem gFunS_le (l : List S95) (s : Int) (h : 0 ≤ s) : -1 ≤ gFunS l s ∧ gFunS l s ≤ s := szL_le _ gFun_le _ _ h
def FitsUnit (B : Nat) (u : List S95) : Prop := u.length ≤ 140737488351232 ∧ (∀ x ∈ u, FitsFun x) ∧ ∀ x ∈ u, x.f2.length < B
theorem laws_szFunS_g (B : Nat) (l : List S95) (hl : FitsUnit B l) (s : Int) (h0 : 0 ≤ s) (h1 : s ≤ 1048576) (k : Nat) (hk : B + l.length < k) : laws_szFunS.f k l s = some (gFunS l s) := laws_szFunS_f l hl.1 hl.2.1 B hl.2.2 s h0 h1 k hk
def cvIns (x : S154) : S110 := ⟨x.f0, x.f1, x.f2⟩
theorem laws_toIns_c (x : S154) : laws_toIns.f x.f0 x.f1 x.f2 = some (x.f0, x.f1, x.f2) := rfl
theorem laws_toInsS_f (l : List S154) (hn : l.length ≤ 8796093022208) (k : Nat) (hk : l.length < k) : laws_toInsS.f k l = some (l.map cvIns) := by
  unfold laws_toInsS.f
  rw [if_pos (by omega), if_pos (by omega)]
  refine loop_fill l z154 z110 cvIns (by omega) (fun k acc i => laws_toInsS.l0 k l acc i) 0 ?_ ?_ k (by omega)
  · intro k i acc hK hi ha
    simp only [laws_toInsS.l0]
    rw [if_pos (by omega), if_pos (by omega), laws_toIns_c (rd_T154 l (i : Int))]
    simp only [Option.bind_some]
    rw [if_pos (by omega)]
    rfl
  · intro k acc _
    simp only [laws_toInsS.l0]
    rw [if_neg (by omega)]
def cvFun (x : S95) : S52 := ⟨x.f0, x.f1, x.f2.map cvIns⟩
theorem laws_toFun_c (x : S95) (hn : x.f2.length ≤ 8796093022208) (k : Nat) (hk : x.f2.length < k) : laws_toFun.f k x.f0 x.f1 x.f2 = some (x.f0, x.f1, x.f2.map cvIns) := by
  unfold laws_toFun.f
  rw [laws_toInsS_f x.f2 hn k hk]
  rfl
theorem laws_toFunS_f (l : List S95) (hn : l.length ≤ 5864062014805) (hx : ∀ x ∈ l, x.f2.length ≤ 8796093022208) (B : Nat) (hB : ∀ x ∈ l, x.f2.length < B) (k : Nat) (hk : B + l.length < k) : laws_toFunS.f k l = some (l.map cvFun) := by
  unfold laws_toFunS.f
  rw [if_pos (by omega), if_pos (by omega)]
  refine loop_fill l z95 z52 cvFun (by omega) (fun k acc i => laws_toFunS.l0 k l acc i) B ?_ ?_ k (by omega)
  · intro k i acc hK hi ha
    simp only [laws_toFunS.l0]
    rw [if_pos (by omega), if_pos (by omega), laws_toFun_c (rd_T95 l (i : Int)) (hx _ (getD_mem hi)) k (by have := hB _ (getD_mem (d := z95) hi); exact Nat.lt_of_lt_of_le this hK)]
    simp only [Option.bind_some]
    rw [if_pos (by omega)]
    rfl
  · intro k acc _
    simp only [laws_toFunS.l0]
    rw [if_neg (by omega)]
def FitsMake (B : Nat) (u : List S95) : Prop := u.length ≤ 5864062014805 ∧ (∀ x ∈ u, x.f2.length ≤ 8796093022208) ∧ ∀ x ∈ u, x.f2.length < B
theorem laws_toFunS_c (B : Nat) (l : List S95) (hl : FitsMake B l) (k : Nat) (hk : B + l.length < k) : laws_toFunS.f k l = some (l.map cvFun) := laws_toFunS_f l hl.1 hl.2.1 B hl.2.2 k hk
theorem laws_eqIns_f (x y : S110) : laws_eqIns.f x.f0 x.f1 x.f2 y.f0 y.f1 y.f2 = some (insSame x y) := by
  unfold laws_eqIns.f insSame
  by_cases h0 : x.f0 = y.f0
  · rw [if_pos h0, beq_iff_eq.mpr h0]
    by_cases h1 : x.f1 = y.f1
    · rw [if_pos h1, beq_iff_eq.mpr h1]
      by_cases h2 : x.f2.toList = y.f2.toList
      · rw [if_pos h2, beq_iff_eq.mpr h2]; rfl
      · rw [if_neg h2, beq_eq_false_iff_ne.mpr h2]; rfl
    · rw [if_neg h1, beq_eq_false_iff_ne.mpr h1]; rfl
  · rw [if_neg h0, beq_eq_false_iff_ne.mpr h0]; rfl
theorem laws_eqInsS_f (l m : List S110) (hn : l.length ≤ 9223372036854775807) (k : Nat) (hk : l.length < k) : laws_eqInsS.f k l m = some (all2 insSame l m) := by
  unfold laws_eqInsS.f
  by_cases hl : l.length = m.length
  · rw [if_pos (by omega)]
    refine loop_all2 insSame z110 z110 l m hl hn (fun k i => laws_eqInsS.l0 k l m i) 0 ?_ ?_ ?_ k (by omega)
    · intro k i hK hi hq
      have hi' : i < m.length := by omega
      simp only [laws_eqInsS.l0]
      rw [if_pos (by omega), if_pos (by omega), if_pos (by omega)]
      have e := laws_eqIns_f (rd_T110 l (i : Int)) (rd_T110 m (i : Int))
      rw [show insSame (rd_T110 l (i : Int)) (rd_T110 m (i : Int)) = true from hq] at e
      rw [e]
      rfl
    · intro k i hK hi hq
      have hi' : i < m.length := by omega
      simp only [laws_eqInsS.l0]
      rw [if_pos (by omega), if_pos (by omega), if_pos (by omega)]
      have e := laws_eqIns_f (rd_T110 l (i : Int)) (rd_T110 m (i : Int))
      rw [show insSame (rd_T110 l (i : Int)) (rd_T110 m (i : Int)) = false from hq] at e
      rw [e]
      rfl
    · intro k hK
      simp only [laws_eqInsS.l0]
      rw [if_neg (by omega)]
  · rw [if_neg (by omega), all2_len _ _ _ hl]
theorem laws_eqFun_f (x y : S52) (hn : x.f2.length ≤ 9223372036854775807) (k : Nat) (hk : x.f2.length < k) : laws_eqFun.f k x.f0 x.f1 x.f2 y.f0 y.f1 y.f2 = some (funSame x y) := by
  unfold laws_eqFun.f
  rw [laws_eqInsS_f x.f2 y.f2 hn k hk]
  by_cases h : x.f0.toList = y.f0.toList
  · rw [if_pos h]
    cases h2 : (x.f1 == y.f1) with
    | true =>
      rw [if_neg (by simp only [bne, h2]; decide)]
      cases h3 : all2 insSame x.f2 y.f2 <;> simp [funSame, h, h2, h3]
    | false =>
      rw [if_pos (by simp only [bne, h2]; decide)]
      simp [funSame, h, h2]
  · rw [if_neg h]
    simp [funSame, beq_eq_false_iff_ne.mpr h]
theorem laws_eqFunS_f (l m : List S52) (hn : l.length ≤ 9223372036854775807) (B : Nat) (hB : B ≤ 9223372036854775807) (hb : ∀ x ∈ l, x.f2.length < B) (k : Nat) (hk : B + l.length < k) : laws_eqFunS.f k l m = some (all2 funSame l m) := by
  unfold laws_eqFunS.f
  by_cases hl : l.length = m.length
  · rw [if_pos (by omega)]
    refine loop_all2 funSame z52 z52 l m hl hn (fun k i => laws_eqFunS.l0 k l m i) B ?_ ?_ ?_ k (by omega)
    · intro k i hK hi hq
      have hi' : i < m.length := by omega
      simp only [laws_eqFunS.l0]
      rw [if_pos (by omega), if_pos (by omega), if_pos (by omega)]
      have e := laws_eqFun_f (rd_T52 l (i : Int)) (rd_T52 m (i : Int)) (by have := hb _ (getD_mem (d := z52) hi); have e0 : rd_T52 l (i : Int) = l.getD i z52 := rfl; rw [e0]; omega) k (by have := hb _ (getD_mem (d := z52) hi); have e0 : rd_T52 l (i : Int) = l.getD i z52 := rfl; rw [e0]; omega)
      rw [show funSame (rd_T52 l (i : Int)) (rd_T52 m (i : Int)) = true from hq] at e
      rw [e]
      rfl
    · intro k i hK hi hq
      have hi' : i < m.length := by omega
      simp only [laws_eqFunS.l0]
      rw [if_pos (by omega), if_pos (by omega), if_pos (by omega)]
      have e := laws_eqFun_f (rd_T52 l (i : Int)) (rd_T52 m (i : Int)) (by have := hb _ (getD_mem (d := z52) hi); have e0 : rd_T52 l (i : Int) = l.getD i z52 := rfl; rw [e0]; omega) k (by have := hb _ (getD_mem (d := z52) hi); have e0 : rd_T52 l (i : Int) = l.getD i z52 := rfl; rw [e0]; omega)
      rw [show funSame (rd_T52 l (i : Int)) (rd_T52 m (i : Int)) = false from hq] at e
      rw [e]
      rfl
    · intro k hK
      simp only [laws_eqFunS.l0]
      rw [if_neg (by omega)]
  · rw [if_neg (by omega), all2_len _ _ _ hl]
theorem laws_eqFunS_u (l m : List S52) (hn : l.length ≤ 9223372036854775807) (B : Nat) (hB : B ≤ 9223372036854775807) (hb : ∀ x ∈ l, x.f2.length < B) (k : Nat) (hk : B + l.length < k) : laws_eqFunS.f k l m = some (unitSame l m) := laws_eqFunS_f l m hn B hB hb k hk
end Go.Proofs.Ytppmalfpggkpdaa.L
namespace Go.Proofs.Ytppmalfpggkpdaa.L
open Go.RowKit Go.Proofs.YtppmalfpggkpdaaW.PrintWords Go.Proofs.YtppmalfpggkpdaaW.PrintLast Go.Proofs.YtppmalfpggkpdaaW.PrintMore Go.Proofs.Ytppmalfpggkpdaa.P
set_option linter.unusedVariables false
set_option linter.unusedSimpArgs false
theorem ok_fits {x : S95} (h : Ok95 x) : FitsFun x := ⟨h.1, by have := h.2.2.1; omega, fun y hy => (h.2.2.2 y hy).2.2⟩
theorem ok_len {x : S95} (h : Ok95 x) : x.f2.length ≤ 4398046511104 := by have := h.2.2.1; omega
theorem a_szFun {x : S95} (h : Ok95 x) (s : Int) (h0 : 0 ≤ s) (h1 : s ≤ 1048576) (k : Nat) (hk : 10000000000000000 ≤ k) : laws_szFun.f k x.f0 x.f1 x.f2 s = some (gFun x s) :=
  laws_szFun_g x (ok_fits h) s h0 h1 k (by have := ok_len h; omega)
theorem a_toFun {x : S95} (h : Ok95 x) (k : Nat) (hk : 10000000000000000 ≤ k) : laws_toFun.f k x.f0 x.f1 x.f2 = some (x.f0, x.f1, x.f2.map cvIns) :=
  laws_toFun_c x (by have := ok_len h; omega) k (by have := ok_len h; omega)
theorem a_eqFun {x : S95} (h : Ok95 x) (k : Nat) (hk : 10000000000000000 ≤ k) : laws_eqFun.f k x.f0 x.f1 (x.f2.map cvIns) x.f0 x.f1 (x.f2.map cvIns) = some true := by
  have e := laws_eqFun_f (cvFun x) (cvFun x) (by simp only [cvFun, List.length_map]; have := ok_len h; omega) k (by simp only [cvFun, List.length_map]; have := ok_len h; omega)
  rw [funSame_refl] at e
  exact e
def OkU (l : List S95) : Prop := l.length * 48 ≤ 140737488351232 ∧ ∀ x ∈ l, Ok95 x
theorem OkU.len {l : List S95} (h : OkU l) : l.length ≤ 2932031007402 := by have := h.1; omega
theorem OkU.fits {l : List S95} (h : OkU l) : FitsUnit 4398046511105 l := ⟨by have := h.len; omega, fun x hx => ok_fits (h.2 x hx), fun x hx => by have := ok_len (h.2 x hx); omega⟩
theorem OkU.make {l : List S95} (h : OkU l) : FitsMake 4398046511105 l := ⟨by have := h.len; omega, fun x hx => by have := ok_len (h.2 x hx); omega, fun x hx => by have := ok_len (h.2 x hx); omega⟩
theorem a_szFunS {l : List S95} (h : OkU l) (s : Int) (h0 : 0 ≤ s) (h1 : s ≤ 1048576) (k : Nat) (hk : 10000000000000000 ≤ k) : laws_szFunS.f k l s = some (gFunS l s) :=
  laws_szFunS_g _ l h.fits s h0 h1 k (by have := h.len; omega)
theorem a_toFunS {l : List S95} (h : OkU l) (k : Nat) (hk : 10000000000000000 ≤ k) : laws_toFunS.f k l = some (l.map cvFun) :=
  laws_toFunS_c _ l h.make k (by have := h.len; omega)
theorem cv_len {l : List S95} (h : OkU l) : ∀ x ∈ l.map cvFun, x.f2.length < 4398046511105 := by
  intro x hx
  obtain ⟨y, hy, rfl⟩ := List.mem_map.1 hx
  simp only [cvFun, List.length_map]
  have := ok_len (h.2 y hy)
  omega
theorem a_eqFunS {l : List S95} (h : OkU l) (k : Nat) (hk : 10000000000000000 ≤ k) : laws_eqFunS.f k (l.map cvFun) (l.map cvFun) = some true := by
  rw [laws_eqFunS_f _ _ (by simp only [List.length_map]; have := h.len; omega) 4398046511105 (by decide) (cv_len h) k (by simp only [List.length_map]; have := h.len; omega)]
  exact congrArg some (unitSame_refl _)
end Go.Proofs.Ytppmalfpggkpdaa.L
namespace Go.Proofs.Ytppmalfpggkpdaa.L
open Go.RowKit Go.Proofs.YtppmalfpggkpdaaW.PrintWords Go.Proofs.YtppmalfpggkpdaaW.PrintLast Go.Proofs.YtppmalfpggkpdaaW.PrintMore Go.Proofs.Ytppmalfpggkpdaa.P
theorem fit_cv {x : S95} (h : Ok95 x) : FitF (cvFun x) := by
  refine ⟨h.1, ?_, fun y hy => ?_⟩
  · simp only [cvFun, List.length_map]
    have := ok_len h
    omega
  · obtain ⟨z, hz, rfl⟩ := List.mem_map.1 hy
    exact (h.2.2.2 z hz).2.2
theorem fits_cv {l : List S95} (h : OkU l) : ∀ x ∈ l.map cvFun, FitF x := by
  intro x hx
  obtain ⟨y, hy, rfl⟩ := List.mem_map.1 hx
  exact fit_cv (h.2 y hy)
end Go.Proofs.Ytppmalfpggkpdaa.L

/- Loops over a list with a state, told once. -/
namespace Go.Proofs.Ytppmalfpggkpdaa.L
open Go.RowKit Go.Proofs.YtppmalfpggkpdaaW.PrintWords Go.Proofs.YtppmalfpggkpdaaW.PrintLast Go.Proofs.YtppmalfpggkpdaaW.PrintMore Go.Proofs.Ytppmalfpggkpdaa.P
set_option linter.unusedVariables false
set_option linter.unusedSimpArgs false
/-- A walk over a list with a state, that may end early. -/
def runS {α σ β : Type} (f : Nat → α → σ → σ ⊕ β) (E : σ → β) : List α → Nat → σ → β
  | [], _, s => E s
  | x :: l, i, s => match f i x s with
    | .inl s' => runS f E l (i + 1) s'
    | .inr r => r
theorem loop_run {α σ β : Type} (f : Nat → α → σ → σ ⊕ β) (E : Nat → σ → β) (I : Nat → σ → Prop) (d : α) (l : List α) (hn : l.length ≤ 9223372036854775806) (L : Nat → σ → Int → β) (K : Nat)
    (hS : ∀ (k i : Nat) (s : σ), K ≤ k → i < l.length → I i s → L (k + 1) s (i : Int) = match f i (l.getD i d) s with | .inl s' => L k s' (wrap64 ((i : Int) + 1)) | .inr r => r)
    (hI : ∀ (i : Nat) (s s' : σ), i < l.length → I i s → f i (l.getD i d) s = .inl s' → I (i + 1) s')
    (hE : ∀ (k : Nat) (s : σ), K ≤ k → I l.length s → L (k + 1) s (l.length : Int) = E k s) (k : Nat) (hk : K + l.length < k) (s : σ) (h0 : I 0 s) : L k s 0 = runS f (E (k - l.length - 1)) l 0 s := by
  have key : ∀ (n k i : Nat) (s : σ), i + n = l.length → K + n < k → I i s → L k s (i : Int) = runS f (E (k - n - 1)) (l.drop i) i s := by
    intro n
    induction n with
    | zero =>
      intro k i s hi hk hs
      obtain ⟨k, rfl, _⟩ := succ_of hk
      have : i = l.length := by omega
      subst this
      rw [hE k s (by omega) hs, List.drop_length]
      rfl
    | succ n ih =>
      intro k i s hi hk hs
      obtain ⟨k, rfl, _⟩ := succ_of hk
      rw [hS k i s (by omega) (by omega) hs, drop_getD l d i (by omega)]
      simp only [runS]
      cases hf : f i (l.getD i d) s with
      | inr r => rfl
      | inl s' =>
        simp only
        rw [wrap_id (by omega) (by omega)]
        have h2 := ih k (i + 1) s' (by omega) (by omega) (hI i s s' (by omega) hs hf)
        rw [show k + 1 - (n + 1) - 1 = k - n - 1 by omega, ← h2]
        rfl
  have h := key l.length k 0 s (by omega) hk h0
  simpa using h
/-- A loop whose rounds hold loops: each takes up to c more rounds of fuel. -/
theorem loop_var {α σ β : Type} (f : Nat → α → σ → σ ⊕ β) (E : σ → β) (I : Nat → σ → Prop) (d : α) (l : List α) (hn : l.length ≤ 9223372036854775806) (L : Nat → σ → Int → β) (K c : Nat)
    (hS : ∀ (k i : Nat) (s : σ), K ≤ k → i < l.length → I i s → match f i (l.getD i d) s with
      | .inl s' => I (i + 1) s' ∧ ∃ k', k ≤ k' + c ∧ L (k + 1) s (i : Int) = L k' s' (wrap64 ((i : Int) + 1))
      | .inr r => L (k + 1) s (i : Int) = r)
    (hE : ∀ (k : Nat) (s : σ), K ≤ k → I l.length s → L (k + 1) s (l.length : Int) = E s) (k : Nat) (hk : K + l.length * (c + 1) < k) (s : σ) (h0 : I 0 s) : L k s 0 = runS f E l 0 s := by
  have key : ∀ (n k i : Nat) (s : σ), i + n = l.length → K + n * (c + 1) < k → I i s → L k s (i : Int) = runS f E (l.drop i) i s := by
    intro n
    induction n with
    | zero =>
      intro k i s hi hk hs
      obtain ⟨k, rfl, _⟩ := succ_of hk
      have : i = l.length := by omega
      subst this
      rw [hE k s (by omega) hs, List.drop_length]
      rfl
    | succ n ih =>
      intro k i s hi hk hs
      rw [Nat.succ_mul] at hk
      obtain ⟨k, rfl, _⟩ := succ_of hk
      have h := hS k i s (by omega) (by omega) hs
      rw [drop_getD l d i (by omega)]
      simp only [runS]
      cases hf : f i (l.getD i d) s with
      | inr r => rw [hf] at h; exact h
      | inl s' =>
        rw [hf] at h
        obtain ⟨h1, k', h2, h3⟩ := h
        simp only
        rw [h3, wrap_id (by omega) (by omega)]
        have h4 := ih k' (i + 1) s' (by omega) (by omega) h1
        rw [← h4]
        rfl
  have h := key l.length k 0 s (by omega) hk h0
  simpa using h
/-- .. and goes on with what fuel is left. -/
theorem loop_vark {α σ β : Type} (f : Nat → α → σ → σ ⊕ β) (E : Nat → σ → β) (I : Nat → σ → Prop) (d : α) (l : List α) (hn : l.length ≤ 9223372036854775806) (L : Nat → σ → Int → β) (K c : Nat)
    (hS : ∀ (k i : Nat) (s : σ), K ≤ k → i < l.length → I i s → match f i (l.getD i d) s with
      | .inl s' => I (i + 1) s' ∧ ∃ k', k ≤ k' + c ∧ L (k + 1) s (i : Int) = L k' s' (wrap64 ((i : Int) + 1))
      | .inr r => L (k + 1) s (i : Int) = r)
    (hE : ∀ (k : Nat) (s : σ), K ≤ k → I l.length s → L (k + 1) s (l.length : Int) = E k s) (k : Nat) (hk : K + l.length * (c + 1) < k) (s : σ) (h0 : I 0 s) : ∃ k', k ≤ k' + (l.length * (c + 1) + 1) ∧ L k s 0 = runS f (E k') l 0 s := by
  have key : ∀ (n k i : Nat) (s : σ), i + n = l.length → K + n * (c + 1) < k → I i s → ∃ k', k ≤ k' + (n * (c + 1) + 1) ∧ L k s (i : Int) = runS f (E k') (l.drop i) i s := by
    intro n
    induction n with
    | zero =>
      intro k i s hi hk hs
      obtain ⟨k, rfl, _⟩ := succ_of hk
      have : i = l.length := by omega
      subst this
      refine ⟨k, by omega, ?_⟩
      rw [hE k s (by omega) hs, List.drop_length]
      rfl
    | succ n ih =>
      intro k i s hi hk hs
      rw [Nat.succ_mul] at hk ⊢
      obtain ⟨k, rfl, _⟩ := succ_of hk
      have h := hS k i s (by omega) (by omega) hs
      rw [drop_getD l d i (by omega)]
      simp only [runS]
      cases hf : f i (l.getD i d) s with
      | inr r => rw [hf] at h; exact ⟨k + 1, by omega, h⟩
      | inl s' =>
        rw [hf] at h
        obtain ⟨h1, k', h2, h3⟩ := h
        simp only
        obtain ⟨k2, h5, h4⟩ := ih k' (i + 1) s' (by omega) (by omega) h1
        refine ⟨k2, by omega, ?_⟩
        rw [h3, wrap_id (by omega) (by omega), ← h4]
        rfl
  have h := key l.length k 0 s (by omega) hk h0
  simpa using h
/-- A test of each element and its place. -/
theorem runS_from {α β : Type} (q : Nat → α → Bool) (E F : β) : ∀ (l : List α) (i : Nat), runS (fun i x (_ : Unit) => if q i x then (.inl () : Unit ⊕ β) else .inr F) (fun _ => E) l i () = if allFrom q l i = true then E else F
  | [], _ => rfl
  | a :: l, i => by
    simp only [runS]
    by_cases h : q i a = true
    · rw [if_pos h, show allFrom q (a :: l) i = allFrom q l (i + 1) by simp only [allFrom, h, Bool.true_and]]; exact runS_from q E F l (i + 1)
    · have h' : q i a = false := Bool.eq_false_iff.mpr h
      rw [if_neg h, show allFrom q (a :: l) i = false by simp only [allFrom, h', Bool.false_and]]; rfl
/-- A loop with a property of its state: it ends, and what it gives has another property. -/
theorem loop_inv {σ β : Type} (I : Nat → σ → Prop) (Q : β → Prop) (n : Nat) (hn : n ≤ 9223372036854775806) (L : Nat → σ → Int → Option β) (K : Nat)
    (hS : ∀ (k i : Nat) (s : σ), K ≤ k → i < n → I i s → (∃ s', I (i + 1) s' ∧ L (k + 1) s (i : Int) = L k s' (wrap64 ((i : Int) + 1))) ∨ ∃ r, L (k + 1) s (i : Int) = some r ∧ Q r)
    (hE : ∀ (k : Nat) (s : σ), K ≤ k → I n s → ∃ r, L (k + 1) s (n : Int) = some r ∧ Q r) (k : Nat) (hk : K + n < k) (s : σ) (h0 : I 0 s) : ∃ r, L k s 0 = some r ∧ Q r := by
  have key : ∀ (m k i : Nat) (s : σ), i + m = n → K + m < k → I i s → ∃ r, L k s (i : Int) = some r ∧ Q r := by
    intro m
    induction m with
    | zero =>
      intro k i s hi hk hs
      obtain ⟨k, rfl, _⟩ := succ_of hk
      have : i = n := by omega
      subst this
      exact hE k s (by omega) hs
    | succ m ih =>
      intro k i s hi hk hs
      obtain ⟨k, rfl, _⟩ := succ_of hk
      rcases hS k i s (by omega) (by omega) hs with ⟨s', h1, h2⟩ | h
      · rw [h2, wrap_id (by omega) (by omega)]
        exact ih k (i + 1) s' (by omega) (by omega) h1
      · exact h
  exact key n k 0 s (by omega) hk h0
end Go.Proofs.Ytppmalfpggkpdaa.L

-- made by printx.py (own driver over the kit's print); Lean checks it
namespace Go.Proofs.Ytppmalfpggkpdaa.P
open Go.RowKit Go.Proofs.YtppmalfpggkpdaaW.PrintWords Go.Proofs.YtppmalfpggkpdaaW.PrintLast Go.Proofs.YtppmalfpggkpdaaW.PrintMore
attribute [local go_sem] max2_int min2_int max_two min_two max_three min_three max_four min_four   -- for this text's walks alone
set_option linter.unusedVariables false
set_option linter.unusedSimpArgs false

/-! ### impl_FunRefs: function 37 -/
def impl_FunRefs.f (k : Nat) (a0_0 : ByteArray) (a0_1 : Bool) (l0_2 : List (S110)) : Option (List ByteArray) := (impl_FunOk.f a0_0 a0_1 l0_2).bind fun t744 => (if t744 = true then ((impl_Fun_refs.f k a0_0 a0_1 l0_2).bind fun t745 => (some t745)) else (some ([] : List ByteArray)))
theorem impl_FunRefs.mono : ∀ a0 a1 a2 k, LeO (impl_FunRefs.f k a0 a1 a2) (impl_FunRefs.f (k + 1) a0 a1 a2) := by
  intro a0 a1 a2 k
  unfold impl_FunRefs.f
  repeat' first
      | (with_reducible exact impl_Fun_refs.mono _ _ _ _)
      | (with_reducible exact LeO.refl _)
      | (with_reducible exact LeO.none _)
      | (with_reducible refine LeO.ite ?_ ?_)
      | (with_reducible refine LeO.bind ?_ (fun _ => ?_))
      | exact impl_Fun_refs.mono _ _ _ _
      | exact LeO.none _
      | refine LeO.ite ?_ ?_
      | refine LeO.bind ?_ (fun _ => ?_)
set_option maxHeartbeats 8000000 in
set_option maxRecDepth 100000 in
theorem impl_FunRefs.calls (k : Nat) (a0_0 : ByteArray) (a0_1 : Bool) (A0_2 : Option Addr) (c0_2 : Nat) (l0_2 : List (S110)) (r : List ByteArray) (w : World) (hr0_2 : Kd.C k110 w A0_2 l0_2.length l0_2) (hc0_2 : l0_2.length ≤ c0_2) (h : impl_FunRefs.f k a0_0 a0_1 l0_2 = some r) :
    Calls Try.prog 37 #[.agg #[.string a0_0, .bool a0_1, .slice A0_2 l0_2.length c0_2]] w fun e w' => ∃ v0_ : Value, e = .returned (v0_) ∧ Kd.R Kd.string 9 w' w.heap.size (fun _ => True) v0_ r ∧ Below w.heap.size w w' := by
  have hu52 := Try.underlying52
  have HR0_2 := Aside0.mk hr0_2
  have HC0_2 := Aside0.mk hc0_2
  clear hr0_2 hc0_2
  have HB := Aside0.mk (Below.refl w.heap.size w)
  have H : ((impl_FunOk.f a0_0 a0_1 l0_2).bind fun t744 => (if t744 = true then ((impl_Fun_refs.f k a0_0 a0_1 l0_2).bind fun t745 => (some t745)) else (some ([] : List ByteArray)))) = some r := h
  clear h
  replace H := Option.bind_eq_some_iff.mp H
  obtain ⟨t744, A20, H⟩ := H
  replace H : (if t744 = true then ((impl_Fun_refs.f k a0_0 a0_1 l0_2).bind fun t745 => (some t745)) else (some ([] : List ByteArray))) = some r := H
  have A2 := Aside0.mk A20
  clear A20
  by_cases c3 : t744 = true
  · subst c3
    have H1 : ((impl_Fun_refs.f k a0_0 a0_1 l0_2).bind fun t745 => (some t745)) = some r := by rw [if_pos rfl] at H; exact H
    clear H
    have H := H1
    clear H1
    replace H := Option.bind_eq_some_iff.mp H
    obtain ⟨t745, A40, H⟩ := H
    replace H : (some t745) = some r := H
    have A4 := Aside0.mk A40
    clear A40
    obtain rfl := Option.some.inj H
    go_enter Try.func37, Try.ntmps37
    go_wp2_with (first | ((with_reducible refine gate_dst (N := 1) rfl ?_); refine box_event ?hg (N := 1) ?hd (cs := #[.string a0_0, .bool a0_1, .slice A0_2 l0_2.length c0_2]) (t := 52) ?hr ?_; (case hd => rfl); (case hg => rfl); (case hr => first | (go_simp; done) | (go_simp; rfl)); intro gb743 hg w5 hbox hb; have n0_ := Aside0.mk (below_step (by repeat (first | (with_reducible first | exact HB.out | apply below_alloc | apply pw_below_drewN | apply below_drew1) | exact HB.out)) hb); have n1_ := Aside0.mk (hbox); have n2_ := Aside0.mk ((by rw [hg]; exact (below_size (by repeat (first | (with_reducible first | exact HB.out | apply below_alloc | apply pw_below_drewN | apply below_drew1) | exact HB.out))) : w.heap.size ≤ gb743)); have n3_ := Aside0.mk ((by rw [hg]; exact (below_size (by repeat (first | (with_reducible first | exact HB.out | apply below_alloc | apply pw_below_drewN | apply below_drew1) | exact HB.out))) : w.heap.size ≤ gb743)); clear HB; have HB := n0_; have BK743 := n1_; have GW743 := n2_; have GE743 := n3_; clear n0_ n1_ n2_ n3_; clear hb hbox hg; have hcz6_0 : w5.cell? ⟨gb743, 0, none⟩ = some (.string a0_0) := (blk_cell BK743.out 0).trans rfl; have hcz6_1 : w5.cell? ⟨gb743, 1, none⟩ = some (.bool a0_1) := (blk_cell BK743.out 1).trans rfl; have hcz6_2 : w5.cell? ⟨gb743, 2, none⟩ = some (.slice A0_2 l0_2.length c0_2) := (blk_cell BK743.out 2).trans rfl; have hfz6_0 := blk_frozen BK743.out 0; have hfz6_1 := blk_frozen BK743.out 1; have hfz6_2 := blk_frozen BK743.out 2) | ((with_reducible refine gate_callee (f := 80) rfl ?_); refine goesL_ (some 4) rfl rfl Try.func80 (by kernel_rfl) rfl #[.agg #[.string a0_0, .bool a0_1, .slice A0_2 l0_2.length c0_2]] rfl (by (try simp only [List.map_toArray, List.map_cons, List.map_nil]); first | done | rfl | (simp only [List.length_drop, List.length_take]; rfl)) ?_; (with_reducible refine (impl_FunOk.calls a0_0 a0_1 _ _ l0_2 true _ ?side1 ?side2 A2.out).mono ?_); (case side1 => repeat (first | exact (Kd.C_below HR0_2.out HB.out) | (with_reducible refine Kd.C_alloc ?_ _) | (with_reducible refine Kd.C_drewN ?_ _) | (with_reducible refine Kd.C_drew ?_))); (case side2 => exact HC0_2.out); rintro e w7 ⟨rfl, hb⟩; refine ⟨_, rfl, ?_⟩; have n0_ := Aside0.mk (blk_below (g := gb743) (o := .cells #[.string a0_0, .bool a0_1, .slice A0_2 l0_2.length c0_2] 52 (0, 0)) (by (with_reducible repeat (first | refine blk_drewN ?_ _ | refine blk_drew ?_ | refine blk_alloc ?_ _)); exact BK743.out) hb); have n1_ := Aside0.mk (below_step (by repeat (first | (with_reducible first | exact HB.out | apply below_alloc | apply pw_below_drewN | apply below_drew1 | refine below_set ?_ GE743.out) | exact HB.out)) hb); clear BK743; clear HB; have BK743 := n0_; have HB := n1_; clear n0_ n1_; (try clear hb); (try clear hb2); (try clear hk); (try clear hi); have hcz8_0 : w7.cell? ⟨gb743, 0, none⟩ = some (.string a0_0) := (blk_cell BK743.out 0).trans rfl; have hcz8_1 : w7.cell? ⟨gb743, 1, none⟩ = some (.bool a0_1) := (blk_cell BK743.out 1).trans rfl; have hcz8_2 : w7.cell? ⟨gb743, 2, none⟩ = some (.slice A0_2 l0_2.length c0_2) := (blk_cell BK743.out 2).trans rfl; have hfz8_0 := blk_frozen BK743.out 0; have hfz8_1 := blk_frozen BK743.out 1; have hfz8_2 := blk_frozen BK743.out 2) | ((with_reducible refine gate_callee (f := 81) rfl ?_); refine goesL_ (some 7) rfl rfl Try.func81 (by kernel_rfl) rfl #[.agg #[.string a0_0, .bool a0_1, .slice A0_2 l0_2.length c0_2]] rfl (by (try simp only [List.map_toArray, List.map_cons, List.map_nil]); first | done | rfl | (simp only [List.length_drop, List.length_take]; rfl)) ?_; (with_reducible refine (impl_Fun_refs.calls k a0_0 a0_1 _ _ l0_2 t745 _ ?side1 ?side2 A4.out).mono ?_); (case side1 => repeat (first | exact (Kd.C_below HR0_2.out HB.out) | (with_reducible refine Kd.C_alloc ?_ _) | (with_reducible refine Kd.C_drewN ?_ _) | (with_reducible refine Kd.C_drew ?_))); (case side2 => exact HC0_2.out); rintro e w9 ⟨v746, rfl, ho0, hb⟩; refine ⟨_, rfl, ?_⟩; have n0_ := Aside0.mk (Kd.R_lower ho0 (below_size (by repeat (first | (with_reducible first | exact HB.out | apply below_alloc | apply pw_below_drewN | apply below_drew1 | refine below_set ?_ GE743.out) | exact HB.out)))); have n1_ := Aside0.mk (blk_below (g := gb743) (o := .cells #[.string a0_0, .bool a0_1, .slice A0_2 l0_2.length c0_2] 52 (0, 0)) (by (with_reducible repeat (first | refine blk_drewN ?_ _ | refine blk_drew ?_ | refine blk_alloc ?_ _)); exact BK743.out) hb); have n2_ := Aside0.mk (below_step (by repeat (first | (with_reducible first | exact HB.out | apply below_alloc | apply pw_below_drewN | apply below_drew1 | refine below_set ?_ GE743.out) | exact HB.out)) hb); clear BK743; clear HB; have HO747 := n0_; have BK743 := n1_; have HB := n2_; clear n0_ n1_ n2_; (try clear hb); (try clear hb2); (try clear hk); (try clear hi); (try clear ho0)))
    go_ret
    exact ⟨_, by first | rfl | (simp [errW_none, errW_some] <;> rfl) | (simp [*, errW_none, errW_some] <;> rfl), by (with_reducible repeat (first | apply Kd.R_alloc | apply Kd.R_drewN | apply Kd.R_drew)); exact HO747.out, by repeat (first | (with_reducible first | exact HB.out | apply below_alloc | apply pw_below_drewN | apply below_drew1 | refine below_set ?_ GE743.out) | exact HB.out)⟩
  · replace c3 := Bool.eq_false_iff.mpr c3
    subst c3
    have H1 : (some ([] : List ByteArray)) = some r := by rw [if_neg (show ¬ (false = true) by decide)] at H; exact H
    clear H
    have H := H1
    clear H1
    obtain rfl := Option.some.inj H
    go_enter Try.func37, Try.ntmps37
    go_wp2_with (first | ((with_reducible refine gate_dst (N := 1) rfl ?_); refine box_event ?hg (N := 1) ?hd (cs := #[.string a0_0, .bool a0_1, .slice A0_2 l0_2.length c0_2]) (t := 52) ?hr ?_; (case hd => rfl); (case hg => rfl); (case hr => first | (go_simp; done) | (go_simp; rfl)); intro gb743 hg w10 hbox hb; have n0_ := Aside0.mk (below_step (by repeat (first | (with_reducible first | exact HB.out | apply below_alloc | apply pw_below_drewN | apply below_drew1) | exact HB.out)) hb); have n1_ := Aside0.mk (hbox); have n2_ := Aside0.mk ((by rw [hg]; exact (below_size (by repeat (first | (with_reducible first | exact HB.out | apply below_alloc | apply pw_below_drewN | apply below_drew1) | exact HB.out))) : w.heap.size ≤ gb743)); have n3_ := Aside0.mk ((by rw [hg]; exact (below_size (by repeat (first | (with_reducible first | exact HB.out | apply below_alloc | apply pw_below_drewN | apply below_drew1) | exact HB.out))) : w.heap.size ≤ gb743)); clear HB; have HB := n0_; have BK743 := n1_; have GW743 := n2_; have GE743 := n3_; clear n0_ n1_ n2_ n3_; clear hb hbox hg; have hcz11_0 : w10.cell? ⟨gb743, 0, none⟩ = some (.string a0_0) := (blk_cell BK743.out 0).trans rfl; have hcz11_1 : w10.cell? ⟨gb743, 1, none⟩ = some (.bool a0_1) := (blk_cell BK743.out 1).trans rfl; have hcz11_2 : w10.cell? ⟨gb743, 2, none⟩ = some (.slice A0_2 l0_2.length c0_2) := (blk_cell BK743.out 2).trans rfl; have hfz11_0 := blk_frozen BK743.out 0; have hfz11_1 := blk_frozen BK743.out 1; have hfz11_2 := blk_frozen BK743.out 2) | ((with_reducible refine gate_callee (f := 80) rfl ?_); refine goesL_ (some 4) rfl rfl Try.func80 (by kernel_rfl) rfl #[.agg #[.string a0_0, .bool a0_1, .slice A0_2 l0_2.length c0_2]] rfl (by (try simp only [List.map_toArray, List.map_cons, List.map_nil]); first | done | rfl | (simp only [List.length_drop, List.length_take]; rfl)) ?_; (with_reducible refine (impl_FunOk.calls a0_0 a0_1 _ _ l0_2 false _ ?side1 ?side2 A2.out).mono ?_); (case side1 => repeat (first | exact (Kd.C_below HR0_2.out HB.out) | (with_reducible refine Kd.C_alloc ?_ _) | (with_reducible refine Kd.C_drewN ?_ _) | (with_reducible refine Kd.C_drew ?_))); (case side2 => exact HC0_2.out); rintro e w12 ⟨rfl, hb⟩; refine ⟨_, rfl, ?_⟩; have n0_ := Aside0.mk (blk_below (g := gb743) (o := .cells #[.string a0_0, .bool a0_1, .slice A0_2 l0_2.length c0_2] 52 (0, 0)) (by (with_reducible repeat (first | refine blk_drewN ?_ _ | refine blk_drew ?_ | refine blk_alloc ?_ _)); exact BK743.out) hb); have n1_ := Aside0.mk (below_step (by repeat (first | (with_reducible first | exact HB.out | apply below_alloc | apply pw_below_drewN | apply below_drew1 | refine below_set ?_ GE743.out) | exact HB.out)) hb); clear BK743; clear HB; have BK743 := n0_; have HB := n1_; clear n0_ n1_; (try clear hb); (try clear hb2); (try clear hk); (try clear hi)))
    go_ret
    exact ⟨_, by first | rfl | (simp [errW_none, errW_some] <;> rfl) | (simp [*, errW_none, errW_some] <;> rfl), by first | exact Kd.R_nil _ _ _ _ _ | exact Kd.N_nil _ _ _ _ _ | exact Kd.V_nil _ _ _ _ _ | exact Kd.Q_nil _ _ _ _ _ | exact Kd.S_nil _ _ _ _ _, by repeat (first | (with_reducible first | exact HB.out | apply below_alloc | apply pw_below_drewN | apply below_drew1 | refine below_set ?_ GE743.out) | exact HB.out)⟩

end Go.Proofs.Ytppmalfpggkpdaa.P

/- The names in a function; marks in texts. -/
namespace Go.Proofs.Ytppmalfpggkpdaa.L
open Go.RowKit Go.Proofs.YtppmalfpggkpdaaW.PrintWords Go.Proofs.YtppmalfpggkpdaaW.PrintLast Go.Proofs.YtppmalfpggkpdaaW.PrintMore Go.Proofs.Ytppmalfpggkpdaa.P
set_option linter.unusedVariables false
set_option linter.unusedSimpArgs false
def hasB (l : List ByteArray) (a : ByteArray) : Bool := l.any fun x => x.toList == a.toList
def refsAdd (x : S110) (s : List ByteArray) : List ByteArray := if refersB x.f0 && !hasB s x.f2 then s ++ [x.f2] else s
def refsV (l : List S110) : List ByteArray := l.foldl (fun s x => refsAdd x s) []
theorem refsAdd_len (x : S110) (s : List ByteArray) : (refsAdd x s).length ≤ s.length + 1 := by
  unfold refsAdd
  split
  · simp
  · omega
theorem foldl_len : ∀ (l : List S110) (s : List ByteArray), (l.foldl (fun s x => refsAdd x s) s).length ≤ s.length + l.length
  | [], s => by simp
  | x :: l, s => by
    have := foldl_len l (refsAdd x s)
    have := refsAdd_len x s
    simp only [List.foldl, List.length_cons]
    omega
theorem refsV_len (l : List S110) : (refsV l).length ≤ l.length := by
  have := foldl_len l []
  simpa [refsV] using this
theorem runS_fold {β : Type} (E : List ByteArray → β) : ∀ (l : List S110) (i : Nat) (s : List ByteArray), runS (fun _ x s => (.inl (refsAdd x s) : List ByteArray ⊕ β)) E l i s = E (l.foldl (fun s x => refsAdd x s) s)
  | [], _, _ => rfl
  | x :: l, i, s => runS_fold E l (i + 1) (refsAdd x s)
theorem slices_Contains_sstring_string_f (l : List ByteArray) (hn : l.length ≤ 9223372036854775807) (a : ByteArray) (k : Nat) (hk : l.length < k) : slices_Contains_sstring_string.f k l a = some (hasB l a) := by
  unfold slices_Contains_sstring_string.f slices_Index_sstring_string.f
  have h : slices_Index_sstring_string.l0 k l a (l.length : Int) 0 = some (idxFrom (fun x => x.toList == a.toList) l 0) := by
    refine loop_idx (fun x => x.toList == a.toList) ByteArray.empty l hn (fun k i => slices_Index_sstring_string.l0 k l a (l.length : Int) i) 0 ?_ ?_ ?_ k (by omega)
    · intro k i _ hi hq
      simp only [slices_Index_sstring_string.l0]
      rw [if_pos (by omega), if_pos (by omega), if_pos (by omega), if_pos (show a.toList = (rdOf ByteArray.empty l (i : Int)).toList from (beq_iff_eq.mp hq).symm)]
    · intro k i _ hi hq
      simp only [slices_Index_sstring_string.l0]
      rw [if_pos (by omega), if_pos (by omega), if_pos (by omega), if_neg (show ¬ a.toList = (rdOf ByteArray.empty l (i : Int)).toList from fun e => beq_eq_false_iff_ne.mp hq e.symm)]
    · intro k _
      simp only [slices_Index_sstring_string.l0]
      rw [if_neg (by omega)]
  rw [h]
  simp only [Option.bind_some, hasB]
  rw [← idxFrom_any _ l 0 (by decide)]
theorem spec_l2Has_f (l : List ByteArray) (hn : l.length ≤ 9223372036854775806) (a : ByteArray) (k : Nat) (hk : l.length < k) : spec_l2Has.f k l a = some (hasB l a) := by
  have e : ∀ (l' : List ByteArray) (i : Nat), runS (fun _ x (_ : Unit) => if x.toList = a.toList then (.inr (some true) : Unit ⊕ Option Bool) else .inl ()) (fun _ => some false) l' i () = some (hasB l' a) := by
    intro l'
    induction l' with
    | nil => intro i; rfl
    | cons x l' ih =>
      intro i
      simp only [runS, hasB, List.any_cons]
      by_cases h : x.toList = a.toList
      · rw [if_pos h, beq_iff_eq.mpr h]; rfl
      · rw [if_neg h, beq_eq_false_iff_ne.mpr h]
        exact ih (i + 1)
  unfold spec_l2Has.f
  refine (loop_run (fun _ x (_ : Unit) => if x.toList = a.toList then (.inr (some true) : Unit ⊕ Option Bool) else .inl ()) (fun _ _ => some false) (fun _ _ => True) ByteArray.empty l hn (fun k _ i => spec_l2Has.l0 k l a i) 0 ?_ (fun _ _ _ _ _ _ => trivial) ?_ k (by omega) () trivial).trans (e l 0)
  · intro k i s _ hi _
    simp only [spec_l2Has.l0]
    rw [if_pos (by omega), if_pos (by omega)]
    show (if (l.getD i ByteArray.empty).toList = a.toList then _ else _) = _
    split <;> rfl
  · intro k s _ _
    simp only [spec_l2Has.l0]
    rw [if_neg (by omega)]
theorem impl_Fun_refs_f (a : ByteArray) (b : Bool) (l : List S110) (hn : l.length ≤ 8796093022207) (k : Nat) (hk : 2 * l.length + 5 < k) : impl_Fun_refs.f k a b l = some (refsV l) := by
  unfold impl_Fun_refs.f
  refine (loop_run (fun _ x s => (.inl (refsAdd x s) : List ByteArray ⊕ Option (List ByteArray))) (fun _ s => some s) (fun i s => s.length ≤ i) z110 l (by omega) (fun k s i => impl_Fun_refs.l0 k s l (l.length : Int) i) (l.length + 1) ?_ ?_ ?_ k (by omega) [] (by simp)).trans (runS_fold _ l 0 [])
  · intro k i s hK hi hs
    simp only [impl_Fun_refs.l0]
    rw [if_pos (by omega), if_pos (by omega), if_pos (by omega), impl_InsRefs_f (rd_T110 l (i : Int)).f0 _ _]
    simp only [Option.bind_some]
    rw [slices_Contains_sstring_string_f s (by omega) _ k (by omega)]
    simp only [Option.bind_some]
    show (if refersB (l.getD i z110).f0 = true then (if hasB s (l.getD i z110).f2 = true then _ else (if s.length < 8796093022208 then impl_Fun_refs.l0 k (s ++ [(l.getD i z110).f2]) l (l.length : Int) (wrap64 ((i : Int) + 1)) else none)) else _) = impl_Fun_refs.l0 k (refsAdd (l.getD i z110) s) l (l.length : Int) (wrap64 ((i : Int) + 1))
    rw [if_pos (show s.length < 8796093022208 by omega)]
    unfold refsAdd
    cases refersB (l.getD i z110).f0 <;> cases hasB s (l.getD i z110).f2 <;> rfl
  · intro i s s' hi hs he
    have := refsAdd_len (l.getD i z110) s
    cases he
    omega
  · intro k s _ _
    simp only [impl_Fun_refs.l0]
    rw [if_neg (by omega)]
theorem spec_l2Refs_f (l : List S110) (hn : l.length ≤ 8796093022207) (k : Nat) (hk : 2 * l.length + 5 < k) : spec_l2Refs.f k l = some (refsV l) := by
  unfold spec_l2Refs.f
  refine (loop_run (fun _ x s => (.inl (refsAdd x s) : List ByteArray ⊕ Option (List ByteArray))) (fun _ s => some s) (fun i s => s.length ≤ i) z110 l (by omega) (fun k s i => spec_l2Refs.l0 k l s i) (l.length + 1) ?_ ?_ ?_ k (by omega) [] (by simp)).trans (runS_fold _ l 0 [])
  · intro k i s hK hi hs
    simp only [spec_l2Refs.l0]
    rw [if_pos (by omega), if_pos (by omega), spec_InsRefs_f (rd_T110 l (i : Int)).f0 _ _]
    simp only [Option.bind_some]
    rw [spec_l2Has_f s (by omega) _ k (by omega)]
    simp only [Option.bind_some]
    show (if refersB (l.getD i z110).f0 = true then (if hasB s (l.getD i z110).f2 = true then _ else (if s.length < 8796093022208 then spec_l2Refs.l0 k l (s ++ [(l.getD i z110).f2]) (wrap64 ((i : Int) + 1)) else none)) else _) = spec_l2Refs.l0 k l (refsAdd (l.getD i z110) s) (wrap64 ((i : Int) + 1))
    rw [if_pos (show s.length < 8796093022208 by omega)]
    unfold refsAdd
    cases refersB (l.getD i z110).f0 <;> cases hasB s (l.getD i z110).f2 <;> rfl
  · intro i s s' hi hs he
    have := refsAdd_len (l.getD i z110) s
    cases he
    omega
  · intro k s _ _
    simp only [spec_l2Refs.l0]
    rw [if_neg (by omega)]
def funRefsV (x : S52) : List ByteArray := if funOkB x.f0 x.f2 = true then refsV x.f2 else []
theorem funRefsV_len (x : S52) : (funRefsV x).length ≤ 10 := by
  unfold funRefsV
  split
  · rename_i h
    have := funOkB_len h
    have := refsV_len x.f2
    omega
  · simp
theorem impl_FunRefs_f (x : S52) (hx : FitF x) (k : Nat) (hk : 100 < k) : impl_FunRefs.f k x.f0 x.f1 x.f2 = some (funRefsV x) := by
  unfold impl_FunRefs.f funRefsV
  rw [impl_FunOk_f x hx]
  simp only [Option.bind_some]
  by_cases h : funOkB x.f0 x.f2 = true
  · have := funOkB_len h
    rw [if_pos h, if_pos h, impl_Fun_refs_f x.f0 x.f1 x.f2 (by omega) k (by omega)]
    rfl
  · rw [if_neg h, if_neg h]
end Go.Proofs.Ytppmalfpggkpdaa.L

/- The names that functions lack; when a program is ok. -/
namespace Go.Proofs.Ytppmalfpggkpdaa.L
open Go.RowKit Go.Proofs.YtppmalfpggkpdaaW.PrintWords Go.Proofs.YtppmalfpggkpdaaW.PrintLast Go.Proofs.YtppmalfpggkpdaaW.PrintMore Go.Proofs.Ytppmalfpggkpdaa.P
set_option linter.unusedVariables false
set_option linter.unusedSimpArgs false
/-- Of some names, those that no function of p has. -/
def lackOf (p : List S52) (ns : List ByteArray) : List ByteArray := ns.filter fun a => decide (findI p a < 0)
def lackRaw (p l : List S52) : List ByteArray := l.flatMap fun x => lackOf p (refsV x.f2)
theorem lackOf_len (p : List S52) (ns : List ByteArray) : (lackOf p ns).length ≤ ns.length := List.length_filter_le _ _
def goodRaw (p : List S52) : Bool := p.all fun x => (refsV x.f2).all fun a => !decide (findI p a < 0)
theorem lackRaw_good (p : List S52) : (lackRaw p p).isEmpty = goodRaw p := by
  have key : ∀ l : List S52, (lackRaw p l).isEmpty = l.all fun x => (refsV x.f2).all fun a => !decide (findI p a < 0) := by
    intro l
    induction l with
    | nil => rfl
    | cons x l ih =>
      have e : lackRaw p (x :: l) = lackOf p (refsV x.f2) ++ lackRaw p l := by simp [lackRaw]
      have e2 : ∀ ns : List ByteArray, (lackOf p ns).isEmpty = ns.all fun a => !decide (findI p a < 0) := by
        intro ns
        induction ns with
        | nil => rfl
        | cons a ns ih2 =>
          rw [List.all_cons, ← ih2]
          unfold lackOf
          rw [List.filter_cons]
          cases h : decide (findI p a < 0) with
          | true => simp
          | false => simp
      have e3 : ∀ a b : List ByteArray, (a ++ b).isEmpty = (a.isEmpty && b.isEmpty) := fun a b => by cases a <;> rfl
      rw [e, List.all_cons, ← ih, ← e2, e3]
  exact key p
theorem compact_nil_iff (l : List (List UInt8)) : (Lib.compact l).isEmpty = l.isEmpty := by
  have key : ∀ (d : Array (List UInt8)) (m : Nat), Lib.compactUpTo d (m + 1) ≠ [] := by
    intro d m
    induction m with
    | zero =>
      rw [Lib.compactUpTo_succ]
      have : Lib.keeps d 0 = true := by simp [Lib.keeps]
      rw [if_pos this]
      simp
    | succ m ih =>
      rw [Lib.compactUpTo_succ]
      intro h
      exact ih (List.append_eq_nil_iff.mp h).1
  cases l with
  | nil => rfl
  | cons x l =>
    have := key (x :: l).toArray l.length
    unfold Lib.compact
    cases h : Lib.compactUpTo (x :: l).toArray (x :: l).length with
    | nil => exact absurd h this
    | cons _ _ => rfl
theorem orderedV_nil (l : List ByteArray) : (orderedV l).isEmpty = l.isEmpty := by
  have h1 : ∀ m : List (List UInt8), (textsL m).isEmpty = m.isEmpty := fun m => by cases m <;> rfl
  have h2 : ∀ m : List (List UInt8), (sortV m).isEmpty = m.isEmpty := fun m => by
    have := List.length_mergeSort (le := fun x y => decide (x ≤ y)) m
    cases h : sortV m with
    | nil => unfold sortV at h; rw [h] at this; cases m with
      | nil => rfl
      | cons _ _ => simp at this
    | cons _ _ => unfold sortV at h; rw [h] at this; cases m with
      | nil => simp at this
      | cons _ _ => rfl
  have h3 : (bytesL l).isEmpty = l.isEmpty := by cases l <;> rfl
  unfold orderedV
  rw [h1, compact_nil_iff, h2, h3]
theorem len_isEmpty {α : Type} (l : List α) : (((l.length : Nat) : Int) == 0) = l.isEmpty := by
  cases l with
  | nil => rfl
  | cons x l => simp only [List.length_cons, List.isEmpty_cons, beq_eq_false_iff_ne]; omega
theorem runS_filter {β : Type} (q : ByteArray → Bool) (E : List ByteArray → β) : ∀ (l : List ByteArray) (i : Nat) (s : List ByteArray), runS (fun _ a s => if q a then (.inl (s ++ [a]) : List ByteArray ⊕ β) else .inl s) E l i s = E (s ++ l.filter q)
  | [], _, s => by simp [runS]
  | a :: l, i, s => by
    simp only [runS, List.filter_cons]
    cases h : q a with
    | true => rw [if_pos rfl, if_pos rfl]; simp only; rw [runS_filter q E l (i + 1) (s ++ [a]), List.append_assoc]; rfl
    | false => rw [if_neg (by decide), if_neg (by decide)]; simp only; exact runS_filter q E l (i + 1) s
theorem runS_flat {β : Type} (p : List S52) (E : List ByteArray → β) : ∀ (l : List S52) (i : Nat) (s : List ByteArray), runS (fun _ x s => (.inl (s ++ lackOf p (refsV x.f2)) : List ByteArray ⊕ β)) E l i s = E (s ++ lackRaw p l)
  | [], _, s => by simp [runS, lackRaw]
  | x :: l, i, s => by
    simp only [runS]
    rw [runS_flat p E l (i + 1) _, List.append_assoc]
    rfl
theorem impl_lacking_l1 (p l : List S52) (c j : Int) (ns : List ByteArray) (hn : ns.length ≤ 1000) (s : List ByteArray) (hs : s.length ≤ 1000000) (k : Nat) (hk : ns.length < k) :
    impl_lacking.l1 k p s l c j ns (ns.length : Int) 0 = impl_lacking.l0 (k - ns.length - 1) p (s ++ lackOf p ns) l c (wrap64 (j + 1)) := by
  refine (loop_run (fun _ a s => if decide (findI p a < 0) then (.inl (s ++ [a]) : List ByteArray ⊕ Option (List ByteArray)) else .inl s) (fun k s => impl_lacking.l0 k p s l c (wrap64 (j + 1))) (fun i s => s.length ≤ 1000000 + i) ByteArray.empty ns (by omega) (fun k s i => impl_lacking.l1 k p s l c j ns (ns.length : Int) i) 0 ?_ ?_ ?_ k (by omega) s (by omega)).trans (runS_filter _ _ ns 0 s)
  · intro k i s _ hi hI
    simp only [impl_lacking.l1, impl_find.f]
    rw [if_pos (by omega), if_pos (by omega), if_pos (by omega)]
    simp only [Option.bind_some]
    show (if findI p (ns.getD i ByteArray.empty) < 0 then (if s.length < 8796093022208 then impl_lacking.l1 k p (s ++ [ns.getD i ByteArray.empty]) l c j ns (ns.length : Int) (wrap64 ((i : Int) + 1)) else none) else _) = _
    rw [if_pos (show s.length < 8796093022208 by omega)]
    by_cases h : findI p (ns.getD i ByteArray.empty) < 0
    · rw [if_pos h, if_pos (decide_eq_true h)]
    · rw [if_neg h, if_neg (by rw [decide_eq_false h]; decide)]
  · intro i s s' hi hI he
    split at he
    · cases he; simp only [List.length_append, List.length_cons, List.length_nil]; omega
    · cases he; omega
  · intro k s _ _
    simp only [impl_lacking.l1]
    rw [if_neg (by omega)]
theorem impl_lacking_f (p : List S52) (hn : p.length ≤ 100) (hx : ∀ x ∈ p, x.f2.length ≤ 100) (k : Nat) (hk : 100000 < k) : impl_lacking.f k p = some (orderedV (lackRaw p p)) := by
  unfold impl_lacking.f
  refine (loop_var (fun _ x s => (.inl (s ++ lackOf p (refsV x.f2)) : List ByteArray ⊕ Option (List ByteArray))) (fun s => some (orderedV s)) (fun i s => s.length ≤ 100 * i) z52 p (by omega) (fun k s i => impl_lacking.l0 k p s p (p.length : Int) i) 1000 200 ?_ ?_ k (by omega) [] (by simp)).trans (by rw [runS_flat]; rfl)
  · intro k i s hK hi hs
    have hr := refsV_len (p.getD i z52).f2
    have hx2 := hx _ (getD_mem (d := z52) hi)
    have hl := lackOf_len p (refsV (p.getD i z52).f2)
    simp only
    refine ⟨by rw [List.length_append]; omega, k - (refsV (p.getD i z52).f2).length - 1, by omega, ?_⟩
    simp only [impl_lacking.l0]
    rw [show rd_T52 p (i : Int) = p.getD i z52 from rfl]
    rw [if_pos (by omega), if_pos (by omega), if_pos (by omega), impl_Fun_refs_f _ _ (p.getD i z52).f2 (by omega) k (by omega)]
    simp only [Option.bind_some]
    rw [impl_lacking_l1 p p _ _ _ (by omega) s (by omega) k (by omega)]
  · intro k s _ hs
    simp only [impl_lacking.l0]
    rw [if_neg (by omega)]
    unfold impl_ordered.f
    rw [if_pos (by omega)]
    rfl
def keepOkB (p : List S52) : Bool := (decide (1 ≤ (p.length : Int)) && decide ((p.length : Int) ≤ 40)) && (unitGood p && goodRaw p)
theorem unitGood_len {p : List S52} (h : unitGood p = true) : ∀ x ∈ p, x.f2.length ≤ 10 := by
  have key : ∀ (l : List S52) (i : Nat), allFrom (fun i x => funOkB x.f0 x.f2 && (findI p x.f0 == (i : Int))) l i = true → ∀ x ∈ l, x.f2.length ≤ 10 := by
    intro l
    induction l with
    | nil => intro i _ x hx; simp at hx
    | cons y l ih =>
      intro i h x hx
      simp only [allFrom, Bool.and_eq_true] at h
      rcases List.mem_cons.mp hx with rfl | hx
      · exact (funOkB_len h.1.1).2
      · exact ih (i + 1) h.2 x hx
  exact key p 0 h
theorem impl_KeepOk_f (p : List S52) (hn : p.length ≤ 140737488351232) (hx : ∀ x ∈ p, FitF x) (k : Nat) (hk : 100000 + p.length < k) : impl_KeepOk.f k p = some (keepOkB p) := by
  unfold impl_KeepOk.f keepOkB
  rw [impl_in_f]
  simp only [Option.bind_some]
  cases h1 : decide (1 ≤ (p.length : Int)) && decide ((p.length : Int) ≤ 40) with
  | false => rw [if_neg (by decide)]; rfl
  | true =>
    rw [if_pos rfl, impl_funsOk_f p hn hx k (by omega)]
    simp only [Option.bind_some, Bool.true_and]
    cases h2 : unitGood p with
    | false => rw [if_neg (by decide)]; rfl
    | true =>
      simp only [Bool.and_eq_true, decide_eq_true_eq] at h1
      have h3 := unitGood_len h2
      rw [if_pos rfl, impl_lacking_f p (by omega) (fun x hx => by have := h3 x hx; omega) k (by omega)]
      simp only [Option.bind_some, Bool.true_and]
      rw [len_isEmpty, orderedV_nil, lackRaw_good]
theorem runS_all {β : Type} (q : ByteArray → Bool) (E : β) (F : β) : ∀ (l : List ByteArray) (i : Nat), runS (fun _ a (_ : Unit) => if q a then (.inr F : Unit ⊕ β) else .inl ()) (fun _ => E) l i () = if (l.all fun a => !q a) = true then E else F
  | [], _ => rfl
  | a :: l, i => by
    simp only [runS]
    by_cases h : q a = true
    · rw [if_pos h, show ((a :: l).all fun a => !q a) = false by rw [List.all_cons, h]; rfl]; rfl
    · have h' : q a = false := by simpa using h
      rw [if_neg h, show ((a :: l).all fun a => !q a) = (l.all fun a => !q a) by rw [List.all_cons, h']; rfl]; exact runS_all q E F l (i + 1)
theorem spec_KeepOk_l2 (p : List S52) (hn : p.length ≤ 1000) (j : Int) (ns : List ByteArray) (hl : ns.length ≤ 1000) (k : Nat) (hk : 1001 + ns.length < k) :
    spec_KeepOk.l2 k p j ns 0 = if (ns.all fun a => !decide (findI p a < 0)) = true then spec_KeepOk.l1 (k - ns.length - 1) p (wrap64 (j + 1)) else some false := by
  refine (loop_run (fun _ a (_ : Unit) => if decide (findI p a < 0) then (.inr (some false) : Unit ⊕ Option Bool) else .inl ()) (fun k _ => spec_KeepOk.l1 k p (wrap64 (j + 1))) (fun _ _ => True) ByteArray.empty ns (by omega) (fun k _ i => spec_KeepOk.l2 k p j ns i) 1001 ?_ (fun _ _ _ _ _ _ => trivial) ?_ k (by omega) () trivial).trans (runS_all _ _ _ ns 0)
  · intro k i s hK hi _
    simp only [spec_KeepOk.l2]
    rw [if_pos (by omega), if_pos (by omega), spec_l2Find_f p (by omega) _ k (by omega)]
    simp only [Option.bind_some]
    show (if findI p (ns.getD i ByteArray.empty) < 0 then _ else _) = _
    by_cases h : findI p (ns.getD i ByteArray.empty) < 0
    · rw [if_pos h, if_pos (decide_eq_true h)]
    · rw [if_neg h, if_neg (by rw [decide_eq_false h]; decide)]
  · intro k s _ _
    simp only [spec_KeepOk.l2]
    rw [if_neg (by omega)]
theorem runS_allF {β : Type} (q : S52 → Bool) (E : β) (F : β) : ∀ (l : List S52) (i : Nat), runS (fun _ a (_ : Unit) => if q a then (.inl () : Unit ⊕ β) else .inr F) (fun _ => E) l i () = if l.all q = true then E else F
  | [], _ => rfl
  | a :: l, i => by
    simp only [runS]
    by_cases h : q a = true
    · rw [if_pos h, show (a :: l).all q = l.all q by rw [List.all_cons, h]; rfl]; exact runS_allF q E F l (i + 1)
    · have h' : q a = false := by simpa using h
      rw [if_neg h, show (a :: l).all q = false by rw [List.all_cons, h']; rfl]; rfl
theorem spec_KeepOk_l1 (p : List S52) (hn : p.length ≤ 1000) (hx : ∀ x ∈ p, x.f2.length ≤ 10) (k : Nat) (hk : 200000 < k) : spec_KeepOk.l1 k p 0 = some (goodRaw p) := by
  refine (loop_var (fun _ x (_ : Unit) => if (refsV x.f2).all (fun a => !decide (findI p a < 0)) then (.inl () : Unit ⊕ Option Bool) else .inr (some false)) (fun _ => some true) (fun _ _ => True) z52 p (by omega) (fun k _ i => spec_KeepOk.l1 k p i) 2000 100 ?_ ?_ k (by omega) () trivial).trans ?_
  · intro k i s hK hi _
    have hr := refsV_len (p.getD i z52).f2
    have hx2 := hx _ (getD_mem (d := z52) hi)
    have e : spec_KeepOk.l1 (k + 1) p (i : Int) = if ((refsV (p.getD i z52).f2).all fun a => !decide (findI p a < 0)) = true then spec_KeepOk.l1 (k - (refsV (p.getD i z52).f2).length - 1) p (wrap64 ((i : Int) + 1)) else some false := by
      simp only [spec_KeepOk.l1]
      rw [show rd_T52 p (i : Int) = p.getD i z52 from rfl]
      rw [if_pos (by omega), if_pos (by omega), spec_l2Refs_f (p.getD i z52).f2 (by omega) k (by omega)]
      simp only [Option.bind_some]
      rw [spec_KeepOk_l2 p hn _ _ (by omega) k (by omega)]
    simp only [e]
    cases h : (refsV (p.getD i z52).f2).all fun a => !decide (findI p a < 0) with
    | true => exact ⟨trivial, k - (refsV (p.getD i z52).f2).length - 1, by omega, rfl⟩
    | false => rfl
  · intro k s _ _
    simp only [spec_KeepOk.l1]
    rw [if_neg (by omega)]
  · rw [runS_allF]
    unfold goodRaw
    split
    · rename_i h; rw [h]
    · rename_i h; rw [Bool.not_eq_true] at h; rw [h]
theorem spec_KeepOk_f (p : List S52) (hn : p.length ≤ 140737488351232) (hx : ∀ x ∈ p, FitF x) (k : Nat) (hk : 1000000000000000 ≤ k) : spec_KeepOk.f k p = some (keepOkB p) := by
  obtain ⟨m, rfl⟩ : ∃ m, k = m + 1 := ⟨k - 1, by omega⟩
  have hj (b : Bool) : spec_KeepOk.j0 (m + 1) p b = if b = true then some false else spec_KeepOk.l0 m p 0 := by simp only [spec_KeepOk.j0]
  unfold spec_KeepOk.f keepOkB
  rw [hj, hj]
  by_cases h1 : (p.length : Int) < 1
  · rw [if_pos h1, if_pos rfl, decide_eq_false (by omega)]; rfl
  · rw [if_neg h1, decide_eq_true (show 1 ≤ (p.length : Int) by omega)]
    by_cases h2 : (p.length : Int) > 40
    · rw [if_pos (decide_eq_true h2), decide_eq_false (show ¬ (p.length : Int) ≤ 40 by omega)]; rfl
    · rw [if_neg (by rw [decide_eq_false h2]; decide), decide_eq_true (show (p.length : Int) ≤ 40 by omega)]
      simp only [Bool.true_and]
      have e := loop_run (fun i x (_ : Unit) => if funOkB x.f0 x.f2 && (findI p x.f0 == (i : Int)) then (.inl () : Unit ⊕ Option Bool) else .inr (some false)) (fun k _ => spec_KeepOk.l1 k p 0) (fun _ _ => True) z52 p (by omega) (fun k _ i => spec_KeepOk.l0 k p i) 300000000000000 ?_ (fun _ _ _ _ _ _ => trivial) ?_ m (by omega) () trivial
      · rw [e]
        have key : ∀ (l : List S52) (i : Nat) (E : Option Bool), runS (fun i x (_ : Unit) => if funOkB x.f0 x.f2 && (findI p x.f0 == (i : Int)) then (.inl () : Unit ⊕ Option Bool) else .inr (some false)) (fun _ => E) l i () = if allFrom (fun i x => funOkB x.f0 x.f2 && (findI p x.f0 == (i : Int))) l i = true then E else some false := by
          intro l
          induction l with
          | nil => intro i E; rfl
          | cons x l ih =>
            intro i E
            simp only [runS]
            by_cases h : (funOkB x.f0 x.f2 && (findI p x.f0 == (i : Int))) = true
            · rw [if_pos h, show allFrom (fun i x => funOkB x.f0 x.f2 && (findI p x.f0 == (i : Int))) (x :: l) i = allFrom (fun i x => funOkB x.f0 x.f2 && (findI p x.f0 == (i : Int))) l (i + 1) by simp only [allFrom, h, Bool.true_and]]; exact ih (i + 1) E
            · have h' : (funOkB x.f0 x.f2 && (findI p x.f0 == (i : Int))) = false := Bool.eq_false_iff.mpr h
              rw [if_neg h, show allFrom (fun i x => funOkB x.f0 x.f2 && (findI p x.f0 == (i : Int))) (x :: l) i = false by simp only [allFrom, h', Bool.false_and]]; rfl
        rw [key p 0 _]
        show (if unitGood p = true then _ else _) = _
        cases h3 : unitGood p with
        | false => rfl
        | true =>
          rw [if_pos rfl, spec_KeepOk_l1 p (by omega) (unitGood_len h3) _ (by omega)]
          rfl
      · intro k i s hK hi _
        have hf := hx _ (getD_mem (d := z52) hi)
        simp only [spec_KeepOk.l0]
        rw [if_pos (by omega), if_pos (by omega), spec_FunOk_f (rd_T52 p (i : Int)) hf k (by have := hf.2.1; have e9 : rd_T52 p (i : Int) = p.getD i z52 := rfl; rw [e9]; omega)]
        simp only [Option.bind_some]
        show (if funOkB (p.getD i z52).f0 (p.getD i z52).f2 = true then _ else _) = _
        cases h3 : funOkB (p.getD i z52).f0 (p.getD i z52).f2 with
        | false => rw [if_neg (by decide)]; rfl
        | true =>
          rw [if_pos rfl, spec_l2Find_f p (by omega) _ k (by omega)]
          simp only [Option.bind_some, Bool.true_and]
          show (if findI p (p.getD i z52).f0 = (i : Int) then _ else _) = _
          by_cases hq : findI p (p.getD i z52).f0 = (i : Int)
          · rw [if_pos hq, if_pos (beq_iff_eq.mpr hq)]
          · rw [if_neg hq, if_neg (by rw [beq_eq_false_iff_ne.mpr hq]; decide)]
      · intro k s _ _
        simp only [spec_KeepOk.l0]
        rw [if_neg (by omega)]
end Go.Proofs.Ytppmalfpggkpdaa.L

/- The program's KeepOk returns what the reference's returns, for all arguments. -/
namespace Go.Proofs.Ytppmalfpggkpdaa.Pure
open Go.RowKit Go.Proofs.Ytppmalfpggkpdaa.P Go.Proofs.Ytppmalfpggkpdaa.L Go.Proofs.YtppmalfpggkpdaaW.PrintWords
set_option linter.unusedVariables false
theorem FnExactKeepOk : laws_FnExactKeepOk.Pure := by
  intro x h_x
  replace h_x : OkU x := h_x
  obtain ⟨K, hK⟩ : ∃ K : Nat, 100000000000000000 ≤ K := ⟨_, Nat.le_refl _⟩
  refine ⟨K + 12, ?_⟩
  unfold laws_FnExactKeepOk.f
  rw [a_szFunS h_x 1048576 (by decide) (by decide) _ (by omega)]
  simp only [Option.bind_some]
  have b_x := gFunS_le x 1048576 (by decide)
  by_cases c_x : gFunS x 1048576 < 0
  · rw [if_pos c_x]
  rw [if_neg c_x]
  simp only [laws_FnExactKeepOk.j0]
  rw [a_toFunS h_x _ (by omega)]
  simp only [Option.bind_some]
  have hl : (x.map cvFun).length ≤ 2932031007402 := by rw [List.length_map]; exact h_x.len
  rw [spec_KeepOk_f (x.map cvFun) (by omega) (fits_cv h_x) _ (by omega), impl_KeepOk_f (x.map cvFun) (by omega) (fits_cv h_x) _ (by omega)]
  simp only [Option.bind_some]
  rw [if_neg (by simp)]
  simp only [laws_FnExactKeepOk.j1]
  rw [a_toFunS h_x _ (by omega)]
  simp only [Option.bind_some]
  rw [a_eqFunS h_x _ (by omega)]
  simp only [Option.bind_some, if_true]
end Go.Proofs.Ytppmalfpggkpdaa.Pure
