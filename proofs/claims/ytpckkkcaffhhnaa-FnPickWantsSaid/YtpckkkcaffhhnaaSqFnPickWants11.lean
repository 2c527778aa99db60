-- put together by squash.py
import Derived.Test.YtpckkkcaffhhnaaSqFnPickWants7
import Derived.Test.YtpckkkcaffhhnaaSqFnPickWants3
import Derived.Test.YtpckkkcaffhhnaaSqFnPickWants10
import Derived.Test.YtpckkkcaffhhnaaSqFnPickWants5
import Derived.Test.YtpckkkcaffhhnaaSqFnPickWants4
set_option linter.unusedVariables false
set_option linter.unusedSimpArgs false

namespace Go.Proofs.Ytpckkkcaffhhnaa.P
open Go.RowKit Go.Proofs.YtpckkkcaffhhnaaW.PrintWords Go.Proofs.YtpckkkcaffhhnaaW.PrintLast Go.Proofs.YtpckkkcaffhhnaaW.PrintMore
attribute [local go_sem] max2_int min2_int max_two min_two max_three min_three max_four min_four
def spec_DrawPickSame.j0 : Nat → List (List (S30)) → List (List (S30)) → Bool → Option ((List (List (S30))) × (List (List (S30))))
  | 0, _, _, _ => none
  | k + 1, x4, x5, x26 => if x26 = true then (if 1 ≤ (x5.length : Int) then (some (x4, (x5.drop 1))) else (none)) else (some (x4, x5))
def spec_DrawPickSame.f (k : Nat) (l0 : List Int) : Option ((List (List (S30))) × (List (List (S30)))) := (spec_l13Open.f l0).bind fun bt570 => ((spec_l3Bent.f k bt570.1 bt570.2 3).bind fun bt573 => ((spec_l13Open.f l0).bind fun bt577 => ((spec_l3Bent.f k bt577.1 bt577.2 3).bind fun bt580 => (if (l0.length : Int) > 0 then (if 0 < (l0.length : Int) then (if (Int.tmod (rd l0 0) 2) = 1 then (spec_DrawPickSame.j0 k bt573.1 bt580.1 (decide ((bt580.1.length : Int) > 0))) else (spec_DrawPickSame.j0 k bt573.1 bt580.1 false)) else (none)) else (spec_DrawPickSame.j0 k bt573.1 bt580.1 false)))))
set_option maxHeartbeats 8000000 in
set_option maxRecDepth 100000 in
theorem spec_DrawPickSame.calls (k : Nat) (A0 : Option Addr) (c0 : Nat) (l0 : List Int) (r1 : List (List (S30))) (r2 : List (List (S30))) (w : World) (hr0 : Kd.C (Kd.int .u8) w A0 l0.length l0) (hc0 : l0.length ≤ c0) (h : spec_DrawPickSame.f k l0 = some (r1, r2)) :
    Calls Try.prog 42 #[.slice A0 l0.length c0] w fun e w' => ∃ v0_ v1_ : Value, e = .returned (.tuple #[v0_, v1_]) ∧ Kd.N (Kd.slice 30 k30) 23 w' w.heap.size (fun k_ => (w.heap.size ≤ k_)) v0_ r1 ∧ Kd.V (Kd.slice 30 k30) 23 w' w.heap.size (fun k_ => (w.heap.size ≤ k_) ∧ some k_ ≠ (v0_ : Value).ownBlock) v1_ r2 ∧ Below w.heap.size w w' := by
 have HR0 := aM hr0; have HC0 := aM hc0; clear hr0 hc0
 have HB := aM (Below.refl w.heap.size w)
 have H : ((spec_l13Open.f l0).bind fun bt570 => ((spec_l3Bent.f k bt570.1 bt570.2 3).bind fun bt573 => ((spec_l13Open.f l0).bind fun bt577 => ((spec_l3Bent.f k bt577.1 bt577.2 3).bind fun bt580 => (if (l0.length : Int) > 0 then (if 0 < (l0.length : Int) then (if (Int.tmod (rd l0 0) 2) = 1 then (spec_DrawPickSame.j0 k bt573.1 bt580.1 (decide ((bt580.1.length : Int) > 0))) else (spec_DrawPickSame.j0 k bt573.1 bt580.1 false)) else (none)) else (spec_DrawPickSame.j0 k bt573.1 bt580.1 false)))))) = some (r1, r2) := h
 clear h
 replace H := Option.bind_eq_some_iff.mp H
 obtain ⟨⟨t570, t571⟩, A20, H⟩ := H
 replace H : ((spec_l3Bent.f k t570 t571 3).bind fun bt573 => ((spec_l13Open.f l0).bind fun bt577 => ((spec_l3Bent.f k bt577.1 bt577.2 3).bind fun bt580 => (if (l0.length : Int) > 0 then (if 0 < (l0.length : Int) then (if (Int.tmod (rd l0 0) 2) = 1 then (spec_DrawPickSame.j0 k bt573.1 bt580.1 (decide ((bt580.1.length : Int) > 0))) else (spec_DrawPickSame.j0 k bt573.1 bt580.1 false)) else (none)) else (spec_DrawPickSame.j0 k bt573.1 bt580.1 false))))) = some (r1, r2) := H
 have A2 := aM A20; clear A20
 replace H := Option.bind_eq_some_iff.mp H
 obtain ⟨⟨t573, t576⟩, A30, H⟩ := H
 replace H : ((spec_l13Open.f l0).bind fun bt577 => ((spec_l3Bent.f k bt577.1 bt577.2 3).bind fun bt580 => (if (l0.length : Int) > 0 then (if 0 < (l0.length : Int) then (if (Int.tmod (rd l0 0) 2) = 1 then (spec_DrawPickSame.j0 k t573 bt580.1 (decide ((bt580.1.length : Int) > 0))) else (spec_DrawPickSame.j0 k t573 bt580.1 false)) else (none)) else (spec_DrawPickSame.j0 k t573 bt580.1 false)))) = some (r1, r2) := H
 have A3 := aM A30; clear A30
 replace H := Option.bind_eq_some_iff.mp H
 obtain ⟨⟨t577, t578⟩, A40, H⟩ := H
 replace H : ((spec_l3Bent.f k t577 t578 3).bind fun bt580 => (if (l0.length : Int) > 0 then (if 0 < (l0.length : Int) then (if (Int.tmod (rd l0 0) 2) = 1 then (spec_DrawPickSame.j0 k t573 bt580.1 (decide ((bt580.1.length : Int) > 0))) else (spec_DrawPickSame.j0 k t573 bt580.1 false)) else (none)) else (spec_DrawPickSame.j0 k t573 bt580.1 false))) = some (r1, r2) := H
 have A4 := aM A40; clear A40
 replace H := Option.bind_eq_some_iff.mp H
 obtain ⟨⟨t580, t583⟩, A50, H⟩ := H
 replace H : (if (l0.length : Int) > 0 then (if 0 < (l0.length : Int) then (if (Int.tmod (rd l0 0) 2) = 1 then (spec_DrawPickSame.j0 k t573 t580 (decide ((t580.length : Int) > 0))) else (spec_DrawPickSame.j0 k t573 t580 false)) else (none)) else (spec_DrawPickSame.j0 k t573 t580 false)) = some (r1, r2) := H
 have A5 := aM A50; clear A50; have HC6 := aM H; clear H
 go_enter Try.func42, Try.ntmps42
 go_upto_region 3 with (first | ((with_reducible refine gate_callee (f := 61) rfl ?_); refine goesL_ (some 7) rfl rfl Try.func61 (by kernel_rfl) rfl #[.slice A0 l0.length c0] rfl (by (try simp only [List.map_toArray, List.map_cons, List.map_nil]); first | done | rfl) ?_; (with_reducible refine (spec_l13Open.calls _ _ l0 t570 t571 w _ ?side1 ?side2 ?side3 A2.out).mono ?_); (case side1 => repeat (with_reducible first | exact HB.out | apply bA | apply bN | apply bD)); (case side2 => exact HR0.out); (case side3 => exact HC0.out); rintro e w7 ⟨g572, rfl, hi, hb, hb2⟩; refine ⟨_, rfl, ?_⟩; have n0_ := aM (hb); have n1_ := aM (hi); clear HB; have HB := n0_; have HI572 := n1_; clear n0_ n1_) | ((with_reducible refine gate_callee (f := 81) rfl ?_); refine goesL_ (some 8) rfl rfl Try.func81 (by kernel_rfl) rfl #[.pointer (some ⟨g572, 0, none⟩), .int .i64 3] rfl (by (try simp only [List.map_toArray, List.map_cons, List.map_nil]); first | done | rfl) ?_; (with_reducible refine (spec_l3Bent.calls k g572 t570 t571 3 t573 t576 w _ ?side1 ?side2 A3.out).mono ?_); (case side1 => repeat (with_reducible first | exact HI572.out | apply IsS112.alloc | apply IsS112.drewN | apply IsS112.drew | apply IsS112.set_1)); (case side2 => repeat (with_reducible first | exact HB.out | apply bA | apply bN | apply bD | refine below_set ?_ (IsS112.ge HI572.out))); rintro e w8 ⟨v574, rfl, ho0, hi, hb, hk⟩; refine ⟨_, rfl, ?_⟩; have n0_ := aM (Kd.N_lower (Kd.N_mono (ok' := fun k_ => (w.heap.size ≤ k_) ∧ k_ ≠ g572) ho0 (fun k_ hk_ => ⟨(Nat.le_trans (below_size (by repeat (with_reducible first | exact HB.out | apply bA | apply bN | apply bD | refine below_set ?_ (IsS112.ge HI572.out)))) hk_), (IsS112.fresh (by repeat (with_reducible first | exact HI572.out | apply IsS112.alloc | apply IsS112.drewN | apply IsS112.drew | apply IsS112.set_1)) k_ hk_)⟩)) (below_size (by repeat (with_reducible first | exact HB.out | apply bA | apply bN | apply bD | refine below_set ?_ (IsS112.ge HI572.out))))); have n1_ := aM (hb); have n2_ := aM (hi); clear HB HI572; have HO575 := n0_; have HB := n1_; have HI572 := n2_; clear n0_ n1_ n2_; (try clear ho0)) | ((with_reducible refine gate_callee (f := 61) rfl ?_); refine goesL_ (some 10) rfl rfl Try.func61 (by kernel_rfl) rfl #[.slice A0 l0.length c0] rfl (by (try simp only [List.map_toArray, List.map_cons, List.map_nil]); first | done | rfl) ?_; (with_reducible refine (spec_l13Open.callsF _ _ l0 t577 t578 w _ ?side1 ?side2 ?side3 A4.out).mono ?_); (case side1 => repeat (with_reducible first | exact HB.out | apply bA | apply bN | apply bD | refine below_set ?_ (IsS112.ge HI572.out))); (case side2 => exact HR0.out); (case side3 => exact HC0.out); rintro e w9 ⟨g579, rfl, hi, hb, hb2, hge⟩; refine ⟨_, rfl, ?_⟩; have n_ := aM (Kd.N_mono (ok' := (fun k_ => (w.heap.size ≤ k_))) HO575.out (fun k_ hk => hk.1)); clear HO575; have HO575 := n_; clear n_; (try clear HI572); have n0_ := aM (Kd.N_below (Kd.N_mono (ok' := fun k_ => (((w.heap.size ≤ k_))) ∧ k_ ≠ g579) (Kd.N_bound (by (with_reducible repeat (first | apply Na | apply Nn | apply Nd)); exact HO575.out)) (fun k_ h_ => ⟨h_.1, fun e_ => Nat.not_le.2 h_.2 (Nat.le_trans hge (Nat.le_of_eq e_.symm))⟩)) hb2); have n1_ := aM (hb); have n2_ := aM (hi); clear HO575 HB; have HO575 := n0_; have HB := n1_; have HI579 := n2_; clear n0_ n1_ n2_) | ((with_reducible refine gate_callee (f := 81) rfl ?_); refine goesL_ (some 11) rfl rfl Try.func81 (by kernel_rfl) rfl #[.pointer (some ⟨g579, 0, none⟩), .int .i64 3] rfl (by (try simp only [List.map_toArray, List.map_cons, List.map_nil]); first | done | rfl) ?_; (with_reducible refine (spec_l3Bent.calls k g579 t577 t578 3 t580 t583 w _ ?side1 ?side2 A5.out).mono ?_); (case side1 => repeat (with_reducible first | exact HI579.out | apply IsS112.alloc | apply IsS112.drewN | apply IsS112.drew | apply IsS112.set_1)); (case side2 => repeat (with_reducible first | exact HB.out | apply bA | apply bN | apply bD | refine below_set ?_ (IsS112.ge HI579.out))); rintro e w10 ⟨v581, rfl, ho0, hi, hb, hk⟩; refine ⟨_, rfl, ?_⟩; have n0_ := aM (Kd.N_mono (Kd.N_told (Kd.N_oldK (Kd.N_mono (ok := fun k_ => (((w.heap.size ≤ k_)) ∧ k_ ≠ g579)) (by (with_reducible repeat (first | apply Na | apply Nn | apply Nd)); exact HO575.out) (fun k_ hk_ => (⟨hk_, hk_.2⟩ : _ ∧ k_ ≠ g579))) hk) (Kd.N_base ho0)) (fun _ h_ => h_.1)); have n1_ := aM (Kd.N_lower (Kd.N_mono (ok' := fun k_ => (w.heap.size ≤ k_) ∧ some k_ ≠ (v574 : Value).ownBlock ∧ k_ ≠ g579) ho0 (fun k_ hk_ => ⟨(Nat.le_trans (below_size (by repeat (with_reducible first | exact HB.out | apply bA | apply bN | apply bD | refine below_set ?_ (IsS112.ge HI579.out)))) hk_), (Kd.fresh' (Kd.N_lt (by (with_reducible repeat (first | apply Na | apply Nn | apply Nd)); exact HO575.out)) k_ hk_), (IsS112.fresh (by repeat (with_reducible first | exact HI579.out | apply IsS112.alloc | apply IsS112.drewN | apply IsS112.drew | apply IsS112.set_1)) k_ hk_)⟩)) (below_size (by repeat (with_reducible first | exact HB.out | apply bA | apply bN | apply bD | refine below_set ?_ (IsS112.ge HI579.out))))); have n2_ := aM (hb); have n3_ := aM (hi); clear HO575 HB HI579; have HO575 := n0_; have HO582 := n1_; have HB := n2_; have HI579 := n3_; clear n0_ n1_ n2_ n3_; (try clear ho0)))
 (try simp only [Act.put, List.setIfInBounds_toArray, List.set_cons_zero, List.set_cons_succ])
 go_cut [26] (fun v26 wc => ∃ (kq : Nat) (x26_5 : Bool), v26 = .bool x26_5 ∧ Aside0 (spec_DrawPickSame.j0 kq t573 t580 x26_5 = some (r1, r2)) ∧ Aside0 (kq ≤ k) ∧ Aside0 (Kd.N (Kd.slice 30 k30) 23 wc w.heap.size (fun k_ => (w.heap.size ≤ k_) ∧ some k_ ≠ (v581 : Value).ownBlock) v574 t573) ∧ Aside0 (Kd.N (Kd.slice 30 k30) 23 wc w.heap.size (fun k_ => (w.heap.size ≤ k_) ∧ some k_ ≠ (v574 : Value).ownBlock) v581 t580) ∧ Aside0 (Below w.heap.size w wc))
 case first =>
  have H := HC6.out
  clear HC6
  by_cases c11 : (l0.length : Int) > 0
  · rw [if_pos c11] at H
    have c11b0 : decide (0 < (l0.length : Int)) = true := decide_eq_true c11
    have c11b1 : decide (0 < l0.length) = true := decide_eq_true (by omega)
    clear c11
    (first | rw [c11b0] | (simp only [i64_w, i32_w]; rw [c11b0]) | (have cn_ := c11b0; simp only [bne] at cn_; rw [cn_]; clear cn_) | skip)
    by_cases c12 : 0 < (l0.length : Int)
    · rw [if_pos c12] at H
      have c12b0 : decide (0 < (l0.length : Int)) = true := decide_eq_true c12
      have c12b1 : decide (0 < l0.length) = true := decide_eq_true (by omega)
      clear c12
      by_cases c13 : (Int.tmod (rd l0 0) 2) = 1
      · rw [if_pos c13] at H
        have c13b0 : ((Int.tmod (rd l0 0) 2) == 1) = true := beq_iff_eq.mpr c13
        have c13b1 : ((Int.tmod (rd l0 0) 2) != 1) = false := bne_eq_false_iff_eq.mpr c13
        clear c13
        have H' := aM H
        clear H
        have p584 : 0 ≤ (0 : Int) := (by omega)
        have q584 : 0 < (l0.length : Int) := oD (by first | with_reducible assumption | assumption)
        obtain ⟨ad584, e584, hx584_0⟩ := Kd.at_int HR0.out 0 p584 q584
        cases e584
        have qi584 : (0 < l0.length) = True := eq_true (by omega)
        (try rw [show ((0 : Int)).toNat = 0 from rfl] at hx584_0)
        (try rw [Addr.add_zero'] at hx584_0)
        replace hx584_0 := (HB.out.cell (World.block_lt_of_cell? w _ hx584_0)).trans hx584_0
        replace p584 := eq_true p584; replace q584 := eq_true q584
        obtain ⟨Ao14, co14, eo14⟩ := Kd.N_slice HO582.out
        subst eo14
        go_wp2
        go_meet
        case rel => exact ⟨_, (decide ((t580.length : Int) > 0)), (by first | rfl | (simp; done) | (simp [*]; done)), H', ⟨by first | omega | exact Nat.le_refl _⟩, ⟨by (with_reducible repeat (first | apply Na | apply Nn | apply Nd)); exact Kd.N_mono HO575.out (fun _ hk => ⟨hk.1.1, hk.2⟩)⟩, ⟨by (with_reducible repeat (first | apply Na | apply Nn | apply Nd)); exact Kd.N_mono HO582.out (fun _ hk => ⟨hk.1, hk.2.1⟩)⟩, ⟨by repeat (with_reducible first | exact HB.out | apply bA | apply bN | apply bD | refine below_set ?_ (IsS112.ge HI579.out))⟩⟩
      rw [if_neg c13] at H
      have c13b0 : ((Int.tmod (rd l0 0) 2) == 1) = false := beq_eq_false_iff_ne.mpr c13
      have c13b1 : ((Int.tmod (rd l0 0) 2) != 1) = true := bne_iff_ne.mpr c13
      have H' := aM H
      clear H
      have p584 : 0 ≤ (0 : Int) := (by omega)
      have q584 : 0 < (l0.length : Int) := oD (by first | with_reducible assumption | assumption)
      obtain ⟨ad584, e584, hx584_0⟩ := Kd.at_int HR0.out 0 p584 q584
      cases e584
      have qi584 : (0 < l0.length) = True := eq_true (by omega)
      (try rw [show ((0 : Int)).toNat = 0 from rfl] at hx584_0)
      (try rw [Addr.add_zero'] at hx584_0)
      replace hx584_0 := (HB.out.cell (World.block_lt_of_cell? w _ hx584_0)).trans hx584_0
      replace p584 := eq_true p584; replace q584 := eq_true q584
      go_wp2
      go_meet
      case rel => exact ⟨_, (false), (by first | rfl | (simp; done) | (simp [*]; done)), H', ⟨by first | omega | exact Nat.le_refl _⟩, ⟨by (with_reducible repeat (first | apply Na | apply Nn | apply Nd)); exact Kd.N_mono HO575.out (fun _ hk => ⟨hk.1.1, hk.2⟩)⟩, ⟨by (with_reducible repeat (first | apply Na | apply Nn | apply Nd)); exact Kd.N_mono HO582.out (fun _ hk => ⟨hk.1, hk.2.1⟩)⟩, ⟨by repeat (with_reducible first | exact HB.out | apply bA | apply bN | apply bD | refine below_set ?_ (IsS112.ge HI579.out))⟩⟩
    rw [if_neg c12] at H
    exact absurd H (by simp)
  rw [if_neg c11] at H
  have c11b0 : decide (0 < (l0.length : Int)) = false := decide_eq_false c11
  have c11b1 : decide (0 < l0.length) = false := decide_eq_false (by omega)
  clear c11
  (first | rw [c11b0] | (simp only [i64_w, i32_w]; rw [c11b0]) | (have cn_ := c11b0; simp only [bne] at cn_; rw [cn_]; clear cn_) | skip)
  have H' := aM H
  clear H
  go_wp2
  go_meet
  case rel => exact ⟨_, (false), (by first | rfl | (simp; done) | (simp [*]; done)), H', ⟨by first | omega | exact Nat.le_refl _⟩, ⟨by (with_reducible repeat (first | apply Na | apply Nn | apply Nd)); exact Kd.N_mono HO575.out (fun _ hk => ⟨hk.1.1, hk.2⟩)⟩, ⟨by (with_reducible repeat (first | apply Na | apply Nn | apply Nd)); exact Kd.N_mono HO582.out (fun _ hk => ⟨hk.1, hk.2.1⟩)⟩, ⟨by repeat (with_reducible first | exact HB.out | apply bA | apply bN | apply bD | refine below_set ?_ (IsS112.ge HI579.out))⟩⟩
 clear HC6; try clear c1; try clear p2; try clear c4; try clear p5; try clear q5; try clear hx5; try clear qi5; try clear c6; try clear c8; try clear c11; try clear c11b0; try clear c11b1; try clear c12; try clear c12b0; try clear c12b1; try clear c13; try clear c13b0; try clear c13b1; try clear hx584_0; try clear p584; try clear q584
 obtain ⟨kq, x26_5, rfl, HA, HJ5, HO_4, HO_5, HB⟩ := hcut
 obtain _ | kj5 := kq
 · exact absurd HA.out (by simp [spec_DrawPickSame.j0])
 have H := HA.out
 clear HA
 simp only [spec_DrawPickSame.j0] at H
 by_cases c15 : x26_5 = true
 · subst c15
   have H1 : (if 1 ≤ (t580.length : Int) then (some (t573, (t580.drop 1))) else (none)) = some (r1, r2) := by rw [if_pos rfl] at H; exact H
   clear H
   have H := H1
   clear H1
   by_cases c16 : 1 ≤ (t580.length : Int)
   · rw [if_pos c16] at H
     have c16b0 := eq_true c16
     have c16b1 : decide (1 ≤ (t580.length : Int)) = true := decide_eq_true c16
     clear c16
     obtain ⟨y585, hy585⟩ : ∃ y_ : List (List (S30)), y_ = (t580.drop 1) := ⟨_, rfl⟩
     replace H : (some (t573, y585)) = some (r1, r2) := by first | (rw [hy585]; with_reducible exact H) | (have H2_ := (Option.bind_some _ _).symm.trans H; rw [hy585]; with_reducible exact H2_) | (have H2_ := (Option.bind_some _ _).symm.trans H; with_reducible exact H2_) | with_reducible exact H | (rw [hy585]; exact H) | exact H
     have Ny585 := aM hy585; clear hy585
     simp only [Option.some.injEq, Prod.mk.injEq] at H
     obtain ⟨rfl, rfl⟩ := H
     obtain ⟨Ao18, co18, eo18⟩ := Kd.N_slice HO_5.out
     subst eo18
     have q17 : (1 : Int) ≤ ((t580.length : Int) : Int) := oD (by first | with_reducible assumption | assumption)
     obtain ⟨i017, hi017, _, hsz17, _⟩ := info_parts info23
     have hroom17 : t580.length ≤ co18 := (Kd.N_reads' HO_5.out).2.1
     have hC17 : Kd.F (Kd.slice 30 k30) _ _ Ao18 t580.length t580 := (Kd.V_at (base := w.heap.size) (Kd.N_V HO_5.out)).2.2
     have hcut17 := cut_from (P := Try.prog) 42 23 .i64 Try.underlying42 hi017 1 hsz17 Ao18 t580.length co18 1 (by omega) q17
     have hr17 := Kd.F_cut (m := (1 : Int).toNat) (c := co18) hC17 (by omega) hroom17
     obtain ⟨A17, hA17⟩ : ∃ A1, A1 = (if co18 = (1 : Int).toNat then Ao18 else (Ao18 : Option Addr).map (·.add ((1 : Int).toNat * 1))) := ⟨_, rfl⟩
     obtain ⟨c17, hc17⟩ : ∃ c1, c1 = co18 - (1 : Int).toNat := ⟨_, rfl⟩
     have hy17 : y585.length = t580.length - (1 : Int).toNat := (by rw [Ny585.out, List.length_drop] <;> omega)
     rw [show (t580).drop (1 : Int).toNat = y585 from Ny585.out.symm] at hr17
     replace hr17 : Kd.F (Kd.slice 30 k30) _ _ A17 y585.length y585 := (by rw [hA17]; exact hr17)
     rw [← hy17, ← hA17, ← hc17] at hcut17
     have HO589 := aM (show Kd.V (Kd.slice 30 k30) 23 _ w.heap.size _ (.slice A17 y585.length c17) y585 from Kd.V_mk (by rw [hy17, hc17]; exact Nat.sub_le_sub_right hroom17 _) hr17)
     have HC589 := aM (show y585.length ≤ c17 from by rw [hy17, hc17]; exact Nat.sub_le_sub_right hroom17 _)
     clear hr17 hC17 hroom17 hi017 hsz17 hc17; have KY17 := aM hy17; have KA17 := aM hA17; clear hy17 hA17; replace q17 := eq_true q17
     go_wp2
     go_ret2
     exact ⟨_, _, by first | rfl | (simp [*, errW_none, errW_some] <;> rfl), by (with_reducible repeat (first | apply Na | apply Nn | apply Nd)); exact Kd.N_mono HO_4.out (fun _ hk => hk.1), by (with_reducible repeat (first | apply Va | apply Vn | apply Vd)); exact HO589.out, by repeat (with_reducible first | exact HB.out | apply bA | apply bN | apply bD)⟩
   rw [if_neg c16] at H
   exact absurd H (by simp)
 replace c15 := Bool.eq_false_iff.mpr c15
 subst c15
 have H1 : (some (t573, t580)) = some (r1, r2) := by rw [if_neg (show ¬ (false = true) by decide)] at H; exact H
 clear H
 have H := H1
 clear H1
 simp only [Option.some.injEq, Prod.mk.injEq] at H
 obtain ⟨rfl, rfl⟩ := H
 go_wp2
 go_ret2
 exact ⟨_, _, by first | rfl | (simp [*, errW_none, errW_some] <;> rfl), by (with_reducible repeat (first | apply Na | apply Nn | apply Nd)); exact Kd.N_mono HO_4.out (fun _ hk => hk.1), Kd.N_V (by (with_reducible repeat (first | apply Na | apply Nn | apply Nd)); exact HO_5.out), by repeat (with_reducible first | exact HB.out | apply bA | apply bN | apply bD)⟩
def spec_DrawPickWants.f (k : Nat) (l0 : List Int) : Option ((List (List (S30)))) := (spec_l13Open.f l0).bind fun bt885 => ((spec_l3Bent.f k bt885.1 bt885.2 4).bind fun bt888 => (some bt888.1))
set_option maxHeartbeats 8000000 in
set_option maxRecDepth 100000 in
theorem spec_DrawPickWants.calls (k : Nat) (A0 : Option Addr) (c0 : Nat) (l0 : List Int) (r : List (List (S30))) (w : World) (hr0 : Kd.C (Kd.int .u8) w A0 l0.length l0) (hc0 : l0.length ≤ c0) (h : spec_DrawPickWants.f k l0 = some r) :
    Calls Try.prog 39 #[.slice A0 l0.length c0] w fun e w' => ∃ v0_ : Value, e = .returned (v0_) ∧ Kd.N (Kd.slice 30 k30) 23 w' w.heap.size (fun k_ => (w.heap.size ≤ k_)) v0_ r ∧ Below w.heap.size w w' := by
 have HR0 := aM hr0; have HC0 := aM hc0; clear hr0 hc0
 have HB := aM (Below.refl w.heap.size w)
 have H : ((spec_l13Open.f l0).bind fun bt885 => ((spec_l3Bent.f k bt885.1 bt885.2 4).bind fun bt888 => (some bt888.1))) = some r := h
 clear h
 replace H := Option.bind_eq_some_iff.mp H
 obtain ⟨⟨t885, t886⟩, A20, H⟩ := H
 replace H : ((spec_l3Bent.f k t885 t886 4).bind fun bt888 => (some bt888.1)) = some r := H
 have A2 := aM A20; clear A20
 replace H := Option.bind_eq_some_iff.mp H
 obtain ⟨⟨t888, t891⟩, A30, H⟩ := H
 replace H : (some t888) = some r := H
 have A3 := aM A30; clear A30
 obtain rfl := Option.some.inj H
 go_enter Try.func39, Try.ntmps39
 go_wp2_with (first | ((with_reducible refine gate_callee (f := 61) rfl ?_); refine goesL_ (some 4) rfl rfl Try.func61 (by kernel_rfl) rfl #[.slice A0 l0.length c0] rfl (by (try simp only [List.map_toArray, List.map_cons, List.map_nil]); first | done | rfl) ?_; (with_reducible refine (spec_l13Open.calls _ _ l0 t885 t886 w _ ?side1 ?side2 ?side3 A2.out).mono ?_); (case side1 => repeat (with_reducible first | exact HB.out | apply bA | apply bN | apply bD)); (case side2 => exact HR0.out); (case side3 => exact HC0.out); rintro e w4 ⟨g887, rfl, hi, hb, hb2⟩; refine ⟨_, rfl, ?_⟩; have n0_ := aM (hb); have n1_ := aM (hi); clear HB; have HB := n0_; have HI887 := n1_; clear n0_ n1_) | ((with_reducible refine gate_callee (f := 81) rfl ?_); refine goesL_ (some 5) rfl rfl Try.func81 (by kernel_rfl) rfl #[.pointer (some ⟨g887, 0, none⟩), .int .i64 4] rfl (by (try simp only [List.map_toArray, List.map_cons, List.map_nil]); first | done | rfl) ?_; (with_reducible refine (spec_l3Bent.calls k g887 t885 t886 4 t888 t891 w _ ?side1 ?side2 A3.out).mono ?_); (case side1 => repeat (with_reducible first | exact HI887.out | apply IsS112.alloc | apply IsS112.drewN | apply IsS112.drew | apply IsS112.set_1)); (case side2 => repeat (with_reducible first | exact HB.out | apply bA | apply bN | apply bD | refine below_set ?_ (IsS112.ge HI887.out))); rintro e w5 ⟨v889, rfl, ho0, hi, hb, hk⟩; refine ⟨_, rfl, ?_⟩; have n0_ := aM (Kd.N_lower (Kd.N_mono (ok' := fun k_ => (w.heap.size ≤ k_) ∧ k_ ≠ g887) ho0 (fun k_ hk_ => ⟨(Nat.le_trans (below_size (by repeat (with_reducible first | exact HB.out | apply bA | apply bN | apply bD | refine below_set ?_ (IsS112.ge HI887.out)))) hk_), (IsS112.fresh (by repeat (with_reducible first | exact HI887.out | apply IsS112.alloc | apply IsS112.drewN | apply IsS112.drew | apply IsS112.set_1)) k_ hk_)⟩)) (below_size (by repeat (with_reducible first | exact HB.out | apply bA | apply bN | apply bD | refine below_set ?_ (IsS112.ge HI887.out))))); have n1_ := aM (hb); have n2_ := aM (hi); clear HB HI887; have HO890 := n0_; have HB := n1_; have HI887 := n2_; clear n0_ n1_ n2_; (try clear ho0)))
 go_ret
 exact ⟨_, by first | rfl | (simp [*, errW_none, errW_some] <;> rfl), by (with_reducible repeat (first | apply Na | apply Nn | apply Nd)); exact Kd.N_mono HO890.out (fun _ hk => hk.1), by repeat (with_reducible first | exact HB.out | apply bA | apply bN | apply bD | refine below_set ?_ (IsS112.ge HI887.out))⟩
def spec_l3Ok.l0 : Nat → List (List (S30)) → Int → Int → Option (Bool)
  | 0, _, _, _ => none
  | k + 1, x0, x1, x5 => if x5 < (x0.length : Int) then (if 0 ≤ x5 then ((spec_UnitOk.f k (rd_L13 x0 x5)).bind fun t526 => (if t526 = true then (spec_l3Ok.l0 k x0 x1 (wrap64 (x5 + 1))) else (some false))) else (none)) else (some (decide ((x0.length : Int) ≤ x1)))
def spec_l3Ok.f (k : Nat) (l0 : List (List (S30))) (a1 : Int) : Option (Bool) := spec_l3Ok.l0 k l0 a1 0
set_option maxHeartbeats 8000000 in
set_option maxRecDepth 100000 in
theorem spec_l3Ok.calls (k : Nat) (A0 : Option Addr) (c0 : Nat) (l0 : List (List (S30))) (a1 : Int) (r : Bool) (w : World) (hr0 : Kd.C (Kd.slice 30 k30) w A0 l0.length l0) (hc0 : l0.length ≤ c0) (h : spec_l3Ok.f k l0 a1 = some r) :
    Calls Try.prog 84 #[.slice A0 l0.length c0, .int .i64 a1] w fun e w' => e = .returned (.bool r) ∧ Below w.heap.size w w' := by
 have HR0 := aM hr0; have HC0 := aM hc0; clear hr0 hc0
 have HB := aM (Below.refl w.heap.size w)
 have H : (spec_l3Ok.l0 k l0 a1 0) = some r := h
 clear h
 have H' := aM H
 clear H
 go_enter Try.func84, Try.ntmps84
 go_wp2
 go_loopg [5] k (fun kq v5 w' => ∃ (x5_1 : Int), v5 = .int .i64 x5_1 ∧ Aside0 (spec_l3Ok.l0 kq l0 a1 x5_1 = some r) ∧ Aside0 (kq ≤ k) ∧ Aside0 (Below w.heap.size w w'))
 case atStart => exact ⟨(0), (by first | rfl | (simp; done) | (simp [*]; done)), H', ⟨Nat.le_refl _⟩, ⟨by repeat (with_reducible first | exact HB.out | apply bA | apply bN | apply bD)⟩⟩
 clear H'
 try clear p2
 obtain ⟨x5_1, rfl, HA, HK1, HB⟩ := hrel
 obtain _ | k1 := gk
 · exact absurd HA.out (by simp [spec_l3Ok.l0])
 have H := HA.out
 clear HA
 simp only [spec_l3Ok.l0] at H
 by_cases c3 : x5_1 < (l0.length : Int)
 · rw [if_pos c3] at H
   have c3b0 : decide (x5_1 < (l0.length : Int)) = true := decide_eq_true c3
   clear c3
   by_cases c4 : 0 ≤ x5_1
   · rw [if_pos c4] at H
     have c4b0 : decide (0 ≤ x5_1) = true := decide_eq_true c4
     clear c4
     replace H := Option.bind_eq_some_iff.mp H
     obtain ⟨t526, A50, H⟩ := H
     replace H : (if t526 = true then (spec_l3Ok.l0 k1 l0 a1 (wrap64 (x5_1 + 1))) else (some false)) = some r := H
     have A5 := aM A50; clear A50
     by_cases c6 : t526 = true
     · subst c6
       have H1 : (spec_l3Ok.l0 k1 l0 a1 (wrap64 (x5_1 + 1))) = some r := by rw [if_pos rfl] at H; exact H
       clear H
       have H := H1
       clear H1
       have H' := aM H
       clear H
       have p525 : 0 ≤ (x5_1 : Int) := oD (by first | with_reducible assumption | assumption)
       have q525 : x5_1 < (l0.length : Int) := oD (by first | with_reducible assumption | assumption)
       obtain ⟨ad525, A525_0, c525_0, e525, hx525_0, hl525_0, hi525_0⟩ := at_L13 HR0.out x5_1 p525 q525
       cases e525
       replace hx525_0 := (HB.out.cell (World.block_lt_of_cell? w _ hx525_0)).trans hx525_0
       have HR525_0 := aM hi525_0; have HC525_0 := aM hl525_0; clear hi525_0 hl525_0; replace p525 := eq_true p525; replace q525 := eq_true q525
       go_wp2_with (first | ((with_reducible refine gate_callee (f := 18) rfl ?_); refine goesL_ (some 16) rfl rfl Try.func18 (by kernel_rfl) rfl #[.slice A525_0 (rd_L13 l0 x5_1).length c525_0] rfl (by (try simp only [List.map_toArray, List.map_cons, List.map_nil]); first | done | rfl) ?_; (with_reducible refine (spec_UnitOk.calls k1 _ _ (rd_L13 l0 x5_1) true _ ?side1 ?side2 A5.out).mono ?_); (case side1 => repeat (first | exact (Kd.C_below HR525_0.out HB.out) | (with_reducible first | refine Ca ?_ _ | refine Cn ?_ _ | refine Cd ?_))); (case side2 => exact HC525_0.out); rintro e w7 ⟨rfl, hb⟩; refine ⟨_, rfl, ?_⟩; have n0_ := aM (below_step (by repeat (with_reducible first | exact HB.out | apply bA | apply bN | apply bD)) hb); clear HB; have HB := n0_; clear n0_))
       go_roundg k1
       case measure => have := HK1.out; omega
       case rel => exact ⟨(wrap64 (x5_1 + 1)), (by first | rfl | (simp; done) | (simp [*]; done)), H', ⟨by have := HK1.out; omega⟩, ⟨by repeat (with_reducible first | exact HB.out | apply bA | apply bN | apply bD)⟩⟩
     replace c6 := Bool.eq_false_iff.mpr c6
     subst c6
     have H1 : (some false) = some r := by rw [if_neg (show ¬ (false = true) by decide)] at H; exact H
     clear H
     have H := H1
     clear H1
     obtain rfl := Option.some.inj H
     have p525 : 0 ≤ (x5_1 : Int) := oD (by first | with_reducible assumption | assumption)
     have q525 : x5_1 < (l0.length : Int) := oD (by first | with_reducible assumption | assumption)
     obtain ⟨ad525, A525_0, c525_0, e525, hx525_0, hl525_0, hi525_0⟩ := at_L13 HR0.out x5_1 p525 q525
     cases e525
     replace hx525_0 := (HB.out.cell (World.block_lt_of_cell? w _ hx525_0)).trans hx525_0
     have HR525_0 := aM hi525_0; have HC525_0 := aM hl525_0; clear hi525_0 hl525_0; replace p525 := eq_true p525; replace q525 := eq_true q525
     go_wp2_with (first | ((with_reducible refine gate_callee (f := 18) rfl ?_); refine goesL_ (some 16) rfl rfl Try.func18 (by kernel_rfl) rfl #[.slice A525_0 (rd_L13 l0 x5_1).length c525_0] rfl (by (try simp only [List.map_toArray, List.map_cons, List.map_nil]); first | done | rfl) ?_; (with_reducible refine (spec_UnitOk.calls k1 _ _ (rd_L13 l0 x5_1) false _ ?side1 ?side2 A5.out).mono ?_); (case side1 => repeat (first | exact (Kd.C_below HR525_0.out HB.out) | (with_reducible first | refine Ca ?_ _ | refine Cn ?_ _ | refine Cd ?_))); (case side2 => exact HC525_0.out); rintro e w8 ⟨rfl, hb⟩; refine ⟨_, rfl, ?_⟩; have n0_ := aM (below_step (by repeat (with_reducible first | exact HB.out | apply bA | apply bN | apply bD)) hb); clear HB; have HB := n0_; clear n0_))
     go_ret
     exact ⟨by first | rfl | (simp [*, errW_none, errW_some] <;> rfl), by repeat (with_reducible first | exact HB.out | apply bA | apply bN | apply bD)⟩
   rw [if_neg c4] at H
   exact absurd H (by simp)
 rw [if_neg c3] at H
 have c3b0 : decide (x5_1 < (l0.length : Int)) = false := decide_eq_false c3
 clear c3
 obtain rfl := Option.some.inj H
 go_wp2
 go_ret
 exact ⟨by first | rfl | (simp [*, errW_none, errW_some] <;> rfl), by repeat (with_reducible first | exact HB.out | apply bA | apply bN | apply bD)⟩
def spec_l3At.l0 : Nat → List (List (S30)) → ByteArray → Int → Int → Int → Option (Int × Int × Bool)
  | 0, _, _, _, _, _ => none
  | k + 1, x0, x1, x7, x8, x9 => if x9 < (x0.length : Int) then (if 0 ≤ x9 then ((spec_l2Find.f k (rd_L13 x0 x9) x1).bind fun t528 => (if t528 < 0 then (spec_l3At.l0 k x0 x1 x7 x8 (wrap64 (x9 + 1))) else (if 0 ≤ t528 then (if t528 < ((rd_L13 x0 x9).length : Int) then (if ((rd_T30 (rd_L13 x0 x9) t528).f1 = true) then (if x7 < 0 then (spec_l3At.l0 k x0 x1 x9 t528 (wrap64 (x9 + 1))) else (spec_l3At.l0 k x0 x1 x7 x8 (wrap64 (x9 + 1)))) else (some (x9, t528, true))) else (none)) else (none)))) else (none)) else (if x7 < 0 then (some (0, 0, false)) else (some (x7, x8, true)))
def spec_l3At.f (k : Nat) (l0 : List (List (S30))) (a1 : ByteArray) : Option (Int × Int × Bool) := spec_l3At.l0 k l0 a1 (-1) (-1) 0
set_option maxHeartbeats 8000000 in
set_option maxRecDepth 100000 in
theorem spec_l3At.calls (k : Nat) (A0 : Option Addr) (c0 : Nat) (l0 : List (List (S30))) (a1 : ByteArray) (r1 : Int) (r2 : Int) (r3 : Bool) (w : World) (hr0 : Kd.C (Kd.slice 30 k30) w A0 l0.length l0) (hc0 : l0.length ≤ c0) (h : spec_l3At.f k l0 a1 = some (r1, r2, r3)) :
    Calls Try.prog 85 #[.slice A0 l0.length c0, .string a1] w fun e w' => e = .returned (.tuple #[.int .i64 r1, .int .i64 r2, .bool r3]) ∧ Drawn0 w w' := by
 have HR0 := aM hr0; have HC0 := aM hc0; clear hr0 hc0
 have H : (spec_l3At.l0 k l0 a1 (-1) (-1) 0) = some (r1, r2, r3) := h
 clear h
 have H' := aM H
 clear H
 go_enter Try.func85, Try.ntmps85
 go_wp2
 go_loopg [7, 8, 9] k (fun kq v7 v8 v9 w' => ∃ (x7_1 : Int) (x8_1 : Int) (x9_1 : Int), v7 = .int .i64 x7_1 ∧ v8 = .int .i64 x8_1 ∧ v9 = .int .i64 x9_1 ∧ Aside0 (spec_l3At.l0 kq l0 a1 x7_1 x8_1 x9_1 = some (r1, r2, r3)) ∧ Aside0 (kq ≤ k) ∧ Drawn0 w w')
 case atStart => exact ⟨((-1)), ((-1)), (0), (by first | rfl | (simp; done) | (simp [*]; done)), (by first | rfl | (simp; done) | (simp [*]; done)), (by first | rfl | (simp; done) | (simp [*]; done)), H', ⟨Nat.le_refl _⟩, by repeat (first | exact Drawn0.refl _ | apply Drawn0.step)⟩
 clear H'
 try clear p2
 obtain ⟨x7_1, x8_1, x9_1, rfl, rfl, rfl, HA, HK1, ⟨m1, rfl⟩⟩ := hrel
 obtain _ | k1 := gk
 · exact absurd HA.out (by simp [spec_l3At.l0])
 have H := HA.out
 clear HA
 simp only [spec_l3At.l0] at H
 by_cases c3 : x9_1 < (l0.length : Int)
 · rw [if_pos c3] at H
   have c3b0 : decide (x9_1 < (l0.length : Int)) = true := decide_eq_true c3
   clear c3
   by_cases c4 : 0 ≤ x9_1
   · rw [if_pos c4] at H
     have c4b0 : decide (0 ≤ x9_1) = true := decide_eq_true c4
     clear c4
     replace H := Option.bind_eq_some_iff.mp H
     obtain ⟨t528, A50, H⟩ := H
     replace H : (if t528 < 0 then (spec_l3At.l0 k1 l0 a1 x7_1 x8_1 (wrap64 (x9_1 + 1))) else (if 0 ≤ t528 then (if t528 < ((rd_L13 l0 x9_1).length : Int) then (if ((rd_T30 (rd_L13 l0 x9_1) t528).f1 = true) then (if x7_1 < 0 then (spec_l3At.l0 k1 l0 a1 x9_1 t528 (wrap64 (x9_1 + 1))) else (spec_l3At.l0 k1 l0 a1 x7_1 x8_1 (wrap64 (x9_1 + 1)))) else (some (x9_1, t528, true))) else (none)) else (none))) = some (r1, r2, r3) := H
     have A5 := aM A50; clear A50
     by_cases c6 : t528 < 0
     · rw [if_pos c6] at H
       have c6b0 : decide (t528 < 0) = true := decide_eq_true c6
       clear c6
       have H' := aM H
       clear H
       have p527 : 0 ≤ (x9_1 : Int) := oD (by first | with_reducible assumption | assumption)
       have q527 : x9_1 < (l0.length : Int) := oD (by first | with_reducible assumption | assumption)
       obtain ⟨ad527, A527_0, c527_0, e527, hx527_0, hl527_0, hi527_0⟩ := at_L13 HR0.out x9_1 p527 q527
       cases e527
       have HR527_0 := aM hi527_0; have HC527_0 := aM hl527_0; clear hi527_0 hl527_0; replace p527 := eq_true p527; replace q527 := eq_true q527
       go_wp2_with (first | ((with_reducible refine gate_callee (f := 66) rfl ?_); refine goesL_ (some 22) rfl rfl Try.func66 (by kernel_rfl) rfl #[.slice A527_0 (rd_L13 l0 x9_1).length c527_0, .string a1] rfl (by (try simp only [List.map_toArray, List.map_cons, List.map_nil]); first | done | rfl) ?_; (with_reducible refine (spec_l2Find.calls k1 _ _ (rd_L13 l0 x9_1) a1 t528 _ ?side1 ?side2 A5.out).mono ?_); (case side1 => repeat (first | exact HR527_0.out | (with_reducible first | refine Ca ?_ _ | refine Cn ?_ _ | refine Cd ?_))); (case side2 => exact HC527_0.out); rintro e w' ⟨rfl, ⟨nd, rfl⟩⟩; refine ⟨_, rfl, ?_⟩))
       go_roundg k1
       case measure => have := HK1.out; omega
       case rel => exact ⟨(x7_1), (x8_1), (wrap64 (x9_1 + 1)), (by first | rfl | (simp; done) | (simp [*]; done)), (by first | rfl | (simp; done) | (simp [*]; done)), (by first | rfl | (simp; done) | (simp [*]; done)), H', ⟨by have := HK1.out; omega⟩, by repeat (first | exact Drawn0.refl _ | apply Drawn0.step)⟩
     rw [if_neg c6] at H
     have c6b0 : decide (t528 < 0) = false := decide_eq_false c6
     clear c6
     by_cases c7 : 0 ≤ t528
     · rw [if_pos c7] at H
       have c7b0 : decide (0 ≤ t528) = true := decide_eq_true c7
       clear c7
       by_cases c8 : t528 < ((rd_L13 l0 x9_1).length : Int)
       · rw [if_pos c8] at H
         have c8b0 : decide (t528 < ((rd_L13 l0 x9_1).length : Int)) = true := decide_eq_true c8
         clear c8
         obtain ⟨bq9, hbq9⟩ : ∃ b_ : Bool, b_ = ((rd_T30 (rd_L13 l0 x9_1) t528).f1) := ⟨_, rfl⟩
         replace H : (if (bq9 = true) then (if x7_1 < 0 then (spec_l3At.l0 k1 l0 a1 x9_1 t528 (wrap64 (x9_1 + 1))) else (spec_l3At.l0 k1 l0 a1 x7_1 x8_1 (wrap64 (x9_1 + 1)))) else (some (x9_1, t528, true))) = some (r1, r2, r3) := by rw [← hbq9] at H; exact H
         have Nbq9 := aM hbq9; clear hbq9
         by_cases c10 : (bq9 = true)
         · subst c10
           have H1 : (if x7_1 < 0 then (spec_l3At.l0 k1 l0 a1 x9_1 t528 (wrap64 (x9_1 + 1))) else (spec_l3At.l0 k1 l0 a1 x7_1 x8_1 (wrap64 (x9_1 + 1)))) = some (r1, r2, r3) := by rw [if_pos rfl] at H; exact H
           clear H
           have H := H1
           clear H1
           by_cases c11 : x7_1 < 0
           · rw [if_pos c11] at H
             have c11b0 : decide (x7_1 < 0) = true := decide_eq_true c11
             clear c11
             have H' := aM H
             clear H
             have p527 : 0 ≤ (x9_1 : Int) := oD (by first | with_reducible assumption | assumption)
             have q527 : x9_1 < (l0.length : Int) := oD (by first | with_reducible assumption | assumption)
             obtain ⟨ad527, A527_0, c527_0, e527, hx527_0, hl527_0, hi527_0⟩ := at_L13 HR0.out x9_1 p527 q527
             cases e527
             have HR527_0 := aM hi527_0; have HC527_0 := aM hl527_0; clear hi527_0 hl527_0; replace p527 := eq_true p527; replace q527 := eq_true q527
             go_wp2_with (first | ((with_reducible refine gate_callee (f := 66) rfl ?_); refine goesL_ (some 22) rfl rfl Try.func66 (by kernel_rfl) rfl #[.slice A527_0 (rd_L13 l0 x9_1).length c527_0, .string a1] rfl (by (try simp only [List.map_toArray, List.map_cons, List.map_nil]); first | done | rfl) ?_; (with_reducible refine (spec_l2Find.calls k1 _ _ (rd_L13 l0 x9_1) a1 t528 _ ?side1 ?side2 A5.out).mono ?_); (case side1 => repeat (first | exact HR527_0.out | (with_reducible first | refine Ca ?_ _ | refine Cn ?_ _ | refine Cd ?_))); (case side2 => exact HC527_0.out); rintro e w' ⟨rfl, ⟨nd, rfl⟩⟩; refine ⟨_, rfl, ?_⟩; have p529 : 0 ≤ (x9_1 : Int) := oD (by first | with_reducible assumption | assumption); have q529 : x9_1 < (l0.length : Int) := oD (by first | with_reducible assumption | assumption); obtain ⟨ad529, A529_0, c529_0, e529, hx529_0, hl529_0, hi529_0⟩ := at_L13 HR0.out x9_1 p529 q529; obtain rfl : ad527 = ad529 := (by injection e529); have HR529_0 := aM hi529_0; have HC529_0 := aM hl529_0; clear hi529_0 hl529_0; replace p529 := eq_true p529; replace q529 := eq_true q529; have ea_ := Option.some.inj (hx527_0.symm.trans hx529_0); injection ea_ with ea_ en_ ec_; subst ea_; subst ec_; clear en_; have p530 : 0 ≤ (t528 : Int) := oD (by first | with_reducible assumption | assumption); have q530 : t528 < ((rd_L13 l0 x9_1).length : Int) := oD (by first | with_reducible assumption | assumption); obtain ⟨ad530, A530_2, c530_2, e530, hx530_0, hx530_1, hx530_2, hl530_2, hi530_2⟩ := at_T30 HR529_0.out t528 p530 q530; (try rw [← Nbq9.out] at hx530_1); cases e530; have HR530_2 := aM hi530_2; have HC530_2 := aM hl530_2; clear hi530_2 hl530_2; replace p530 := eq_true p530; replace q530 := eq_true q530))
             go_roundg k1
             case measure => have := HK1.out; omega
             case rel => exact ⟨(x9_1), (t528), (wrap64 (x9_1 + 1)), (by first | rfl | (simp; done) | (simp [*]; done)), (by first | rfl | (simp; done) | (simp [*]; done)), (by first | rfl | (simp; done) | (simp [*]; done)), H', ⟨by have := HK1.out; omega⟩, by repeat (first | exact Drawn0.refl _ | apply Drawn0.step)⟩
           rw [if_neg c11] at H
           have c11b0 : decide (x7_1 < 0) = false := decide_eq_false c11
           clear c11
           have H' := aM H
           clear H
           have p527 : 0 ≤ (x9_1 : Int) := oD (by first | with_reducible assumption | assumption)
           have q527 : x9_1 < (l0.length : Int) := oD (by first | with_reducible assumption | assumption)
           obtain ⟨ad527, A527_0, c527_0, e527, hx527_0, hl527_0, hi527_0⟩ := at_L13 HR0.out x9_1 p527 q527
           cases e527
           have HR527_0 := aM hi527_0; have HC527_0 := aM hl527_0; clear hi527_0 hl527_0; replace p527 := eq_true p527; replace q527 := eq_true q527
           go_wp2_with (first | ((with_reducible refine gate_callee (f := 66) rfl ?_); refine goesL_ (some 22) rfl rfl Try.func66 (by kernel_rfl) rfl #[.slice A527_0 (rd_L13 l0 x9_1).length c527_0, .string a1] rfl (by (try simp only [List.map_toArray, List.map_cons, List.map_nil]); first | done | rfl) ?_; (with_reducible refine (spec_l2Find.calls k1 _ _ (rd_L13 l0 x9_1) a1 t528 _ ?side1 ?side2 A5.out).mono ?_); (case side1 => repeat (first | exact HR527_0.out | (with_reducible first | refine Ca ?_ _ | refine Cn ?_ _ | refine Cd ?_))); (case side2 => exact HC527_0.out); rintro e w' ⟨rfl, ⟨nd, rfl⟩⟩; refine ⟨_, rfl, ?_⟩; have p529 : 0 ≤ (x9_1 : Int) := oD (by first | with_reducible assumption | assumption); have q529 : x9_1 < (l0.length : Int) := oD (by first | with_reducible assumption | assumption); obtain ⟨ad529, A529_0, c529_0, e529, hx529_0, hl529_0, hi529_0⟩ := at_L13 HR0.out x9_1 p529 q529; obtain rfl : ad527 = ad529 := (by injection e529); have HR529_0 := aM hi529_0; have HC529_0 := aM hl529_0; clear hi529_0 hl529_0; replace p529 := eq_true p529; replace q529 := eq_true q529; have ea_ := Option.some.inj (hx527_0.symm.trans hx529_0); injection ea_ with ea_ en_ ec_; subst ea_; subst ec_; clear en_; have p530 : 0 ≤ (t528 : Int) := oD (by first | with_reducible assumption | assumption); have q530 : t528 < ((rd_L13 l0 x9_1).length : Int) := oD (by first | with_reducible assumption | assumption); obtain ⟨ad530, A530_2, c530_2, e530, hx530_0, hx530_1, hx530_2, hl530_2, hi530_2⟩ := at_T30 HR529_0.out t528 p530 q530; (try rw [← Nbq9.out] at hx530_1); cases e530; have HR530_2 := aM hi530_2; have HC530_2 := aM hl530_2; clear hi530_2 hl530_2; replace p530 := eq_true p530; replace q530 := eq_true q530))
           go_roundg k1
           case measure => have := HK1.out; omega
           case rel => exact ⟨(x7_1), (x8_1), (wrap64 (x9_1 + 1)), (by first | rfl | (simp; done) | (simp [*]; done)), (by first | rfl | (simp; done) | (simp [*]; done)), (by first | rfl | (simp; done) | (simp [*]; done)), H', ⟨by have := HK1.out; omega⟩, by repeat (first | exact Drawn0.refl _ | apply Drawn0.step)⟩
         replace c10 := Bool.eq_false_iff.mpr c10
         subst c10
         have H1 : (some (x9_1, t528, true)) = some (r1, r2, r3) := by rw [if_neg (show ¬ (false = true) by decide)] at H; exact H
         clear H
         have H := H1
         clear H1
         simp only [Option.some.injEq, Prod.mk.injEq] at H
         obtain ⟨rfl, rfl, rfl⟩ := H
         have p527 : 0 ≤ (x9_1 : Int) := oD (by first | with_reducible assumption | assumption)
         have q527 : x9_1 < (l0.length : Int) := oD (by first | with_reducible assumption | assumption)
         obtain ⟨ad527, A527_0, c527_0, e527, hx527_0, hl527_0, hi527_0⟩ := at_L13 HR0.out x9_1 p527 q527
         cases e527
         have HR527_0 := aM hi527_0; have HC527_0 := aM hl527_0; clear hi527_0 hl527_0; replace p527 := eq_true p527; replace q527 := eq_true q527
         go_wp2_with (first | ((with_reducible refine gate_callee (f := 66) rfl ?_); refine goesL_ (some 22) rfl rfl Try.func66 (by kernel_rfl) rfl #[.slice A527_0 (rd_L13 l0 x9_1).length c527_0, .string a1] rfl (by (try simp only [List.map_toArray, List.map_cons, List.map_nil]); first | done | rfl) ?_; (with_reducible refine (spec_l2Find.calls k1 _ _ (rd_L13 l0 x9_1) a1 t528 _ ?side1 ?side2 A5.out).mono ?_); (case side1 => repeat (first | exact HR527_0.out | (with_reducible first | refine Ca ?_ _ | refine Cn ?_ _ | refine Cd ?_))); (case side2 => exact HC527_0.out); rintro e w' ⟨rfl, ⟨nd, rfl⟩⟩; refine ⟨_, rfl, ?_⟩; have p529 : 0 ≤ (x9_1 : Int) := oD (by first | with_reducible assumption | assumption); have q529 : x9_1 < (l0.length : Int) := oD (by first | with_reducible assumption | assumption); obtain ⟨ad529, A529_0, c529_0, e529, hx529_0, hl529_0, hi529_0⟩ := at_L13 HR0.out x9_1 p529 q529; obtain rfl : ad527 = ad529 := (by injection e529); have HR529_0 := aM hi529_0; have HC529_0 := aM hl529_0; clear hi529_0 hl529_0; replace p529 := eq_true p529; replace q529 := eq_true q529; have ea_ := Option.some.inj (hx527_0.symm.trans hx529_0); injection ea_ with ea_ en_ ec_; subst ea_; subst ec_; clear en_; have p530 : 0 ≤ (t528 : Int) := oD (by first | with_reducible assumption | assumption); have q530 : t528 < ((rd_L13 l0 x9_1).length : Int) := oD (by first | with_reducible assumption | assumption); obtain ⟨ad530, A530_2, c530_2, e530, hx530_0, hx530_1, hx530_2, hl530_2, hi530_2⟩ := at_T30 HR529_0.out t528 p530 q530; (try rw [← Nbq9.out] at hx530_1); cases e530; have HR530_2 := aM hi530_2; have HC530_2 := aM hl530_2; clear hi530_2 hl530_2; replace p530 := eq_true p530; replace q530 := eq_true q530))
         go_ret3
         exact ⟨by first | rfl | (simp; done) | (simp [*]; done), by repeat (first | exact Drawn0.refl _ | apply Drawn0.step)⟩
       rw [if_neg c8] at H
       exact absurd H (by simp)
     rw [if_neg c7] at H
     exact absurd H (by simp)
   rw [if_neg c4] at H
   exact absurd H (by simp)
 rw [if_neg c3] at H
 have c3b0 : decide (x9_1 < (l0.length : Int)) = false := decide_eq_false c3
 clear c3
 by_cases c12 : x7_1 < 0
 · rw [if_pos c12] at H
   have c12b0 : decide (x7_1 < 0) = true := decide_eq_true c12
   clear c12
   simp only [Option.some.injEq, Prod.mk.injEq] at H
   obtain ⟨rfl, rfl, rfl⟩ := H
   go_wp2
   go_ret3
   exact ⟨by first | rfl | (simp; done) | (simp [*]; done), by repeat (first | exact Drawn0.refl _ | apply Drawn0.step)⟩
 rw [if_neg c12] at H
 have c12b0 : decide (x7_1 < 0) = false := decide_eq_false c12
 clear c12
 simp only [Option.some.injEq, Prod.mk.injEq] at H
 obtain ⟨rfl, rfl, rfl⟩ := H
 go_wp2
 go_ret3
 exact ⟨by first | rfl | (simp; done) | (simp [*]; done), by repeat (first | exact Drawn0.refl _ | apply Drawn0.step)⟩
def spec_l2Put.l0 : Nat → List ByteArray → ByteArray → Int → Option (List ByteArray)
  | 0, _, _, _ => none
  | k + 1, x0, x1, x5 => if x5 < (x0.length : Int) then (if 0 ≤ x5 then (if (Op.bytesLess ((rdOf ByteArray.empty x0 x5).toList) x1.toList) = true then (spec_l2Put.l0 k x0 x1 (wrap64 (x5 + 1))) else (if (rdOf ByteArray.empty x0 x5).toList = x1.toList then (some x0) else ((some (([] : List ByteArray) : List ByteArray)).bind fun y797 => (if x5 ≤ (x0.length : Int) then ((some (x0.drop (x5 : Int).toNat : List ByteArray)).bind fun y800 => (if y797.length + y800.length < 8796093022208 then ((some (y797 ++ y800 : List ByteArray)).bind fun y804 => ((some (x0.take (x5 : Int).toNat : List ByteArray)).bind fun y807 => (if y807.length < 8796093022208 then ((some (y807 ++ [x1] : List ByteArray)).bind fun y810 => (if y810.length + y804.length < 8796093022208 then (some (y810 ++ y804)) else (none))) else (none)))) else (none))) else (none))))) else (none)) else ((some (([] : List ByteArray) : List ByteArray)).bind fun y816 => (if 0 ≤ x5 then (if x5 ≤ (x0.length : Int) then ((some (x0.drop (x5 : Int).toNat : List ByteArray)).bind fun y819 => (if y816.length + y819.length < 8796093022208 then ((some (y816 ++ y819 : List ByteArray)).bind fun y823 => ((some (x0.take (x5 : Int).toNat : List ByteArray)).bind fun y826 => (if y826.length < 8796093022208 then ((some (y826 ++ [x1] : List ByteArray)).bind fun y829 => (if y829.length + y823.length < 8796093022208 then (some (y829 ++ y823)) else (none))) else (none)))) else (none))) else (none)) else (none)))
def spec_l2Put.f (k : Nat) (l0 : List ByteArray) (a1 : ByteArray) : Option (List ByteArray) := spec_l2Put.l0 k l0 a1 0
theorem own_len_ {A : Option Addr} {n m c d : Nat} : (Value.slice A n c).ownBlock = (Value.slice A m d).ownBlock := by cases A <;> rfl
set_option maxHeartbeats 8000000 in
set_option maxRecDepth 100000 in
theorem spec_l2Put.calls (k : Nat) (P0_ : Nat → Prop) (u9000_ : Value) (l0 : List ByteArray) (a1 : ByteArray) (r : List ByteArray) (w0 w : World) (hB : Below w0.heap.size w0 w) (ho0 : Kd.R Kd.string 9 w w0.heap.size P0_ u9000_ l0) (h : spec_l2Put.f k l0 a1 = some r) :
    Calls Try.prog 127 #[u9000_, .string a1] w fun e w' => ∃ v0_ : Value, e = .returned (v0_) ∧ Kd.R Kd.string 9 w' w0.heap.size (fun k_ => (P0_ k_ ∨ w.heap.size ≤ k_)) v0_ r ∧ Below w0.heap.size w0 w' ∧ Kept w w' (fun k_ => P0_ k_) := by
 have HO0 := aM (show Kd.R Kd.string 9 w w0.heap.size (fun k_ => (P0_ k_ ∨ w.heap.size ≤ k_)) u9000_ l0 from Kd.R_mono ho0 (fun k_ hk => (.inl hk)))
 have HK := aM (Kept.refl w (fun k_ => P0_ k_))
 have HW0 := aM hB.size
 have HB := aM hB; clear hB
 have H : (spec_l2Put.l0 k l0 a1 0) = some r := h
 clear h
 have H' := aM H
 clear H
 go_enter Try.func127, Try.ntmps127
 go_wp2
 go_loopg [5] k (fun kq v5 w' => ∃ (x5_1 : Int), v5 = .int .i64 x5_1 ∧ Aside0 (spec_l2Put.l0 kq l0 a1 x5_1 = some r) ∧ Aside0 (kq ≤ k) ∧ Aside0 (Kd.R Kd.string 9 w' w0.heap.size (fun k_ => (P0_ k_ ∨ w.heap.size ≤ k_)) u9000_ l0) ∧ Aside0 (Kept w w' (fun k_ => P0_ k_)) ∧ Aside0 (Below w0.heap.size w0 w'))
 case atStart => exact ⟨(0), (by first | rfl | (simp; done) | (simp [*]; done)), H', ⟨Nat.le_refl _⟩, ⟨by (with_reducible repeat (first | apply Ra | apply Rn | apply Rd)); exact HO0.out⟩, ⟨by repeat (with_reducible first | exact HK.out | apply Kept.alloc | apply Kept.drewN | apply Kept.drew)⟩, ⟨by repeat (with_reducible first | exact HB.out | apply bA | apply bN | apply bD)⟩⟩
 clear H'
 try clear c1; try clear p2
 obtain ⟨x5_1, rfl, HA, HK1, HO_0, HK, HB⟩ := hrel
 obtain _ | k1 := gk
 · exact absurd HA.out (by simp [spec_l2Put.l0])
 have H := HA.out
 clear HA
 simp only [spec_l2Put.l0] at H
 by_cases c3 : x5_1 < (l0.length : Int)
 · rw [if_pos c3] at H
   have c3b0 : decide (x5_1 < (l0.length : Int)) = true := decide_eq_true c3
   clear c3
   by_cases c4 : 0 ≤ x5_1
   · rw [if_pos c4] at H
     have c4b0 : decide (0 ≤ x5_1) = true := decide_eq_true c4
     clear c4
     by_cases c5 : (Op.bytesLess ((rdOf ByteArray.empty l0 x5_1).toList) a1.toList) = true
     · rw [if_pos c5] at H
       have c5b0 : (Op.bytesLess ((rdOf ByteArray.empty l0 x5_1).toList) a1.toList) = true := c5
       clear c5
       have H' := aM H
       clear H
       obtain ⟨Ao6, co6, eo6⟩ := Kd.R_slice HO_0.out
       subst eo6
       have p795 : 0 ≤ (x5_1 : Int) := oD (by first | with_reducible assumption | assumption)
       have q795 : x5_1 < (l0.length : Int) := oD (by first | with_reducible assumption | assumption)
       obtain ⟨ad795, e795, hx795_0⟩ := Kd.at_string (Kd.R_reads' HO_0.out).2.2 x5_1 p795 q795
       cases e795
       replace p795 := eq_true p795; replace q795 := eq_true q795
       go_wp2
       go_roundg k1
       case measure => have := HK1.out; omega
       case rel => exact ⟨(wrap64 (x5_1 + 1)), (by first | rfl | (simp; done) | (simp [*]; done)), H', ⟨by have := HK1.out; omega⟩, ⟨by (with_reducible repeat (first | apply Ra | apply Rn | apply Rd)); exact HO_0.out⟩, ⟨by repeat (with_reducible first | exact HK.out | apply Kept.alloc | apply Kept.drewN | apply Kept.drew)⟩, ⟨by repeat (with_reducible first | exact HB.out | apply bA | apply bN | apply bD)⟩⟩
     rw [if_neg c5] at H
     have c5b0 : (Op.bytesLess ((rdOf ByteArray.empty l0 x5_1).toList) a1.toList) = false := by simpa using c5
     clear c5
     by_cases c7 : (rdOf ByteArray.empty l0 x5_1).toList = a1.toList
     · rw [if_pos c7] at H
       have c7b0 : ((rdOf ByteArray.empty l0 x5_1).toList == a1.toList) = true := beq_iff_eq.mpr c7
       have c7b1 : ((rdOf ByteArray.empty l0 x5_1).toList != a1.toList) = false := bne_eq_false_iff_eq.mpr c7
       clear c7
       obtain rfl := Option.some.inj H
       obtain ⟨Ao8, co8, eo8⟩ := Kd.R_slice HO_0.out
       subst eo8
       have p795 : 0 ≤ (x5_1 : Int) := oD (by first | with_reducible assumption | assumption)
       have q795 : x5_1 < (l0.length : Int) := oD (by first | with_reducible assumption | assumption)
       obtain ⟨ad795, e795, hx795_0⟩ := Kd.at_string (Kd.R_reads' HO_0.out).2.2 x5_1 p795 q795
       cases e795
       replace p795 := eq_true p795; replace q795 := eq_true q795
       have p796 : 0 ≤ (x5_1 : Int) := oD (by first | with_reducible assumption | assumption)
       have q796 : x5_1 < (l0.length : Int) := oD (by first | with_reducible assumption | assumption)
       obtain ⟨ad796, e796, hx796_0⟩ := Kd.at_string (Kd.R_reads' HO_0.out).2.2 x5_1 p796 q796
       obtain rfl : ad795 = ad796 := (by injection e796)
       replace p796 := eq_true p796; replace q796 := eq_true q796
       go_wp2
       go_ret
       exact ⟨_, by first | rfl | (simp [*, errW_none, errW_some] <;> rfl), by (with_reducible repeat (first | apply Ra | apply Rn | apply Rd)); exact HO_0.out, by repeat (with_reducible first | exact HB.out | apply bA | apply bN | apply bD), by repeat (with_reducible first | exact HK.out | apply Kept.alloc | apply Kept.drewN | apply Kept.drew)⟩
     rw [if_neg c7] at H
     have c7b0 : ((rdOf ByteArray.empty l0 x5_1).toList == a1.toList) = false := beq_eq_false_iff_ne.mpr c7
     have c7b1 : ((rdOf ByteArray.empty l0 x5_1).toList != a1.toList) = true := bne_iff_ne.mpr c7
     obtain ⟨y797, hy797⟩ : ∃ y_ : List ByteArray, y_ = (([] : List ByteArray)) := ⟨_, rfl⟩
     replace H : (if x5_1 ≤ (l0.length : Int) then ((some (l0.drop (x5_1 : Int).toNat : List ByteArray)).bind fun y800 => (if y797.length + y800.length < 8796093022208 then ((some (y797 ++ y800 : List ByteArray)).bind fun y804 => ((some (l0.take (x5_1 : Int).toNat : List ByteArray)).bind fun y807 => (if y807.length < 8796093022208 then ((some (y807 ++ [a1] : List ByteArray)).bind fun y810 => (if y810.length + y804.length < 8796093022208 then (some (y810 ++ y804)) else (none))) else (none)))) else (none))) else (none)) = some r := by first | (rw [hy797]; with_reducible exact H) | (have H2_ := (Option.bind_some _ _).symm.trans H; rw [hy797]; with_reducible exact H2_) | (have H2_ := (Option.bind_some _ _).symm.trans H; with_reducible exact H2_) | with_reducible exact H | (rw [hy797]; exact H) | exact H
     have Ny797 := aM hy797; clear hy797
     have c9b0 := eq_true (oD (by first | with_reducible assumption | assumption) : 0 ≤ x5_1)
     by_cases c10 : x5_1 ≤ (l0.length : Int)
     · rw [if_pos c10] at H
       have c10b0 := eq_true c10
       have c10b1 : decide (x5_1 ≤ (l0.length : Int)) = true := decide_eq_true c10
       clear c10
       obtain ⟨y800, hy800⟩ : ∃ y_ : List ByteArray, y_ = (l0.drop (x5_1 : Int).toNat) := ⟨_, rfl⟩
       replace H : (if y797.length + y800.length < 8796093022208 then ((some (y797 ++ y800 : List ByteArray)).bind fun y804 => ((some (l0.take (x5_1 : Int).toNat : List ByteArray)).bind fun y807 => (if y807.length < 8796093022208 then ((some (y807 ++ [a1] : List ByteArray)).bind fun y810 => (if y810.length + y804.length < 8796093022208 then (some (y810 ++ y804)) else (none))) else (none)))) else (none)) = some r := by first | (rw [hy800]; with_reducible exact H) | (have H2_ := (Option.bind_some _ _).symm.trans H; rw [hy800]; with_reducible exact H2_) | (have H2_ := (Option.bind_some _ _).symm.trans H; with_reducible exact H2_) | with_reducible exact H | (rw [hy800]; exact H) | exact H
       have Ny800 := aM hy800; clear hy800
       by_cases c11 : y797.length + y800.length < 8796093022208
       · rw [if_pos c11] at H; have LMc11 := aM c11; clear c11
         obtain ⟨y804, hy804⟩ : ∃ y_ : List ByteArray, y_ = (y797 ++ y800) := ⟨_, rfl⟩
         replace H : ((some (l0.take (x5_1 : Int).toNat : List ByteArray)).bind fun y807 => (if y807.length < 8796093022208 then ((some (y807 ++ [a1] : List ByteArray)).bind fun y810 => (if y810.length + y804.length < 8796093022208 then (some (y810 ++ y804)) else (none))) else (none))) = some r := by first | (rw [hy804]; with_reducible exact H) | (have H2_ := (Option.bind_some _ _).symm.trans H; rw [hy804]; with_reducible exact H2_) | (have H2_ := (Option.bind_some _ _).symm.trans H; with_reducible exact H2_) | with_reducible exact H | (rw [hy804]; exact H) | exact H
         have Ny804 := aM hy804; clear hy804
         have c12b0 := eq_true (oD (by first | with_reducible assumption | assumption) : x5_1 ≤ (l0.length : Int))
         obtain ⟨y807, hy807⟩ : ∃ y_ : List ByteArray, y_ = (l0.take (x5_1 : Int).toNat) := ⟨_, rfl⟩
         replace H : (if y807.length < 8796093022208 then ((some (y807 ++ [a1] : List ByteArray)).bind fun y810 => (if y810.length + y804.length < 8796093022208 then (some (y810 ++ y804)) else (none))) else (none)) = some r := by first | (rw [hy807]; with_reducible exact H) | (have H2_ := (Option.bind_some _ _).symm.trans H; rw [hy807]; with_reducible exact H2_) | (have H2_ := (Option.bind_some _ _).symm.trans H; with_reducible exact H2_) | with_reducible exact H | (rw [hy807]; exact H) | exact H
         have Ny807 := aM hy807; clear hy807
         by_cases c13 : y807.length < 8796093022208
         · rw [if_pos c13] at H; have LMc13 := aM c13; clear c13
           obtain ⟨y810, hy810⟩ : ∃ y_ : List ByteArray, y_ = (y807 ++ [a1]) := ⟨_, rfl⟩
           replace H : (if y810.length + y804.length < 8796093022208 then (some (y810 ++ y804)) else (none)) = some r := by first | (rw [hy810]; with_reducible exact H) | (have H2_ := (Option.bind_some _ _).symm.trans H; rw [hy810]; with_reducible exact H2_) | (have H2_ := (Option.bind_some _ _).symm.trans H; with_reducible exact H2_) | with_reducible exact H | (rw [hy810]; exact H) | exact H
           have Ny810 := aM hy810; clear hy810
           by_cases c14 : y810.length + y804.length < 8796093022208
           · rw [if_pos c14] at H; have LMc14 := aM c14; clear c14
             obtain ⟨y813, hy813⟩ : ∃ y_ : List ByteArray, y_ = (y810 ++ y804) := ⟨_, rfl⟩
             replace H : (some y813) = some r := by first | (rw [hy813]; with_reducible exact H) | (have H2_ := (Option.bind_some _ _).symm.trans H; rw [hy813]; with_reducible exact H2_) | (have H2_ := (Option.bind_some _ _).symm.trans H; with_reducible exact H2_) | with_reducible exact H | (rw [hy813]; exact H) | exact H
             have Ny813 := aM hy813; clear hy813
             obtain rfl := Option.some.inj H
             obtain ⟨Ao15, co15, eo15⟩ := Kd.R_slice HO_0.out
             subst eo15
             have p795 : 0 ≤ (x5_1 : Int) := oD (by first | with_reducible assumption | assumption)
             have q795 : x5_1 < (l0.length : Int) := oD (by first | with_reducible assumption | assumption)
             obtain ⟨ad795, e795, hx795_0⟩ := Kd.at_string (Kd.R_reads' HO_0.out).2.2 x5_1 p795 q795
             cases e795
             replace p795 := eq_true p795; replace q795 := eq_true q795
             have p796 : 0 ≤ (x5_1 : Int) := oD (by first | with_reducible assumption | assumption)
             have q796 : x5_1 < (l0.length : Int) := oD (by first | with_reducible assumption | assumption)
             obtain ⟨ad796, e796, hx796_0⟩ := Kd.at_string (Kd.R_reads' HO_0.out).2.2 x5_1 p796 q796
             obtain rfl : ad795 = ad796 := (by injection e796)
             replace p796 := eq_true p796; replace q796 := eq_true q796
             go_wp2_with (first | ((with_reducible refine gate_dst (N := 34) rfl ?_); refine Kd.R_lit Kd.string _ 9 ?hg (N := 34) ?hd (xs := ([] : List ByteArray)) (inner := []) (ok := fun _ => True) (okp := fun _ => True) ?hr ?hp (fun _ hk => hk) trivial (Below.refl _ _) (Nat.le_refl _) (by simp) ?_; (case hd => rfl); (case hg => rfl); (case hr => first | (go_simp; done) | (go_simp; rfl)); (case hp => exact (Reps.none _ _)); intro v798 w16 ho17 hb hg_ hnew_; clear hg_ hnew_; (first | rw [← Ny797.out] at ho17 | (simp only [Int.reduceToNat] at ho17; rw [← Ny797.out] at ho17)); have n0_ := aM (Kd.R_elder' (by (with_reducible repeat (first | apply Ra | apply Rn | apply Rd)); exact HO_0.out) (Kd.R_base ho17) hb); have n1_ := aM (Kd.R_lower (Kd.R_new' (Kd.R_newM (M := fun k_ => (P0_ k_ ∨ w.heap.size ≤ k_)) ho17 (by first | exact HK.out.1 | exact (show Kept w _ (fun k_ => P0_ k_) from by repeat (with_reducible first | exact HK.out | apply Kept.alloc | apply Kept.drewN | apply Kept.drew)).1) (fun k_ h_ => .inr h_)) (Kd.R_lt (by (with_reducible repeat (first | apply Ra | apply Rn | apply Rd)); exact HO_0.out))) (below_size (by repeat (with_reducible first | exact HB.out | apply bA | apply bN | apply bD)))); have n2_ := aM (Kept.below (S := (fun k_ => P0_ k_)) (by repeat (with_reducible first | exact HK.out | apply Kept.alloc | apply Kept.drewN | apply Kept.drew)) hb); have n3_ := aM (below_step (by repeat (with_reducible first | exact HB.out | apply bA | apply bN | apply bD)) hb); clear HO_0 HK HB; have HO_0 := n0_; have HO799 := n1_; have HK := n2_; have HB := n3_; clear n0_ n1_ n2_ n3_ hb ho17; have q18 : (x5_1 : Int) ≤ ((l0.length : Int) : Int) := oD (by first | with_reducible assumption | assumption); obtain ⟨i018, hi018, _, hsz18, _⟩ := info_parts info9; have hroom18 : l0.length ≤ co15 := (Kd.R_reads' HO_0.out).2.1; have hC18 : Kd.C Kd.string _ (some ad795) l0.length l0 := (Kd.R_reads' HO_0.out).2.2; have q018 : (0 : Int) ≤ (x5_1 : Int) := oD (by first | with_reducible assumption | assumption); have hcut18 := cut_from (P := Try.prog) 33 9 .i64 Try.underlying33 hi018 1 hsz18 (some ad795) l0.length co15 x5_1 q018 q18; have hr18 := Kd.C_drop (m := (x5_1 : Int).toNat) (c := co15) hC18 (by omega) hroom18; obtain ⟨A18, hA18⟩ : ∃ A1, A1 = (if co15 = (x5_1 : Int).toNat then (some ad795) else ((some ad795) : Option Addr).map (·.add ((x5_1 : Int).toNat * 1))) := ⟨_, rfl⟩; obtain ⟨c18, hc18⟩ : ∃ c1, c1 = co15 - (x5_1 : Int).toNat := ⟨_, rfl⟩; have hy18 : y800.length = l0.length - (x5_1 : Int).toNat := (by rw [Ny800.out, List.length_drop] <;> omega); rw [show (l0).drop (x5_1 : Int).toNat = y800 from Ny800.out.symm] at hr18; replace hr18 : Kd.C Kd.string _ A18 y800.length y800 := (by rw [hA18]; exact hr18); rw [← hy18, ← hA18, ← hc18] at hcut18; have HR803 := aM hr18; have HC803 := aM (show y800.length ≤ c18 from by rw [hy18, hc18]; exact Nat.sub_le_sub_right hroom18 _); clear hr18 hC18 hroom18 hi018 hsz18 hc18; have KY18 := aM hy18; have KA18 := aM hA18; clear hy18 hA18; have KL18 := aM (show (x5_1 : Int).toNat ≤ l0.length from by omega); replace q18 := eq_true q18) | ((with_reducible refine gate_builtin (b := .append) (xs := #[.tmp 34, .tmp 37]) rfl ?_); at_builtin; refine Kd.R_append_rows Kd.string (w0 := w0) w0.heap.size rfl (.tmp 34) (.tmp 37) 33 9 (.string ⟨#[]⟩) 16 rfl Try.underlying33 info9 rfl (by decide) (by omega) v798 y797 y800 _ _ _ (fun k_ => (P0_ k_ ∨ w.heap.size ≤ k_) ∧ some k_ ≠ (.slice (some ad795) l0.length co15 : Value).ownBlock) (fun _ => False) rfl rfl ?aO ?aR (fun _ _ h => h) (fun _ h => h.elim) ?aF ?aB ?aS ?aL ?_; (case aR => repeat (first | exact (by repeat (first | (with_reducible exact HR803.out) | (with_reducible first | refine Ca ?_ _ | refine Cn ?_ _ | refine Cd ?_) | exact HR803.out)) | (with_reducible first | refine Ca ?_ _ | refine Cn ?_ _ | refine Cd ?_))); (case aB => exact (by repeat (with_reducible first | exact HB.out | apply bA | apply bN | apply bD))); (case aF => exact (fun k_ hk => ⟨(.inr (Nat.le_trans (by first | exact HK.out.1 | exact (show Kept w _ (fun k_ => P0_ k_) from by repeat (with_reducible first | exact HK.out | apply Kept.alloc | apply Kept.drewN | apply Kept.drew)).1) hk)), Kd.fresh' (Kd.R_lt (by (with_reducible repeat (first | apply Ra | apply Rn | apply Rd)); exact HO_0.out)) k_ hk⟩)); (case aO => exact (by (with_reducible repeat (first | apply Ra | apply Rn | apply Rd)); exact Kd.R_mono HO799.out (fun _ hk => ⟨hk.1.1, hk.2⟩))); (case aS => exact (below_size (by repeat (with_reducible first | exact HB.out | apply bA | apply bN | apply bD)))); (case aL => have := LMc11.out; omega); intro v805 w19 ho hb hg hat; rw [← Ny804.out] at ho; have n0_ := aM (Kd.R_after (ok := (fun k_ => (P0_ k_ ∨ w.heap.size ≤ k_))) (by (with_reducible repeat (first | apply Ra | apply Rn | apply Rd)); exact HO_0.out) hg hat); have n1_ := aM (hb); have n2_ := aM (Kept.of_grown (S := (fun k_ => P0_ k_)) hg (by repeat (with_reducible first | exact HK.out | apply Kept.alloc | apply Kept.drewN | apply Kept.drew)) (fun k_ e_ => (HO799.out.1 k_ e_).1.1)); have n3_ := aM ((show Kd.C Kd.string w19 A18 y800.length y800 from by rw [Ny800.out, KA18.out]; exact Kd.C_drop (m := (x5_1 : Int).toNat) (c := co15) ((Kd.R_reads' (Kd.R_after (ok := (fun k_ => (P0_ k_ ∨ w.heap.size ≤ k_))) (by (with_reducible repeat (first | apply Ra | apply Rn | apply Rd)); exact HO_0.out) hg hat)).2.2) KL18.out ((Kd.R_reads' (Kd.R_after (ok := (fun k_ => (P0_ k_ ∨ w.heap.size ≤ k_))) (by (with_reducible repeat (first | apply Ra | apply Rn | apply Rd)); exact HO_0.out) hg hat)).2.1))); have n4_ := aM (ho); clear HO_0 HB HK HR803 HO799; have HO_0 := n0_; have HB := n1_; have HK := n2_; have HR803 := n3_; have HO806 := n4_; clear n0_ n1_ n2_ n3_ n4_ ho hb hg hat; have q20 : (x5_1 : Int) ≤ ((l0.length : Int) : Int) := oD (by first | with_reducible assumption | assumption); obtain ⟨i020, hi020, _, hsz20, _⟩ := info_parts info9; have hcut20 := cut_to (P := Try.prog) 33 9 .i64 Try.underlying33 hi020 (some ad795) l0.length co15 x5_1 (oD (by first | with_reducible assumption | assumption)) q20 (Kd.R_reads' HO_0.out).2.1; have hr20 := Kd.R_take (m := (x5_1 : Int).toNat) HO_0.out (by omega); have hy20 : y807.length = (x5_1 : Int).toNat := (by rw [Ny807.out, List.length_take]; omega); rw [← Ny807.out] at hr20; rw [← hy20] at hr20 hcut20; clear hy20 hi020 hsz20 HO_0; have HO809 := aM hr20; clear hr20; replace q20 := eq_true q20) | ((with_reducible refine gate_builtin (b := .append) (xs := #[.tmp 41, .tmp 43]) rfl ?_); at_builtin; refine Kd.R_append Kd.string (w0 := w0) w0.heap.size rfl (.tmp 41) (.tmp 43) 33 9 (.string ⟨#[]⟩) 16 rfl Try.underlying33 info9 rfl (by decide) (by omega) (.slice (some ad795) y807.length co15) y807 a1 [.string a1] (fun k_ => (P0_ k_ ∨ w.heap.size ≤ k_) ∧ some k_ ≠ (v805 : Value).ownBlock) (fun _ => False) rfl rfl ?aP (fun _ hk => hk.elim) ?aF ?aO ?aB ?aS ?aL ?_; (case aP => exact rfl); (case aB => exact (by repeat (with_reducible first | exact HB.out | apply bA | apply bN | apply bD))); (case aF => exact (fun k_ hk => ⟨(.inr (Nat.le_trans (by first | exact HK.out.1 | exact (show Kept w _ (fun k_ => P0_ k_) from by repeat (with_reducible first | exact HK.out | apply Kept.alloc | apply Kept.drewN | apply Kept.drew)).1) hk)), Kd.fresh' (Kd.R_lt (by (with_reducible repeat (first | apply Ra | apply Rn | apply Rd)); first | exact HO806.out | exact Kd.R_mono HO806.out (fun k_ hk_ => ⟨hk_.1, fun e_ => hk_.2 (e_.trans own_len_)⟩))) k_ hk⟩)); (case aO => exact (by (with_reducible repeat (first | apply Ra | apply Rn | apply Rd)); first | exact HO809.out | exact Kd.R_mono HO809.out (fun k_ hk_ => ⟨hk_.1, fun e_ => hk_.2 (e_.trans own_len_)⟩))); (case aS => exact (below_size (by repeat (with_reducible first | exact HB.out | apply bA | apply bN | apply bD)))); (case aL => have := LMc13.out; omega); intro v811 w21 ho hb hg hat; rw [← Ny810.out] at ho; have n0_ := aM (Kd.R_after (ok := (fun k_ => (P0_ k_ ∨ w.heap.size ≤ k_))) (by (with_reducible repeat (first | apply Ra | apply Rn | apply Rd)); first | exact HO806.out | exact Kd.R_mono HO806.out (fun k_ hk_ => ⟨hk_.1, fun e_ => hk_.2 (e_.trans own_len_)⟩)) hg hat); have n1_ := aM (hb); have n2_ := aM (Kept.of_grown (S := (fun k_ => P0_ k_)) hg (by repeat (with_reducible first | exact HK.out | apply Kept.alloc | apply Kept.drewN | apply Kept.drew)) (fun k_ e_ => (HO809.out.1 k_ e_).1)); have n3_ := aM (ho); clear HO806 HB HK HO809; have HO806 := n0_; have HB := n1_; have HK := n2_; have HO812 := n3_; clear n0_ n1_ n2_ n3_ ho hb hg hat; obtain ⟨Ao23, co23, eo23⟩ := Kd.R_slice HO806.out; subst eo23) | ((with_reducible refine gate_builtin (b := .append) (xs := #[.tmp 44, .tmp 45]) rfl ?_); at_builtin; refine Kd.R_append_rows Kd.string (w0 := w0) w0.heap.size rfl (.tmp 44) (.tmp 45) 33 9 (.string ⟨#[]⟩) 16 rfl Try.underlying33 info9 rfl (by decide) (by omega) v811 y810 y804 _ _ _ (fun k_ => (P0_ k_ ∨ w.heap.size ≤ k_) ∧ some k_ ≠ (.slice Ao23 y804.length co23 : Value).ownBlock) (fun _ => False) rfl rfl ?aO ?aR (fun _ _ h => h) (fun _ h => h.elim) ?aF ?aB ?aS ?aL ?_; (case aR => repeat (first | exact (Kd.R_reads' HO806.out).2.2 | (with_reducible first | refine Ca ?_ _ | refine Cn ?_ _ | refine Cd ?_))); (case aB => exact (by repeat (with_reducible first | exact HB.out | apply bA | apply bN | apply bD))); (case aF => exact (fun k_ hk => ⟨(.inr (Nat.le_trans (by first | exact HK.out.1 | exact (show Kept w _ (fun k_ => P0_ k_) from by repeat (with_reducible first | exact HK.out | apply Kept.alloc | apply Kept.drewN | apply Kept.drew)).1) hk)), Kd.fresh' (Kd.R_lt (by (with_reducible repeat (first | apply Ra | apply Rn | apply Rd)); first | exact HO806.out | exact Kd.R_mono HO806.out (fun k_ hk_ => ⟨hk_.1, fun e_ => hk_.2 (e_.trans own_len_)⟩))) k_ hk⟩)); (case aO => exact (by (with_reducible repeat (first | apply Ra | apply Rn | apply Rd)); first | exact HO812.out | exact Kd.R_mono HO812.out (fun k_ hk_ => ⟨hk_.1, fun e_ => hk_.2 (e_.trans own_len_)⟩))); (case aS => exact (below_size (by repeat (with_reducible first | exact HB.out | apply bA | apply bN | apply bD)))); (case aL => have := LMc14.out; omega); intro v814 w22 ho hb hg hat; rw [← Ny813.out] at ho; have n0_ := aM (Kd.R_after (ok := (fun k_ => (P0_ k_ ∨ w.heap.size ≤ k_))) (by (with_reducible repeat (first | apply Ra | apply Rn | apply Rd)); first | exact HO806.out | exact Kd.R_mono HO806.out (fun k_ hk_ => ⟨hk_.1, fun e_ => hk_.2 (e_.trans own_len_)⟩)) hg hat); have n1_ := aM (hb); have n2_ := aM (Kept.of_grown (S := (fun k_ => P0_ k_)) hg (by repeat (with_reducible first | exact HK.out | apply Kept.alloc | apply Kept.drewN | apply Kept.drew)) (fun k_ e_ => (HO812.out.1 k_ e_).1)); have n3_ := aM (ho); clear HO806 HB HK HO812; have HO806 := n0_; have HB := n1_; have HK := n2_; have HO815 := n3_; clear n0_ n1_ n2_ n3_ ho hb hg hat))
             go_ret
             exact ⟨_, by first | rfl | (simp [*, errW_none, errW_some] <;> rfl), by (with_reducible repeat (first | apply Ra | apply Rn | apply Rd)); exact Kd.R_mono HO815.out (fun _ hk => hk.1), by repeat (with_reducible first | exact HB.out | apply bA | apply bN | apply bD), by repeat (with_reducible first | exact HK.out | apply Kept.alloc | apply Kept.drewN | apply Kept.drew)⟩
           rw [if_neg c14] at H
           exact absurd H (by simp)
         rw [if_neg c13] at H
         exact absurd H (by simp)
       rw [if_neg c11] at H
       exact absurd H (by simp)
     rw [if_neg c10] at H
     exact absurd H (by simp)
   rw [if_neg c4] at H
   exact absurd H (by simp)
 rw [if_neg c3] at H
 have c3b0 : decide (x5_1 < (l0.length : Int)) = false := decide_eq_false c3
 clear c3
 obtain ⟨y816, hy816⟩ : ∃ y_ : List ByteArray, y_ = (([] : List ByteArray)) := ⟨_, rfl⟩
 replace H : (if 0 ≤ x5_1 then (if x5_1 ≤ (l0.length : Int) then ((some (l0.drop (x5_1 : Int).toNat : List ByteArray)).bind fun y819 => (if y816.length + y819.length < 8796093022208 then ((some (y816 ++ y819 : List ByteArray)).bind fun y823 => ((some (l0.take (x5_1 : Int).toNat : List ByteArray)).bind fun y826 => (if y826.length < 8796093022208 then ((some (y826 ++ [a1] : List ByteArray)).bind fun y829 => (if y829.length + y823.length < 8796093022208 then (some (y829 ++ y823)) else (none))) else (none)))) else (none))) else (none)) else (none)) = some r := by first | (rw [hy816]; with_reducible exact H) | (have H2_ := (Option.bind_some _ _).symm.trans H; rw [hy816]; with_reducible exact H2_) | (have H2_ := (Option.bind_some _ _).symm.trans H; with_reducible exact H2_) | with_reducible exact H | (rw [hy816]; exact H) | exact H
 have Ny816 := aM hy816; clear hy816
 by_cases c24 : 0 ≤ x5_1
 · rw [if_pos c24] at H
   have c24b0 := eq_true c24
   have c24b1 : decide (0 ≤ x5_1) = true := decide_eq_true c24
   clear c24
   by_cases c25 : x5_1 ≤ (l0.length : Int)
   · rw [if_pos c25] at H
     have c25b0 := eq_true c25
     have c25b1 : decide (x5_1 ≤ (l0.length : Int)) = true := decide_eq_true c25
     clear c25
     obtain ⟨y819, hy819⟩ : ∃ y_ : List ByteArray, y_ = (l0.drop (x5_1 : Int).toNat) := ⟨_, rfl⟩
     replace H : (if y816.length + y819.length < 8796093022208 then ((some (y816 ++ y819 : List ByteArray)).bind fun y823 => ((some (l0.take (x5_1 : Int).toNat : List ByteArray)).bind fun y826 => (if y826.length < 8796093022208 then ((some (y826 ++ [a1] : List ByteArray)).bind fun y829 => (if y829.length + y823.length < 8796093022208 then (some (y829 ++ y823)) else (none))) else (none)))) else (none)) = some r := by first | (rw [hy819]; with_reducible exact H) | (have H2_ := (Option.bind_some _ _).symm.trans H; rw [hy819]; with_reducible exact H2_) | (have H2_ := (Option.bind_some _ _).symm.trans H; with_reducible exact H2_) | with_reducible exact H | (rw [hy819]; exact H) | exact H
     have Ny819 := aM hy819; clear hy819
     by_cases c26 : y816.length + y819.length < 8796093022208
     · rw [if_pos c26] at H; have LMc26 := aM c26; clear c26
       obtain ⟨y823, hy823⟩ : ∃ y_ : List ByteArray, y_ = (y816 ++ y819) := ⟨_, rfl⟩
       replace H : ((some (l0.take (x5_1 : Int).toNat : List ByteArray)).bind fun y826 => (if y826.length < 8796093022208 then ((some (y826 ++ [a1] : List ByteArray)).bind fun y829 => (if y829.length + y823.length < 8796093022208 then (some (y829 ++ y823)) else (none))) else (none))) = some r := by first | (rw [hy823]; with_reducible exact H) | (have H2_ := (Option.bind_some _ _).symm.trans H; rw [hy823]; with_reducible exact H2_) | (have H2_ := (Option.bind_some _ _).symm.trans H; with_reducible exact H2_) | with_reducible exact H | (rw [hy823]; exact H) | exact H
       have Ny823 := aM hy823; clear hy823
       have c27b0 := eq_true (oD (by first | with_reducible assumption | assumption) : x5_1 ≤ (l0.length : Int))
       obtain ⟨y826, hy826⟩ : ∃ y_ : List ByteArray, y_ = (l0.take (x5_1 : Int).toNat) := ⟨_, rfl⟩
       replace H : (if y826.length < 8796093022208 then ((some (y826 ++ [a1] : List ByteArray)).bind fun y829 => (if y829.length + y823.length < 8796093022208 then (some (y829 ++ y823)) else (none))) else (none)) = some r := by first | (rw [hy826]; with_reducible exact H) | (have H2_ := (Option.bind_some _ _).symm.trans H; rw [hy826]; with_reducible exact H2_) | (have H2_ := (Option.bind_some _ _).symm.trans H; with_reducible exact H2_) | with_reducible exact H | (rw [hy826]; exact H) | exact H
       have Ny826 := aM hy826; clear hy826
       by_cases c28 : y826.length < 8796093022208
       · rw [if_pos c28] at H; have LMc28 := aM c28; clear c28
         obtain ⟨y829, hy829⟩ : ∃ y_ : List ByteArray, y_ = (y826 ++ [a1]) := ⟨_, rfl⟩
         replace H : (if y829.length + y823.length < 8796093022208 then (some (y829 ++ y823)) else (none)) = some r := by first | (rw [hy829]; with_reducible exact H) | (have H2_ := (Option.bind_some _ _).symm.trans H; rw [hy829]; with_reducible exact H2_) | (have H2_ := (Option.bind_some _ _).symm.trans H; with_reducible exact H2_) | with_reducible exact H | (rw [hy829]; exact H) | exact H
         have Ny829 := aM hy829; clear hy829
         by_cases c29 : y829.length + y823.length < 8796093022208
         · rw [if_pos c29] at H; have LMc29 := aM c29; clear c29
           obtain ⟨y832, hy832⟩ : ∃ y_ : List ByteArray, y_ = (y829 ++ y823) := ⟨_, rfl⟩
           replace H : (some y832) = some r := by first | (rw [hy832]; with_reducible exact H) | (have H2_ := (Option.bind_some _ _).symm.trans H; rw [hy832]; with_reducible exact H2_) | (have H2_ := (Option.bind_some _ _).symm.trans H; with_reducible exact H2_) | with_reducible exact H | (rw [hy832]; exact H) | exact H
           have Ny832 := aM hy832; clear hy832
           obtain rfl := Option.some.inj H
           obtain ⟨Ao30, co30, eo30⟩ := Kd.R_slice HO_0.out
           subst eo30
           go_wp2_with (first | ((with_reducible refine gate_dst (N := 34) rfl ?_); refine Kd.R_lit Kd.string _ 9 ?hg (N := 34) ?hd (xs := ([] : List ByteArray)) (inner := []) (ok := fun _ => True) (okp := fun _ => True) ?hr ?hp (fun _ hk => hk) trivial (Below.refl _ _) (Nat.le_refl _) (by simp) ?_; (case hd => rfl); (case hg => rfl); (case hr => first | (go_simp; done) | (go_simp; rfl)); (case hp => exact (Reps.none _ _)); intro v817 w31 ho32 hb hg_ hnew_; clear hg_ hnew_; (first | rw [← Ny816.out] at ho32 | (simp only [Int.reduceToNat] at ho32; rw [← Ny816.out] at ho32)); have n0_ := aM (Kd.R_elder' (by (with_reducible repeat (first | apply Ra | apply Rn | apply Rd)); exact HO_0.out) (Kd.R_base ho32) hb); have n1_ := aM (Kd.R_lower (Kd.R_new' (Kd.R_newM (M := fun k_ => (P0_ k_ ∨ w.heap.size ≤ k_)) ho32 (by first | exact HK.out.1 | exact (show Kept w _ (fun k_ => P0_ k_) from by repeat (with_reducible first | exact HK.out | apply Kept.alloc | apply Kept.drewN | apply Kept.drew)).1) (fun k_ h_ => .inr h_)) (Kd.R_lt (by (with_reducible repeat (first | apply Ra | apply Rn | apply Rd)); exact HO_0.out))) (below_size (by repeat (with_reducible first | exact HB.out | apply bA | apply bN | apply bD)))); have n2_ := aM (Kept.below (S := (fun k_ => P0_ k_)) (by repeat (with_reducible first | exact HK.out | apply Kept.alloc | apply Kept.drewN | apply Kept.drew)) hb); have n3_ := aM (below_step (by repeat (with_reducible first | exact HB.out | apply bA | apply bN | apply bD)) hb); clear HO_0 HK HB; have HO_0 := n0_; have HO818 := n1_; have HK := n2_; have HB := n3_; clear n0_ n1_ n2_ n3_ hb ho32; have q33 : (x5_1 : Int) ≤ ((l0.length : Int) : Int) := oD (by first | with_reducible assumption | assumption); obtain ⟨i033, hi033, _, hsz33, _⟩ := info_parts info9; have hroom33 : l0.length ≤ co30 := (Kd.R_reads' HO_0.out).2.1; have hC33 : Kd.C Kd.string _ Ao30 l0.length l0 := (Kd.R_reads' HO_0.out).2.2; have q033 : (0 : Int) ≤ (x5_1 : Int) := oD (by first | with_reducible assumption | assumption); have hcut33 := cut_from (P := Try.prog) 33 9 .i64 Try.underlying33 hi033 1 hsz33 Ao30 l0.length co30 x5_1 q033 q33; have hr33 := Kd.C_drop (m := (x5_1 : Int).toNat) (c := co30) hC33 (by omega) hroom33; obtain ⟨A33, hA33⟩ : ∃ A1, A1 = (if co30 = (x5_1 : Int).toNat then Ao30 else (Ao30 : Option Addr).map (·.add ((x5_1 : Int).toNat * 1))) := ⟨_, rfl⟩; obtain ⟨c33, hc33⟩ : ∃ c1, c1 = co30 - (x5_1 : Int).toNat := ⟨_, rfl⟩; have hy33 : y819.length = l0.length - (x5_1 : Int).toNat := (by rw [Ny819.out, List.length_drop] <;> omega); rw [show (l0).drop (x5_1 : Int).toNat = y819 from Ny819.out.symm] at hr33; replace hr33 : Kd.C Kd.string _ A33 y819.length y819 := (by rw [hA33]; exact hr33); rw [← hy33, ← hA33, ← hc33] at hcut33; have HR822 := aM hr33; have HC822 := aM (show y819.length ≤ c33 from by rw [hy33, hc33]; exact Nat.sub_le_sub_right hroom33 _); clear hr33 hC33 hroom33 hi033 hsz33 hc33; have KY33 := aM hy33; have KA33 := aM hA33; clear hy33 hA33; have KL33 := aM (show (x5_1 : Int).toNat ≤ l0.length from by omega); replace q33 := eq_true q33) | ((with_reducible refine gate_builtin (b := .append) (xs := #[.tmp 34, .tmp 37]) rfl ?_); at_builtin; refine Kd.R_append_rows Kd.string (w0 := w0) w0.heap.size rfl (.tmp 34) (.tmp 37) 33 9 (.string ⟨#[]⟩) 16 rfl Try.underlying33 info9 rfl (by decide) (by omega) v817 y816 y819 _ _ _ (fun k_ => (P0_ k_ ∨ w.heap.size ≤ k_) ∧ some k_ ≠ (.slice Ao30 l0.length co30 : Value).ownBlock) (fun _ => False) rfl rfl ?aO ?aR (fun _ _ h => h) (fun _ h => h.elim) ?aF ?aB ?aS ?aL ?_; (case aR => repeat (first | exact (by repeat (first | (with_reducible exact HR822.out) | (with_reducible first | refine Ca ?_ _ | refine Cn ?_ _ | refine Cd ?_) | exact HR822.out)) | (with_reducible first | refine Ca ?_ _ | refine Cn ?_ _ | refine Cd ?_))); (case aB => exact (by repeat (with_reducible first | exact HB.out | apply bA | apply bN | apply bD))); (case aF => exact (fun k_ hk => ⟨(.inr (Nat.le_trans (by first | exact HK.out.1 | exact (show Kept w _ (fun k_ => P0_ k_) from by repeat (with_reducible first | exact HK.out | apply Kept.alloc | apply Kept.drewN | apply Kept.drew)).1) hk)), Kd.fresh' (Kd.R_lt (by (with_reducible repeat (first | apply Ra | apply Rn | apply Rd)); exact HO_0.out)) k_ hk⟩)); (case aO => exact (by (with_reducible repeat (first | apply Ra | apply Rn | apply Rd)); exact Kd.R_mono HO818.out (fun _ hk => ⟨hk.1.1, hk.2⟩))); (case aS => exact (below_size (by repeat (with_reducible first | exact HB.out | apply bA | apply bN | apply bD)))); (case aL => have := LMc26.out; omega); intro v824 w34 ho hb hg hat; rw [← Ny823.out] at ho; have n0_ := aM (Kd.R_after (ok := (fun k_ => (P0_ k_ ∨ w.heap.size ≤ k_))) (by (with_reducible repeat (first | apply Ra | apply Rn | apply Rd)); exact HO_0.out) hg hat); have n1_ := aM (hb); have n2_ := aM (Kept.of_grown (S := (fun k_ => P0_ k_)) hg (by repeat (with_reducible first | exact HK.out | apply Kept.alloc | apply Kept.drewN | apply Kept.drew)) (fun k_ e_ => (HO818.out.1 k_ e_).1.1)); have n3_ := aM ((show Kd.C Kd.string w34 A33 y819.length y819 from by rw [Ny819.out, KA33.out]; exact Kd.C_drop (m := (x5_1 : Int).toNat) (c := co30) ((Kd.R_reads' (Kd.R_after (ok := (fun k_ => (P0_ k_ ∨ w.heap.size ≤ k_))) (by (with_reducible repeat (first | apply Ra | apply Rn | apply Rd)); exact HO_0.out) hg hat)).2.2) KL33.out ((Kd.R_reads' (Kd.R_after (ok := (fun k_ => (P0_ k_ ∨ w.heap.size ≤ k_))) (by (with_reducible repeat (first | apply Ra | apply Rn | apply Rd)); exact HO_0.out) hg hat)).2.1))); have n4_ := aM (ho); clear HO_0 HB HK HR822 HO818; have HO_0 := n0_; have HB := n1_; have HK := n2_; have HR822 := n3_; have HO825 := n4_; clear n0_ n1_ n2_ n3_ n4_ ho hb hg hat; have q35 : (x5_1 : Int) ≤ ((l0.length : Int) : Int) := oD (by first | with_reducible assumption | assumption); obtain ⟨i035, hi035, _, hsz35, _⟩ := info_parts info9; have hcut35 := cut_to (P := Try.prog) 33 9 .i64 Try.underlying33 hi035 Ao30 l0.length co30 x5_1 (oD (by first | with_reducible assumption | assumption)) q35 (Kd.R_reads' HO_0.out).2.1; have hr35 := Kd.R_take (m := (x5_1 : Int).toNat) HO_0.out (by omega); have hy35 : y826.length = (x5_1 : Int).toNat := (by rw [Ny826.out, List.length_take]; omega); rw [← Ny826.out] at hr35; rw [← hy35] at hr35 hcut35; clear hy35 hi035 hsz35 HO_0; have HO828 := aM hr35; clear hr35; replace q35 := eq_true q35) | ((with_reducible refine gate_builtin (b := .append) (xs := #[.tmp 41, .tmp 43]) rfl ?_); at_builtin; refine Kd.R_append Kd.string (w0 := w0) w0.heap.size rfl (.tmp 41) (.tmp 43) 33 9 (.string ⟨#[]⟩) 16 rfl Try.underlying33 info9 rfl (by decide) (by omega) (.slice Ao30 y826.length co30) y826 a1 [.string a1] (fun k_ => (P0_ k_ ∨ w.heap.size ≤ k_) ∧ some k_ ≠ (v824 : Value).ownBlock) (fun _ => False) rfl rfl ?aP (fun _ hk => hk.elim) ?aF ?aO ?aB ?aS ?aL ?_; (case aP => exact rfl); (case aB => exact (by repeat (with_reducible first | exact HB.out | apply bA | apply bN | apply bD))); (case aF => exact (fun k_ hk => ⟨(.inr (Nat.le_trans (by first | exact HK.out.1 | exact (show Kept w _ (fun k_ => P0_ k_) from by repeat (with_reducible first | exact HK.out | apply Kept.alloc | apply Kept.drewN | apply Kept.drew)).1) hk)), Kd.fresh' (Kd.R_lt (by (with_reducible repeat (first | apply Ra | apply Rn | apply Rd)); first | exact HO825.out | exact Kd.R_mono HO825.out (fun k_ hk_ => ⟨hk_.1, fun e_ => hk_.2 (e_.trans own_len_)⟩))) k_ hk⟩)); (case aO => exact (by (with_reducible repeat (first | apply Ra | apply Rn | apply Rd)); first | exact HO828.out | exact Kd.R_mono HO828.out (fun k_ hk_ => ⟨hk_.1, fun e_ => hk_.2 (e_.trans own_len_)⟩))); (case aS => exact (below_size (by repeat (with_reducible first | exact HB.out | apply bA | apply bN | apply bD)))); (case aL => have := LMc28.out; omega); intro v830 w36 ho hb hg hat; rw [← Ny829.out] at ho; have n0_ := aM (Kd.R_after (ok := (fun k_ => (P0_ k_ ∨ w.heap.size ≤ k_))) (by (with_reducible repeat (first | apply Ra | apply Rn | apply Rd)); first | exact HO825.out | exact Kd.R_mono HO825.out (fun k_ hk_ => ⟨hk_.1, fun e_ => hk_.2 (e_.trans own_len_)⟩)) hg hat); have n1_ := aM (hb); have n2_ := aM (Kept.of_grown (S := (fun k_ => P0_ k_)) hg (by repeat (with_reducible first | exact HK.out | apply Kept.alloc | apply Kept.drewN | apply Kept.drew)) (fun k_ e_ => (HO828.out.1 k_ e_).1)); have n3_ := aM (ho); clear HO825 HB HK HO828; have HO825 := n0_; have HB := n1_; have HK := n2_; have HO831 := n3_; clear n0_ n1_ n2_ n3_ ho hb hg hat; obtain ⟨Ao38, co38, eo38⟩ := Kd.R_slice HO825.out; subst eo38) | ((with_reducible refine gate_builtin (b := .append) (xs := #[.tmp 44, .tmp 45]) rfl ?_); at_builtin; refine Kd.R_append_rows Kd.string (w0 := w0) w0.heap.size rfl (.tmp 44) (.tmp 45) 33 9 (.string ⟨#[]⟩) 16 rfl Try.underlying33 info9 rfl (by decide) (by omega) v830 y829 y823 _ _ _ (fun k_ => (P0_ k_ ∨ w.heap.size ≤ k_) ∧ some k_ ≠ (.slice Ao38 y823.length co38 : Value).ownBlock) (fun _ => False) rfl rfl ?aO ?aR (fun _ _ h => h) (fun _ h => h.elim) ?aF ?aB ?aS ?aL ?_; (case aR => repeat (first | exact (Kd.R_reads' HO825.out).2.2 | (with_reducible first | refine Ca ?_ _ | refine Cn ?_ _ | refine Cd ?_))); (case aB => exact (by repeat (with_reducible first | exact HB.out | apply bA | apply bN | apply bD))); (case aF => exact (fun k_ hk => ⟨(.inr (Nat.le_trans (by first | exact HK.out.1 | exact (show Kept w _ (fun k_ => P0_ k_) from by repeat (with_reducible first | exact HK.out | apply Kept.alloc | apply Kept.drewN | apply Kept.drew)).1) hk)), Kd.fresh' (Kd.R_lt (by (with_reducible repeat (first | apply Ra | apply Rn | apply Rd)); first | exact HO825.out | exact Kd.R_mono HO825.out (fun k_ hk_ => ⟨hk_.1, fun e_ => hk_.2 (e_.trans own_len_)⟩))) k_ hk⟩)); (case aO => exact (by (with_reducible repeat (first | apply Ra | apply Rn | apply Rd)); first | exact HO831.out | exact Kd.R_mono HO831.out (fun k_ hk_ => ⟨hk_.1, fun e_ => hk_.2 (e_.trans own_len_)⟩))); (case aS => exact (below_size (by repeat (with_reducible first | exact HB.out | apply bA | apply bN | apply bD)))); (case aL => have := LMc29.out; omega); intro v833 w37 ho hb hg hat; rw [← Ny832.out] at ho; have n0_ := aM (Kd.R_after (ok := (fun k_ => (P0_ k_ ∨ w.heap.size ≤ k_))) (by (with_reducible repeat (first | apply Ra | apply Rn | apply Rd)); first | exact HO825.out | exact Kd.R_mono HO825.out (fun k_ hk_ => ⟨hk_.1, fun e_ => hk_.2 (e_.trans own_len_)⟩)) hg hat); have n1_ := aM (hb); have n2_ := aM (Kept.of_grown (S := (fun k_ => P0_ k_)) hg (by repeat (with_reducible first | exact HK.out | apply Kept.alloc | apply Kept.drewN | apply Kept.drew)) (fun k_ e_ => (HO831.out.1 k_ e_).1)); have n3_ := aM (ho); clear HO825 HB HK HO831; have HO825 := n0_; have HB := n1_; have HK := n2_; have HO834 := n3_; clear n0_ n1_ n2_ n3_ ho hb hg hat))
           go_ret
           exact ⟨_, by first | rfl | (simp [*, errW_none, errW_some] <;> rfl), by (with_reducible repeat (first | apply Ra | apply Rn | apply Rd)); exact Kd.R_mono HO834.out (fun _ hk => hk.1), by repeat (with_reducible first | exact HB.out | apply bA | apply bN | apply bD), by repeat (with_reducible first | exact HK.out | apply Kept.alloc | apply Kept.drewN | apply Kept.drew)⟩
         rw [if_neg c29] at H
         exact absurd H (by simp)
       rw [if_neg c28] at H
       exact absurd H (by simp)
     rw [if_neg c26] at H
     exact absurd H (by simp)
   rw [if_neg c25] at H
   exact absurd H (by simp)
 rw [if_neg c24] at H
 exact absurd H (by simp)
mutual
def spec_l3Wants.j0 : Nat → List (List (S30)) → List ByteArray → Option (List ByteArray)
  | 0, _, _ => none
  | k + 1, x0, x5 => spec_l3Wants.l0 k x0 x5 0
def spec_l3Wants.l0 : Nat → List (List (S30)) → List ByteArray → Int → Option (List ByteArray)
  | 0, _, _, _ => none
  | k + 1, x0, x5, x6 => if x6 < (x0.length : Int) then (spec_l3Wants.l1 k x0 x5 x6 0) else (spec_l3Wants.l3 k x0 x5 (([] : List ByteArray)) 0)
def spec_l3Wants.l1 : Nat → List (List (S30)) → List ByteArray → Int → Int → Option (List ByteArray)
  | 0, _, _, _, _ => none
  | k + 1, x0, x5, x6, x7 => if 0 ≤ x6 then (if x6 < (x0.length : Int) then (if x7 < ((rd_L13 x0 x6).length : Int) then (if 0 ≤ x7 then ((spec_l2Refs.f k ((rd_T30 (rd_L13 x0 x6) x7).f2)).bind fun t908 => (spec_l3Wants.l2 k x0 x5 x6 x7 t908 0)) else (none)) else (spec_l3Wants.l0 k x0 x5 (wrap64 (x6 + 1)))) else (none)) else (none)
def spec_l3Wants.l2 : Nat → List (List (S30)) → List ByteArray → Int → Int → List ByteArray → Int → Option (List ByteArray)
  | 0, _, _, _, _, _, _ => none
  | k + 1, x0, x5, x6, x7, x8, x9 => if x9 < (x8.length : Int) then (if 0 ≤ x9 then ((spec_l2Put.f k x5 (rdOf ByteArray.empty x8 x9)).bind fun t912 => (spec_l3Wants.l2 k x0 t912 x6 x7 x8 (wrap64 (x9 + 1)))) else (none)) else (spec_l3Wants.l1 k x0 x5 x6 (wrap64 (x7 + 1)))
def spec_l3Wants.l3 : Nat → List (List (S30)) → List ByteArray → List ByteArray → Int → Option (List ByteArray)
  | 0, _, _, _, _ => none
  | k + 1, x0, x5, x10, x11 => if x11 < (x5.length : Int) then (if 0 ≤ x11 then ((spec_l3At.f k x0 (rdOf ByteArray.empty x5 x11)).bind fun bt919 => (if bt919.2.2 = true then (spec_l3Wants.l3 k x0 x5 x10 (wrap64 (x11 + 1))) else (if x10.length < 8796093022208 then (spec_l3Wants.l3 k x0 x5 (x10 ++ [rdOf ByteArray.empty x5 x11]) (wrap64 (x11 + 1))) else (none)))) else (none)) else (some x10)
end
def spec_l3Wants.f (k : Nat) (l0 : List (List (S30))) (a1 : ByteArray) : Option (List ByteArray) := (some (([] : List ByteArray) : List ByteArray)).bind fun y899 => (if a1.toList = ([] : List UInt8) then (spec_l3Wants.j0 k l0 y899) else ((spec_l2Put.f k y899 a1).bind fun t902 => (spec_l3Wants.j0 k l0 t902)))
set_option maxHeartbeats 8000000 in
set_option maxRecDepth 100000 in
theorem spec_l3Wants.calls (k : Nat) (A0 : Option Addr) (c0 : Nat) (l0 : List (List (S30))) (a1 : ByteArray) (r : List ByteArray) (w : World) (hr0 : Kd.C (Kd.slice 30 k30) w A0 l0.length l0) (hc0 : l0.length ≤ c0) (h : spec_l3Wants.f k l0 a1 = some r) :
    Calls Try.prog 91 #[.slice A0 l0.length c0, .string a1] w fun e w' => ∃ v0_ : Value, e = .returned (v0_) ∧ Kd.R Kd.string 9 w' w.heap.size (fun _ => True) v0_ r ∧ Below w.heap.size w w' := by
 have HR0 := aM hr0; have HC0 := aM hc0; clear hr0 hc0
 have HB := aM (Below.refl w.heap.size w)
 have H : ((some (([] : List ByteArray) : List ByteArray)).bind fun y899 => (if a1.toList = ([] : List UInt8) then (spec_l3Wants.j0 k l0 y899) else ((spec_l2Put.f k y899 a1).bind fun t902 => (spec_l3Wants.j0 k l0 t902)))) = some r := h
 clear h
 obtain ⟨y899, hy899⟩ : ∃ y_ : List ByteArray, y_ = (([] : List ByteArray)) := ⟨_, rfl⟩
 replace H : (if a1.toList = ([] : List UInt8) then (spec_l3Wants.j0 k l0 y899) else ((spec_l2Put.f k y899 a1).bind fun t902 => (spec_l3Wants.j0 k l0 t902))) = some r := by first | (rw [hy899]; with_reducible exact H) | (have H2_ := (Option.bind_some _ _).symm.trans H; rw [hy899]; with_reducible exact H2_) | (have H2_ := (Option.bind_some _ _).symm.trans H; with_reducible exact H2_) | with_reducible exact H | (rw [hy899]; exact H) | exact H
 have Ny899 := aM hy899; clear hy899; have HC3 := aM H; clear H
 go_enter Try.func91, Try.ntmps91
 go_upto_if 17 with (first | ((with_reducible refine gate_dst (N := 15) rfl ?_); refine Kd.R_lit Kd.string _ 9 ?hg (N := 15) ?hd (xs := ([] : List ByteArray)) (inner := []) (ok := fun _ => True) (okp := fun _ => True) ?hr ?hp (fun _ hk => hk) trivial (Below.refl _ _) (Nat.le_refl _) (by simp) ?_; (case hd => rfl); (case hg => rfl); (case hr => first | (go_simp; done) | (go_simp; rfl)); (case hp => exact (Reps.none _ _)); intro v900 w4 ho5 hb hg_ hnew_; clear hg_ hnew_; (first | rw [← Ny899.out] at ho5 | (simp only [Int.reduceToNat] at ho5; rw [← Ny899.out] at ho5)); have n0_ := aM (Kd.R_lower ho5 (below_size (by repeat (with_reducible first | exact HB.out | apply bA | apply bN | apply bD)))); have n1_ := aM (below_step (by repeat (with_reducible first | exact HB.out | apply bA | apply bN | apply bD)) hb); clear HB; have HO901 := n0_; have HB := n1_; clear n0_ n1_ hb ho5))
 (try simp only [Act.put, List.setIfInBounds_toArray, List.set_cons_zero, List.set_cons_succ])
 go_cut [5] (fun v5 wc => ∃ (kq : Nat) (x5_2 : List ByteArray), Aside0 (spec_l3Wants.j0 kq l0 x5_2 = some r) ∧ Aside0 (kq ≤ k) ∧ Aside0 (Kd.R Kd.string 9 wc w.heap.size (fun _ => True) v5 x5_2) ∧ Aside0 (Below w.heap.size w wc))
 case first =>
  have H := HC3.out
  clear HC3
  by_cases c6 : a1.toList = ([] : List UInt8)
  · rw [if_pos c6] at H
    have c6b0 : (a1.toList == ([] : List UInt8)) = true := beq_iff_eq.mpr c6
    have c6b1 : (a1.toList != ([] : List UInt8)) = false := bne_eq_false_iff_eq.mpr c6
    clear c6
    (first | rw [show a1.toList.isEmpty = true from List.isEmpty_iff.mpr (beq_iff_eq.mp c6b0)] | rw [c6b0] | (simp only [i64_w, i32_w]; rw [c6b0]) | (have cn_ := c6b0; simp only [bne] at cn_; rw [cn_]; clear cn_) | skip)
    have H' := aM H
    clear H
    go_wp2
    go_meet
    case rel => exact ⟨_, (y899), H', ⟨by first | omega | exact Nat.le_refl _⟩, ⟨by (with_reducible repeat (first | apply Ra | apply Rn | apply Rd)); exact HO901.out⟩, ⟨by repeat (with_reducible first | exact HB.out | apply bA | apply bN | apply bD)⟩⟩
  rw [if_neg c6] at H
  have c6b0 : (a1.toList == ([] : List UInt8)) = false := beq_eq_false_iff_ne.mpr c6
  have c6b1 : (a1.toList != ([] : List UInt8)) = true := bne_iff_ne.mpr c6
  (first | rw [show a1.toList.isEmpty = false from Bool.eq_false_iff.mpr (fun h_ => absurd (List.isEmpty_iff.mp h_) (beq_eq_false_iff_ne.mp c6b0))] | rw [c6b0] | (simp only [i64_w, i32_w]; rw [c6b0]) | (have cn_ := c6b0; simp only [bne] at cn_; rw [cn_]; clear cn_) | skip)
  replace H := Option.bind_eq_some_iff.mp H
  obtain ⟨t902, A70, H⟩ := H
  replace H : (spec_l3Wants.j0 k l0 t902) = some r := H
  have A7 := aM A70; clear A70
  have H' := aM H
  clear H
  obtain ⟨Ao8, co8, eo8⟩ := Kd.R_slice HO901.out
  subst eo8
  go_wp2_with (first | ((with_reducible refine gate_callee (f := 127) rfl ?_); refine goesL_ (some 20) rfl rfl Try.func127 (by kernel_rfl) rfl #[.slice Ao8 y899.length co8, .string a1] rfl (by (try simp only [List.map_toArray, List.map_cons, List.map_nil]); first | done | rfl) ?_; (with_reducible refine (spec_l2Put.calls k (fun k_ => some k_ = (.slice Ao8 y899.length co8 : Value).ownBlock) (.slice Ao8 y899.length co8) y899 a1 t902 w _ ?side1 ?side2 A7.out).mono ?_); (case side1 => repeat (with_reducible first | exact HB.out | apply bA | apply bN | apply bD)); (case side2 => exact Kd.R_tight rfl HO901.out); rintro e w9 ⟨v903, rfl, ho0, hb, hkp⟩; refine ⟨_, rfl, ?_⟩; have n0_ := aM (Kd.R_mono (ok' := fun k_ => True) ho0 (fun k_ hk_ => trivial)); have n1_ := aM (hb); clear HB HO901; have HO904 := n0_; have HB := n1_; clear n0_ n1_; (try clear hkp); (try clear ho0)))
  go_meet
  case rel => exact ⟨_, (t902), H', ⟨by first | omega | exact Nat.le_refl _⟩, ⟨by (with_reducible repeat (first | apply Ra | apply Rn | apply Rd)); exact HO904.out⟩, ⟨by repeat (with_reducible first | exact HB.out | apply bA | apply bN | apply bD)⟩⟩
 clear HC3; try clear c1; try clear p2; try clear c6; try clear c6b0; try clear c6b1; try clear c9
 obtain ⟨kq, x5_2, HA, HJ2, HO_5, HB⟩ := hcut
 obtain _ | kj2 := kq
 · exact absurd HA.out (by simp [spec_l3Wants.j0])
 have H := HA.out
 clear HA
 simp only [spec_l3Wants.j0] at H
 have H' := aM H
 clear H
 go_wp2
 go_loopg [5, 6] kj2 (fun kq v5 v6 w' => ∃ (x5_2 : List ByteArray) (x6_2 : Int), v6 = .int .i64 x6_2 ∧ Aside0 (spec_l3Wants.l0 kq l0 x5_2 x6_2 = some r) ∧ Aside0 (kq ≤ kj2) ∧ Aside0 (Kd.R Kd.string 9 w' w.heap.size (fun _ => True) v5 x5_2) ∧ Aside0 (Below w.heap.size w w'))
 case atStart => exact ⟨(x5_2), (0), (by first | rfl | (simp; done) | (simp [*]; done)), H', ⟨Nat.le_refl _⟩, ⟨by (with_reducible repeat (first | apply Ra | apply Rn | apply Rd)); exact HO_5.out⟩, ⟨by repeat (with_reducible first | exact HB.out | apply bA | apply bN | apply bD)⟩⟩
 clear H'
 try clear c1; try clear p2; try clear c6; try clear c6b0; try clear c6b1; try clear c9; try clear p2
 obtain ⟨x5_2, x6_2, rfl, HA, HK2, HO_5, HB⟩ := hrel
 obtain _ | k2 := gk
 · exact absurd HA.out (by simp [spec_l3Wants.l0])
 have H := HA.out
 clear HA
 simp only [spec_l3Wants.l0] at H
 by_cases c10 : x6_2 < (l0.length : Int)
 · rw [if_pos c10] at H
   have c10b0 : decide (x6_2 < (l0.length : Int)) = true := decide_eq_true c10
   clear c10
   have H' := aM H
   clear H
   go_wp2
   go_loopg [5, 7] k2 (fun kq v5 v7 w' => ∃ (x5_3 : List ByteArray) (x7_3 : Int), v7 = .int .i64 x7_3 ∧ Aside0 (spec_l3Wants.l1 kq l0 x5_3 x6_2 x7_3 = some r) ∧ Aside0 (kq ≤ k2) ∧ Aside0 (Kd.R Kd.string 9 w' w.heap.size (fun _ => True) v5 x5_3) ∧ Aside0 (Below w.heap.size w w'))
   case atStart => exact ⟨(x5_2), (0), (by first | rfl | (simp; done) | (simp [*]; done)), H', ⟨Nat.le_refl _⟩, ⟨by (with_reducible repeat (first | apply Ra | apply Rn | apply Rd)); exact HO_5.out⟩, ⟨by repeat (with_reducible first | exact HB.out | apply bA | apply bN | apply bD)⟩⟩
   clear H'
   try clear c1; try clear p2; try clear c6; try clear c6b0; try clear c6b1; try clear c9; try clear c10; try clear c10b0; try clear p2
   obtain ⟨x5_3, x7_3, rfl, HA, HK3, HO_5, HB⟩ := hrel
   obtain _ | k3 := gk
   · exact absurd HA.out (by simp [spec_l3Wants.l1])
   have H := HA.out
   clear HA
   simp only [spec_l3Wants.l1] at H
   by_cases c11 : 0 ≤ x6_2
   · rw [if_pos c11] at H
     have c11b0 : decide (0 ≤ x6_2) = true := decide_eq_true c11
     clear c11
     by_cases c12 : x6_2 < (l0.length : Int)
     · rw [if_pos c12] at H
       have c12b0 : decide (x6_2 < (l0.length : Int)) = true := decide_eq_true c12
       clear c12
       by_cases c13 : x7_3 < ((rd_L13 l0 x6_2).length : Int)
       · rw [if_pos c13] at H
         have c13b0 : decide (x7_3 < ((rd_L13 l0 x6_2).length : Int)) = true := decide_eq_true c13
         clear c13
         by_cases c14 : 0 ≤ x7_3
         · rw [if_pos c14] at H
           have c14b0 : decide (0 ≤ x7_3) = true := decide_eq_true c14
           clear c14
           replace H := Option.bind_eq_some_iff.mp H
           obtain ⟨t908, A150, H⟩ := H
           replace H : (spec_l3Wants.l2 k3 l0 x5_3 x6_2 x7_3 t908 0) = some r := H
           have A15 := aM A150; clear A150
           have H' := aM H
           clear H
           have p905 : 0 ≤ (x6_2 : Int) := oD (by first | with_reducible assumption | assumption)
           have q905 : x6_2 < (l0.length : Int) := oD (by first | with_reducible assumption | assumption)
           obtain ⟨ad905, A905_0, c905_0, e905, hx905_0, hl905_0, hi905_0⟩ := at_L13 HR0.out x6_2 p905 q905
           cases e905
           replace hx905_0 := (HB.out.cell (World.block_lt_of_cell? w _ hx905_0)).trans hx905_0
           have HR905_0 := aM hi905_0; have HC905_0 := aM hl905_0; clear hi905_0 hl905_0; replace p905 := eq_true p905; replace q905 := eq_true q905
           have p906 : 0 ≤ (x6_2 : Int) := oD (by first | with_reducible assumption | assumption)
           have q906 : x6_2 < (l0.length : Int) := oD (by first | with_reducible assumption | assumption)
           obtain ⟨ad906, A906_0, c906_0, e906, hx906_0, hl906_0, hi906_0⟩ := at_L13 HR0.out x6_2 p906 q906
           obtain rfl : ad905 = ad906 := (by injection e906)
           replace hx906_0 := (HB.out.cell (World.block_lt_of_cell? w _ hx906_0)).trans hx906_0
           have HR906_0 := aM hi906_0; have HC906_0 := aM hl906_0; clear hi906_0 hl906_0; replace p906 := eq_true p906; replace q906 := eq_true q906
           have ea_ := Option.some.inj (hx905_0.symm.trans hx906_0)
           injection ea_ with ea_ en_ ec_
           subst ea_; subst ec_; clear en_
           have p907 : 0 ≤ (x7_3 : Int) := oD (by first | with_reducible assumption | assumption)
           have q907 : x7_3 < ((rd_L13 l0 x6_2).length : Int) := oD (by first | with_reducible assumption | assumption)
           obtain ⟨ad907, A907_2, c907_2, e907, hx907_0, hx907_1, hx907_2, hl907_2, hi907_2⟩ := at_T30 HR906_0.out x7_3 p907 q907
           cases e907
           replace hx907_0 := (HB.out.cell (World.block_lt_of_cell? w _ hx907_0)).trans hx907_0
           replace hx907_1 := (HB.out.cell (World.block_lt_of_cell? w _ hx907_1)).trans hx907_1
           replace hx907_2 := (HB.out.cell (World.block_lt_of_cell? w _ hx907_2)).trans hx907_2
           have HR907_2 := aM hi907_2; have HC907_2 := aM hl907_2; clear hi907_2 hl907_2; replace p907 := eq_true p907; replace q907 := eq_true q907
           go_wp2_with (first | ((with_reducible refine gate_callee (f := 69) rfl ?_); refine goesL_ (some 44) rfl rfl Try.func69 (by kernel_rfl) rfl #[.slice A907_2 ((rd_T30 (rd_L13 l0 x6_2) x7_3).f2).length c907_2] rfl (by (try simp only [List.map_toArray, List.map_cons, List.map_nil]); first | done | rfl) ?_; (with_reducible refine (spec_l2Refs.calls k3 _ _ ((rd_T30 (rd_L13 l0 x6_2) x7_3).f2) t908 _ ?side1 ?side2 A15.out).mono ?_); (case side1 => repeat (first | exact (Kd.C_below HR907_2.out HB.out) | (with_reducible first | refine Ca ?_ _ | refine Cn ?_ _ | refine Cd ?_))); (case side2 => exact HC907_2.out); rintro e w16 ⟨v909, rfl, ho0, hb⟩; refine ⟨_, rfl, ?_⟩; have n0_ := aM (Kd.R_elder' (by (with_reducible repeat (first | apply Ra | apply Rn | apply Rd)); exact HO_5.out) (Kd.R_base ho0) hb); have n1_ := aM (Kd.R_lower (Kd.R_new' ho0 (Kd.R_lt (by (with_reducible repeat (first | apply Ra | apply Rn | apply Rd)); exact HO_5.out))) (below_size (by repeat (with_reducible first | exact HB.out | apply bA | apply bN | apply bD)))); have n2_ := aM (below_step (by repeat (with_reducible first | exact HB.out | apply bA | apply bN | apply bD)) hb); clear HO_5 HB; have HO_5 := n0_; have HO910 := n1_; have HB := n2_; clear n0_ n1_ n2_; (try clear ho0)))
           go_loopg [5, 9] k3 (fun kq v5 v9 w' => ∃ (x5_4 : List ByteArray) (x9_4 : Int), v9 = .int .i64 x9_4 ∧ Aside0 (spec_l3Wants.l2 kq l0 x5_4 x6_2 x7_3 t908 x9_4 = some r) ∧ Aside0 (kq ≤ k3) ∧ Aside0 (Kd.R Kd.string 9 w' w.heap.size (fun k_ => some k_ ≠ (v909 : Value).ownBlock) v5 x5_4) ∧ Aside0 (Kd.R Kd.string 9 w' w.heap.size (fun k_ => some k_ ≠ (v5 : Value).ownBlock) v909 t908) ∧ Aside0 (Below w.heap.size w w'))
           case atStart => exact ⟨(x5_3), (0), (by first | rfl | (simp; done) | (simp [*]; done)), H', ⟨Nat.le_refl _⟩, ⟨by (with_reducible repeat (first | apply Ra | apply Rn | apply Rd)); exact Kd.R_mono HO_5.out (fun _ hk => hk.2)⟩, ⟨by (with_reducible repeat (first | apply Ra | apply Rn | apply Rd)); exact Kd.R_mono HO910.out (fun _ hk => hk.2)⟩, ⟨by repeat (with_reducible first | exact HB.out | apply bA | apply bN | apply bD)⟩⟩
           clear H'
           try clear c1; try clear p2; try clear c6; try clear c6b0; try clear c6b1; try clear c9; try clear p9; try clear q9; try clear hx9; try clear c10; try clear c10b0; try clear c11; try clear c11b0; try clear c12; try clear c12b0; try clear c13; try clear c13b0; try clear c14; try clear c14b0; try clear hx905_0; try clear hx906_0; try clear hx907_0; try clear hx907_1; try clear hx907_2; try clear p2; try clear p905; try clear p906; try clear p907; try clear q905; try clear q906; try clear q907
           obtain ⟨x5_4, x9_4, rfl, HA, HK4, HO_5, HO_8, HB⟩ := hrel
           obtain _ | k4 := gk
           · exact absurd HA.out (by simp [spec_l3Wants.l2])
           have H := HA.out
           clear HA
           simp only [spec_l3Wants.l2] at H
           by_cases c17 : x9_4 < (t908.length : Int)
           · rw [if_pos c17] at H
             have c17b0 : decide (x9_4 < (t908.length : Int)) = true := decide_eq_true c17
             clear c17
             by_cases c18 : 0 ≤ x9_4
             · rw [if_pos c18] at H
               have c18b0 : decide (0 ≤ x9_4) = true := decide_eq_true c18
               clear c18
               replace H := Option.bind_eq_some_iff.mp H
               obtain ⟨t912, A190, H⟩ := H
               replace H : (spec_l3Wants.l2 k4 l0 t912 x6_2 x7_3 t908 (wrap64 (x9_4 + 1))) = some r := H
               have A19 := aM A190; clear A190
               have H' := aM H
               clear H
               obtain ⟨Ao20, co20, eo20⟩ := Kd.R_slice HO_8.out
               subst eo20
               have p911 : 0 ≤ (x9_4 : Int) := oD (by first | with_reducible assumption | assumption)
               have q911 : x9_4 < (t908.length : Int) := oD (by first | with_reducible assumption | assumption)
               obtain ⟨ad911, e911, hx911_0⟩ := Kd.at_string (Kd.R_reads' HO_8.out).2.2 x9_4 p911 q911
               cases e911
               replace p911 := eq_true p911; replace q911 := eq_true q911
               obtain ⟨Ao21, co21, eo21⟩ := Kd.R_slice HO_5.out
               subst eo21
               go_wp2_with (first | ((with_reducible refine gate_callee (f := 127) rfl ?_); refine goesL_ (some 56) rfl rfl Try.func127 (by kernel_rfl) rfl #[.slice Ao21 x5_4.length co21, .string (rdOf ByteArray.empty t908 x9_4)] rfl (by (try simp only [List.map_toArray, List.map_cons, List.map_nil]); first | done | rfl) ?_; (with_reducible refine (spec_l2Put.calls k4 (fun k_ => some k_ = (.slice Ao21 x5_4.length co21 : Value).ownBlock) (.slice Ao21 x5_4.length co21) x5_4 (rdOf ByteArray.empty t908 x9_4) t912 w _ ?side1 ?side2 A19.out).mono ?_); (case side1 => repeat (with_reducible first | exact HB.out | apply bA | apply bN | apply bD)); (case side2 => exact Kd.R_tight rfl HO_5.out); rintro e w22 ⟨v913, rfl, ho0, hb, hkp⟩; refine ⟨_, rfl, ?_⟩; have n0_ := aM (Kd.R_mono (ok' := fun k_ => some k_ ≠ (v913 : Value).ownBlock) (Kd.R_keptB (HO_8.out) hkp (fun k_ hk_ hs_ => (hk_) hs_)) (fun k_ hk_ => fun e_ => Or.elim (ho0.1 k_ e_.symm) (fun hs_ => hk_.2.1 hs_) (fun hn_ => Nat.not_le.2 hk_.2.2 hn_))); have n1_ := aM (Kd.R_mono (ok' := fun k_ => some k_ ≠ (.slice (some ad911) t908.length co20 : Value).ownBlock) ho0 (fun k_ hk_ => Or.elim hk_ (fun hs_ => fun e_ => (((HO_8.out).1 k_ e_.symm)) hs_) (fun hn_ => (Kd.fresh' (Kd.R_lt (by (with_reducible repeat (first | apply Ra | apply Rn | apply Rd)); exact HO_8.out)) k_ hn_)))); have n2_ := aM (hb); clear HO_8 HB HO_5; have HO_8 := n0_; have HO914 := n1_; have HB := n2_; clear n0_ n1_ n2_; (try clear hkp); (try clear ho0)))
               go_roundg k4
               case measure => have := HJ2.out; have := HK2.out; have := HK3.out; have := HK4.out; omega
               case rel => exact ⟨(t912), (wrap64 (x9_4 + 1)), (by first | rfl | (simp; done) | (simp [*]; done)), H', ⟨by have := HJ2.out; have := HK2.out; have := HK3.out; have := HK4.out; omega⟩, ⟨by (with_reducible repeat (first | apply Ra | apply Rn | apply Rd)); exact HO914.out⟩, ⟨by (with_reducible repeat (first | apply Ra | apply Rn | apply Rd)); exact HO_8.out⟩, ⟨by repeat (with_reducible first | exact HB.out | apply bA | apply bN | apply bD)⟩⟩
             rw [if_neg c18] at H
             exact absurd H (by simp)
           rw [if_neg c17] at H
           have c17b0 : decide (x9_4 < (t908.length : Int)) = false := decide_eq_false c17
           clear c17
           have H' := aM H
           clear H
           obtain ⟨Ao23, co23, eo23⟩ := Kd.R_slice HO_8.out
           subst eo23
           go_wp2
           go_roundg k4
           case measure => have := HJ2.out; have := HK2.out; have := HK3.out; have := HK4.out; omega
           case rel => exact ⟨(x5_4), (wrap64 (x7_3 + 1)), (by first | rfl | (simp; done) | (simp [*]; done)), H', ⟨by have := HJ2.out; have := HK2.out; have := HK3.out; have := HK4.out; omega⟩, ⟨by (with_reducible repeat (first | apply Ra | apply Rn | apply Rd)); exact Kd.R_mono HO_5.out (fun _ hk => trivial)⟩, ⟨by repeat (with_reducible first | exact HB.out | apply bA | apply bN | apply bD)⟩⟩
         rw [if_neg c14] at H
         exact absurd H (by simp)
       rw [if_neg c13] at H
       have c13b0 : decide (x7_3 < ((rd_L13 l0 x6_2).length : Int)) = false := decide_eq_false c13
       clear c13
       have H' := aM H
       clear H
       have p905 : 0 ≤ (x6_2 : Int) := oD (by first | with_reducible assumption | assumption)
       have q905 : x6_2 < (l0.length : Int) := oD (by first | with_reducible assumption | assumption)
       obtain ⟨ad905, A905_0, c905_0, e905, hx905_0, hl905_0, hi905_0⟩ := at_L13 HR0.out x6_2 p905 q905
       cases e905
       replace hx905_0 := (HB.out.cell (World.block_lt_of_cell? w _ hx905_0)).trans hx905_0
       have HR905_0 := aM hi905_0; have HC905_0 := aM hl905_0; clear hi905_0 hl905_0; replace p905 := eq_true p905; replace q905 := eq_true q905
       go_wp2
       go_roundg k3
       case measure => have := HJ2.out; have := HK2.out; have := HK3.out; omega
       case rel => exact ⟨(x5_3), (wrap64 (x6_2 + 1)), (by first | rfl | (simp; done) | (simp [*]; done)), H', ⟨by have := HJ2.out; have := HK2.out; have := HK3.out; omega⟩, ⟨by (with_reducible repeat (first | apply Ra | apply Rn | apply Rd)); exact HO_5.out⟩, ⟨by repeat (with_reducible first | exact HB.out | apply bA | apply bN | apply bD)⟩⟩
     rw [if_neg c12] at H
     exact absurd H (by simp)
   rw [if_neg c11] at H
   exact absurd H (by simp)
 rw [if_neg c10] at H
 have c10b0 : decide (x6_2 < (l0.length : Int)) = false := decide_eq_false c10
 clear c10
 obtain ⟨y915, hy915⟩ : ∃ y_ : List ByteArray, y_ = (([] : List ByteArray)) := ⟨_, rfl⟩
 replace H : (spec_l3Wants.l3 k2 l0 x5_2 y915 0) = some r := by first | (rw [hy915]; with_reducible exact H) | (have H2_ := (Option.bind_some _ _).symm.trans H; rw [hy915]; with_reducible exact H2_) | (have H2_ := (Option.bind_some _ _).symm.trans H; with_reducible exact H2_) | with_reducible exact H | (rw [hy915]; exact H) | exact H
 have Ny915 := aM hy915; clear hy915
 have H' := aM H
 clear H
 go_wp2_with (first | ((with_reducible refine gate_dst (N := 57) rfl ?_); refine Kd.R_lit Kd.string _ 9 ?hg (N := 57) ?hd (xs := ([] : List ByteArray)) (inner := []) (ok := fun _ => True) (okp := fun _ => True) ?hr ?hp (fun _ hk => hk) trivial (Below.refl _ _) (Nat.le_refl _) (by simp) ?_; (case hd => rfl); (case hg => rfl); (case hr => first | (go_simp; done) | (go_simp; rfl)); (case hp => exact (Reps.none _ _)); intro v916 w24 ho25 hb hg_ hnew_; clear hg_ hnew_; (first | rw [← Ny915.out] at ho25 | (simp only [Int.reduceToNat] at ho25; rw [← Ny915.out] at ho25)); have n0_ := aM (Kd.R_elder' (by (with_reducible repeat (first | apply Ra | apply Rn | apply Rd)); exact HO_5.out) (Kd.R_base ho25) hb); have n1_ := aM (Kd.R_lower (Kd.R_new' ho25 (Kd.R_lt (by (with_reducible repeat (first | apply Ra | apply Rn | apply Rd)); exact HO_5.out))) (below_size (by repeat (with_reducible first | exact HB.out | apply bA | apply bN | apply bD)))); have n2_ := aM (below_step (by repeat (with_reducible first | exact HB.out | apply bA | apply bN | apply bD)) hb); clear HO_5 HB; have HO_5 := n0_; have HO917 := n1_; have HB := n2_; clear n0_ n1_ n2_ hb ho25))
 go_loopg [10, 11] k2 (fun kq v10 v11 w' => ∃ (x10_3 : List ByteArray) (x11_3 : Int), v11 = .int .i64 x11_3 ∧ Aside0 (spec_l3Wants.l3 kq l0 x5_2 x10_3 x11_3 = some r) ∧ Aside0 (kq ≤ k2) ∧ Aside0 (Kd.R Kd.string 9 w' w.heap.size (fun k_ => some k_ ≠ (v10 : Value).ownBlock) u5 x5_2) ∧ Aside0 (Kd.R Kd.string 9 w' w.heap.size (fun k_ => some k_ ≠ (u5 : Value).ownBlock) v10 x10_3) ∧ Aside0 (Below w.heap.size w w'))
 case atStart => exact ⟨(y915), (0), (by first | rfl | (simp; done) | (simp [*]; done)), H', ⟨Nat.le_refl _⟩, ⟨by (with_reducible repeat (first | apply Ra | apply Rn | apply Rd)); exact Kd.R_mono HO_5.out (fun _ hk => hk.2)⟩, ⟨by (with_reducible repeat (first | apply Ra | apply Rn | apply Rd)); exact Kd.R_mono HO917.out (fun _ hk => hk.2)⟩, ⟨by repeat (with_reducible first | exact HB.out | apply bA | apply bN | apply bD)⟩⟩
 clear H'
 try clear c1; try clear p2; try clear c6; try clear c6b0; try clear c6b1; try clear p6; try clear c9; try clear p9; try clear q9; try clear hx9; try clear c10; try clear c10b0; try clear c11; try clear c11b0; try clear c12; try clear c12b0; try clear c13; try clear c13b0; try clear c14; try clear c14b0; try clear c17; try clear c17b0; try clear c18; try clear c18b0; try clear hx905_0; try clear hx906_0; try clear hx907_0; try clear hx907_1; try clear hx907_2; try clear hx911_0; try clear p2; try clear p9; try clear p905; try clear p906; try clear p907; try clear p911; try clear q9; try clear q905; try clear q906; try clear q907; try clear q911
 obtain ⟨x10_3, x11_3, rfl, HA, HK3, HO_5, HO_10, HB⟩ := hrel
 obtain _ | k3 := gk
 · exact absurd HA.out (by simp [spec_l3Wants.l3])
 have H := HA.out
 clear HA
 simp only [spec_l3Wants.l3] at H
 by_cases c26 : x11_3 < (x5_2.length : Int)
 · rw [if_pos c26] at H
   have c26b0 : decide (x11_3 < (x5_2.length : Int)) = true := decide_eq_true c26
   clear c26
   by_cases c27 : 0 ≤ x11_3
   · rw [if_pos c27] at H
     have c27b0 : decide (0 ≤ x11_3) = true := decide_eq_true c27
     clear c27
     replace H := Option.bind_eq_some_iff.mp H
     obtain ⟨⟨t919, t920, t921⟩, A280, H⟩ := H
     replace H : (if t921 = true then (spec_l3Wants.l3 k3 l0 x5_2 x10_3 (wrap64 (x11_3 + 1))) else (if x10_3.length < 8796093022208 then (spec_l3Wants.l3 k3 l0 x5_2 (x10_3 ++ [rdOf ByteArray.empty x5_2 x11_3]) (wrap64 (x11_3 + 1))) else (none))) = some r := H
     have A28 := aM A280; clear A280
     by_cases c29 : t921 = true
     · subst c29
       have H1 : (spec_l3Wants.l3 k3 l0 x5_2 x10_3 (wrap64 (x11_3 + 1))) = some r := by rw [if_pos rfl] at H; exact H
       clear H
       have H := H1
       clear H1
       have H' := aM H
       clear H
       obtain ⟨Ao30, co30, eo30⟩ := Kd.R_slice HO_5.out
       subst eo30
       have p918 : 0 ≤ (x11_3 : Int) := oD (by first | with_reducible assumption | assumption)
       have q918 : x11_3 < (x5_2.length : Int) := oD (by first | with_reducible assumption | assumption)
       obtain ⟨ad918, e918, hx918_0⟩ := Kd.at_string (Kd.R_reads' HO_5.out).2.2 x11_3 p918 q918
       cases e918
       replace p918 := eq_true p918; replace q918 := eq_true q918
       go_wp2_with (first | ((with_reducible refine gate_callee (f := 85) rfl ?_); refine goesL_ (some 70) rfl rfl Try.func85 (by kernel_rfl) rfl #[.slice A0 l0.length c0, .string (rdOf ByteArray.empty x5_2 x11_3)] rfl (by (try simp only [List.map_toArray, List.map_cons, List.map_nil]); first | done | rfl) ?_; (with_reducible refine (spec_l3At.calls k3 _ _ l0 (rdOf ByteArray.empty x5_2 x11_3) t919 t920 true _ ?side1 ?side2 A28.out).mono ?_); (case side1 => repeat (first | exact (Kd.C_below HR0.out HB.out) | (with_reducible first | refine Ca ?_ _ | refine Cn ?_ _ | refine Cd ?_))); (case side2 => exact HC0.out); rintro e w' ⟨rfl, ⟨nd, rfl⟩⟩; refine ⟨_, rfl, ?_⟩))
       go_roundg k3
       case measure => have := HJ2.out; have := HK2.out; have := HK3.out; omega
       case rel => exact ⟨(x10_3), (wrap64 (x11_3 + 1)), (by first | rfl | (simp; done) | (simp [*]; done)), H', ⟨by have := HJ2.out; have := HK2.out; have := HK3.out; omega⟩, ⟨by (with_reducible repeat (first | apply Ra | apply Rn | apply Rd)); exact HO_5.out⟩, ⟨by (with_reducible repeat (first | apply Ra | apply Rn | apply Rd)); exact HO_10.out⟩, ⟨by repeat (with_reducible first | exact HB.out | apply bA | apply bN | apply bD)⟩⟩
     replace c29 := Bool.eq_false_iff.mpr c29
     subst c29
     have H1 : (if x10_3.length < 8796093022208 then (spec_l3Wants.l3 k3 l0 x5_2 (x10_3 ++ [rdOf ByteArray.empty x5_2 x11_3]) (wrap64 (x11_3 + 1))) else (none)) = some r := by rw [if_neg (show ¬ (false = true) by decide)] at H; exact H
     clear H
     have H := H1
     clear H1
     by_cases c31 : x10_3.length < 8796093022208
     · rw [if_pos c31] at H; have LMc31 := aM c31; clear c31
       obtain ⟨y923, hy923⟩ : ∃ y_ : List ByteArray, y_ = (x10_3 ++ [rdOf ByteArray.empty x5_2 x11_3]) := ⟨_, rfl⟩
       replace H : (spec_l3Wants.l3 k3 l0 x5_2 y923 (wrap64 (x11_3 + 1))) = some r := by first | (rw [hy923]; with_reducible exact H) | (have H2_ := (Option.bind_some _ _).symm.trans H; rw [hy923]; with_reducible exact H2_) | (have H2_ := (Option.bind_some _ _).symm.trans H; with_reducible exact H2_) | with_reducible exact H | (rw [hy923]; exact H) | exact H
       have Ny923 := aM hy923; clear hy923
       have H' := aM H
       clear H
       obtain ⟨Ao32, co32, eo32⟩ := Kd.R_slice HO_5.out
       subst eo32
       have p918 : 0 ≤ (x11_3 : Int) := oD (by first | with_reducible assumption | assumption)
       have q918 : x11_3 < (x5_2.length : Int) := oD (by first | with_reducible assumption | assumption)
       obtain ⟨ad918, e918, hx918_0⟩ := Kd.at_string (Kd.R_reads' HO_5.out).2.2 x11_3 p918 q918
       cases e918
       replace p918 := eq_true p918; replace q918 := eq_true q918
       go_wp2_with (first | ((with_reducible refine gate_callee (f := 85) rfl ?_); refine goesL_ (some 70) rfl rfl Try.func85 (by kernel_rfl) rfl #[.slice A0 l0.length c0, .string (rdOf ByteArray.empty x5_2 x11_3)] rfl (by (try simp only [List.map_toArray, List.map_cons, List.map_nil]); first | done | rfl) ?_; (with_reducible refine (spec_l3At.calls k3 _ _ l0 (rdOf ByteArray.empty x5_2 x11_3) t919 t920 false _ ?side1 ?side2 A28.out).mono ?_); (case side1 => repeat (first | exact (Kd.C_below HR0.out HB.out) | (with_reducible first | refine Ca ?_ _ | refine Cn ?_ _ | refine Cd ?_))); (case side2 => exact HC0.out); rintro e w' ⟨rfl, ⟨nd, rfl⟩⟩; refine ⟨_, rfl, ?_⟩; have p922 : 0 ≤ (x11_3 : Int) := oD (by first | with_reducible assumption | assumption); have q922 : x11_3 < (x5_2.length : Int) := oD (by first | with_reducible assumption | assumption); obtain ⟨ad922, e922, hx922_0⟩ := Kd.at_string (Kd.R_reads' HO_5.out).2.2 x11_3 p922 q922; obtain rfl : ad918 = ad922 := (by injection e922); replace p922 := eq_true p922; replace q922 := eq_true q922) | ((with_reducible refine gate_builtin (b := .append) (xs := #[.tmp 76, .tmp 81]) rfl ?_); at_builtin; refine Kd.R_append Kd.string (w0 := w) w.heap.size rfl (.tmp 76) (.tmp 81) 33 9 (.string ⟨#[]⟩) 16 rfl Try.underlying33 info9 rfl (by decide) (by omega) u10 x10_3 (rdOf ByteArray.empty x5_2 x11_3) [.string (rdOf ByteArray.empty x5_2 x11_3)] (fun k_ => some k_ ≠ (.slice (some ad918) x5_2.length co32 : Value).ownBlock) (fun _ => False) rfl rfl ?aP (fun _ hk => hk.elim) ?aF ?aO ?aB ?aS ?aL ?_; (case aP => exact rfl); (case aB => exact (by repeat (with_reducible first | exact HB.out | apply bA | apply bN | apply bD))); (case aF => exact (fun k_ hk => Kd.fresh' (Kd.R_lt (by (with_reducible repeat (first | apply Ra | apply Rn | apply Rd)); exact HO_5.out)) k_ hk)); (case aO => exact (by (with_reducible repeat (first | apply Ra | apply Rn | apply Rd)); exact HO_10.out)); (case aS => exact (below_size (by repeat (with_reducible first | exact HB.out | apply bA | apply bN | apply bD)))); (case aL => have := LMc31.out; omega); intro v924 w33 ho hb hg hat; rw [← Ny923.out] at ho; have n0_ := aM (Kd.R_after (ok := (fun _ => True)) (by (with_reducible repeat (first | apply Ra | apply Rn | apply Rd)); exact Kd.R_mono HO_5.out (fun _ hk => ⟨trivial, hk⟩)) hg hat); have n1_ := aM (hb); have n2_ := aM (ho); clear HO_5 HB HO_10; have HO_5 := n0_; have HB := n1_; have HO925 := n2_; clear n0_ n1_ n2_ ho hb hg hat))
       go_roundg k3
       case measure => have := HJ2.out; have := HK2.out; have := HK3.out; omega
       case rel => exact ⟨(y923), (wrap64 (x11_3 + 1)), (by first | rfl | (simp; done) | (simp [*]; done)), H', ⟨by have := HJ2.out; have := HK2.out; have := HK3.out; omega⟩, ⟨by (with_reducible repeat (first | apply Ra | apply Rn | apply Rd)); exact Kd.R_mono HO_5.out (fun _ hk => hk.2)⟩, ⟨by (with_reducible repeat (first | apply Ra | apply Rn | apply Rd)); exact HO925.out⟩, ⟨by repeat (with_reducible first | exact HB.out | apply bA | apply bN | apply bD)⟩⟩
     rw [if_neg c31] at H
     exact absurd H (by simp)
   rw [if_neg c27] at H
   exact absurd H (by simp)
 rw [if_neg c26] at H
 have c26b0 : decide (x11_3 < (x5_2.length : Int)) = false := decide_eq_false c26
 clear c26
 obtain rfl := Option.some.inj H
 obtain ⟨Ao34, co34, eo34⟩ := Kd.R_slice HO_5.out
 subst eo34
 go_wp2
 go_ret
 exact ⟨_, by first | rfl | (simp [*, errW_none, errW_some] <;> rfl), by (with_reducible repeat (first | apply Ra | apply Rn | apply Rd)); exact Kd.R_mono HO_10.out (fun _ hk => trivial), by repeat (with_reducible first | exact HB.out | apply bA | apply bN | apply bD)⟩
def spec_PickWants.f (k : Nat) (l0 : List (List (S30))) : Option (List ByteArray) := (spec_l3Ok.f k l0 8).bind fun t926 => (if t926 = true then ((spec_l3Wants.f k l0 (⟨#[]⟩ : ByteArray)).bind fun t927 => (some t927)) else (some (([] : List ByteArray))))
set_option maxHeartbeats 8000000 in
set_option maxRecDepth 100000 in
theorem spec_PickWants.calls (k : Nat) (A0 : Option Addr) (c0 : Nat) (l0 : List (List (S30))) (r : List ByteArray) (w : World) (hr0 : Kd.C (Kd.slice 30 k30) w A0 l0.length l0) (hc0 : l0.length ≤ c0) (h : spec_PickWants.f k l0 = some r) :
    Calls Try.prog 41 #[.slice A0 l0.length c0] w fun e w' => ∃ v0_ : Value, e = .returned (v0_) ∧ Kd.R Kd.string 9 w' w.heap.size (fun _ => True) v0_ r ∧ Below w.heap.size w w' := by
 have HR0 := aM hr0; have HC0 := aM hc0; clear hr0 hc0
 have HB := aM (Below.refl w.heap.size w)
 have H : ((spec_l3Ok.f k l0 8).bind fun t926 => (if t926 = true then ((spec_l3Wants.f k l0 (⟨#[]⟩ : ByteArray)).bind fun t927 => (some t927)) else (some (([] : List ByteArray))))) = some r := h
 clear h
 replace H := Option.bind_eq_some_iff.mp H
 obtain ⟨t926, A20, H⟩ := H
 replace H : (if t926 = true then ((spec_l3Wants.f k l0 (⟨#[]⟩ : ByteArray)).bind fun t927 => (some t927)) else (some (([] : List ByteArray)))) = some r := H
 have A2 := aM A20; clear A20
 by_cases c3 : t926 = true
 · subst c3
   have H1 : ((spec_l3Wants.f k l0 (⟨#[]⟩ : ByteArray)).bind fun t927 => (some t927)) = some r := by rw [if_pos rfl] at H; exact H
   clear H
   have H := H1
   clear H1
   replace H := Option.bind_eq_some_iff.mp H
   obtain ⟨t927, A40, H⟩ := H
   replace H : (some t927) = some r := H
   have A4 := aM A40; clear A40
   obtain rfl := Option.some.inj H
   go_enter Try.func41, Try.ntmps41
   go_wp2_with (first | ((with_reducible refine gate_callee (f := 84) rfl ?_); refine goesL_ (some 4) rfl rfl Try.func84 (by kernel_rfl) rfl #[.slice A0 l0.length c0, .int .i64 8] rfl (by (try simp only [List.map_toArray, List.map_cons, List.map_nil]); first | done | rfl) ?_; (with_reducible refine (spec_l3Ok.calls k _ _ l0 8 true _ ?side1 ?side2 A2.out).mono ?_); (case side1 => repeat (first | exact HR0.out | (with_reducible first | refine Ca ?_ _ | refine Cn ?_ _ | refine Cd ?_))); (case side2 => exact HC0.out); rintro e w5 ⟨rfl, hb⟩; refine ⟨_, rfl, ?_⟩; have n0_ := aM (below_step (by repeat (with_reducible first | exact HB.out | apply bA | apply bN | apply bD)) hb); clear HB; have HB := n0_; clear n0_) | ((with_reducible refine gate_callee (f := 91) rfl ?_); refine goesL_ (some 8) rfl rfl Try.func91 (by kernel_rfl) rfl #[.slice A0 l0.length c0, .string (⟨#[]⟩ : ByteArray)] rfl (by (try simp only [List.map_toArray, List.map_cons, List.map_nil]); first | done | rfl) ?_; (with_reducible refine (spec_l3Wants.calls k _ _ l0 (⟨#[]⟩ : ByteArray) t927 _ ?side1 ?side2 A4.out).mono ?_); (case side1 => repeat (first | exact (Kd.C_below HR0.out HB.out) | (with_reducible first | refine Ca ?_ _ | refine Cn ?_ _ | refine Cd ?_))); (case side2 => exact HC0.out); rintro e w6 ⟨v928, rfl, ho0, hb⟩; refine ⟨_, rfl, ?_⟩; have n0_ := aM (Kd.R_lower ho0 (below_size (by repeat (with_reducible first | exact HB.out | apply bA | apply bN | apply bD)))); have n1_ := aM (below_step (by repeat (with_reducible first | exact HB.out | apply bA | apply bN | apply bD)) hb); clear HB; have HO929 := n0_; have HB := n1_; clear n0_ n1_; (try clear ho0)))
   go_ret
   exact ⟨_, by first | rfl | (simp [*, errW_none, errW_some] <;> rfl), by (with_reducible repeat (first | apply Ra | apply Rn | apply Rd)); exact HO929.out, by repeat (with_reducible first | exact HB.out | apply bA | apply bN | apply bD)⟩
 replace c3 := Bool.eq_false_iff.mpr c3
 subst c3
 have H1 : (some (([] : List ByteArray))) = some r := by rw [if_neg (show ¬ (false = true) by decide)] at H; exact H
 clear H
 have H := H1
 clear H1
 obtain ⟨y930, hy930⟩ : ∃ y_ : List ByteArray, y_ = (([] : List ByteArray)) := ⟨_, rfl⟩
 replace H : (some y930) = some r := by first | (rw [hy930]; with_reducible exact H) | (have H2_ := (Option.bind_some _ _).symm.trans H; rw [hy930]; with_reducible exact H2_) | (have H2_ := (Option.bind_some _ _).symm.trans H; with_reducible exact H2_) | with_reducible exact H | (rw [hy930]; exact H) | exact H
 have Ny930 := aM hy930; clear hy930
 obtain rfl := Option.some.inj H
 go_enter Try.func41, Try.ntmps41
 go_wp2_with (first | ((with_reducible refine gate_callee (f := 84) rfl ?_); refine goesL_ (some 4) rfl rfl Try.func84 (by kernel_rfl) rfl #[.slice A0 l0.length c0, .int .i64 8] rfl (by (try simp only [List.map_toArray, List.map_cons, List.map_nil]); first | done | rfl) ?_; (with_reducible refine (spec_l3Ok.calls k _ _ l0 8 false _ ?side1 ?side2 A2.out).mono ?_); (case side1 => repeat (first | exact HR0.out | (with_reducible first | refine Ca ?_ _ | refine Cn ?_ _ | refine Cd ?_))); (case side2 => exact HC0.out); rintro e w7 ⟨rfl, hb⟩; refine ⟨_, rfl, ?_⟩; have n0_ := aM (below_step (by repeat (with_reducible first | exact HB.out | apply bA | apply bN | apply bD)) hb); clear HB; have HB := n0_; clear n0_) | ((with_reducible refine gate_dst (N := 6) rfl ?_); refine Kd.R_lit Kd.string _ 9 ?hg (N := 6) ?hd (xs := ([] : List ByteArray)) (inner := []) (ok := fun _ => True) (okp := fun _ => True) ?hr ?hp (fun _ hk => hk) trivial (Below.refl _ _) (Nat.le_refl _) (by simp) ?_; (case hd => rfl); (case hg => rfl); (case hr => first | (go_simp; done) | (go_simp; rfl)); (case hp => exact (Reps.none _ _)); intro v931 w8 ho9 hb hg_ hnew_; clear hg_ hnew_; (first | rw [← Ny930.out] at ho9 | (simp only [Int.reduceToNat] at ho9; rw [← Ny930.out] at ho9)); have n0_ := aM (Kd.R_lower ho9 (below_size (by repeat (with_reducible first | exact HB.out | apply bA | apply bN | apply bD)))); have n1_ := aM (below_step (by repeat (with_reducible first | exact HB.out | apply bA | apply bN | apply bD)) hb); clear HB; have HO932 := n0_; have HB := n1_; clear n0_ n1_ hb ho9))
 go_ret
 exact ⟨_, by first | rfl | (simp [*, errW_none, errW_some] <;> rfl), by (with_reducible repeat (first | apply Ra | apply Rn | apply Rd)); exact HO932.out, by repeat (with_reducible first | exact HB.out | apply bA | apply bN | apply bD)⟩
end Go.Proofs.Ytpckkkcaffhhnaa.P
