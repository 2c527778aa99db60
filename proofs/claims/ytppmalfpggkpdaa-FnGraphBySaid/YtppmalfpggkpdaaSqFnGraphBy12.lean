-- put together by squash.py
import Derived.Test.YtppmalfpggkpdaaSqFnGraphBy3
import Derived.Test.YtppmalfpggkpdaaSqFnGraphBy7
import Derived.Test.YtppmalfpggkpdaaSqFnGraphBy8
import Derived.Test.YtppmalfpggkpdaaSqFnGraphBy11
import Derived.Test.YtppmalfpggkpdaaSqFnGraphBy5
import Derived.Test.YtppmalfpggkpdaaSqFnGraphBy6
import Derived.Test.YtppmalfpggkpdaaSqFnGraphBy4
import Derived.Test.YtppmalfpggkpdaaSqFnGraphBy9
set_option linter.unusedVariables false
set_option linter.unusedSimpArgs false

namespace Go.Proofs.Ytppmalfpggkpdaa.P
open Go.RowKit Go.Proofs.YtppmalfpggkpdaaW.PrintWords Go.Proofs.YtppmalfpggkpdaaW.PrintLast Go.Proofs.YtppmalfpggkpdaaW.PrintMore
attribute [local go_sem] max2_int min2_int max_two min_two max_three min_three max_four min_four
def spec_DrawKeepReach.j0 : Nat → List (S52) → Bool → List Int → Int → Option ((List (S52)) × ByteArray)
  | 0, _, _, _, _ => none
  | k + 1, x5, x17, x1125000, x1125001 => if x17 = true then ((spec_l13Rd_pick.f k x1125000 x1125001 (x5.length : Int)).bind fun bt1131 => (if 0 ≤ bt1131.1 then (if bt1131.1 < (x5.length : Int) then (some (x5, (rd_T52 x5 bt1131.1).f0)) else (none)) else (none))) else ((spec_l1Name.f k x1125000 x1125001).bind fun bt1134 => (some (x5, bt1134.1)))
def spec_DrawKeepReach.f (k : Nat) (l0 : List Int) : Option ((List (S52)) × ByteArray) := (spec_l13Open.f l0).bind fun bt1122 => ((spec_l4Bent.f k bt1122.1 bt1122.2).bind fun bt1125 => (if (bt1125.1.length : Int) > 0 then ((spec_l13Rd_pick.f k bt1122.1 bt1125.2 4).bind fun bt1129 => (spec_DrawKeepReach.j0 k bt1125.1 (decide (bt1129.1 > 0)) bt1122.1 bt1129.2)) else (spec_DrawKeepReach.j0 k bt1125.1 false bt1122.1 bt1125.2)))
def spec_DrawKeepReach.T4 : Bool × List (List Nat × List Nat) := (true, [([], []), ([], []), ([], []), ([], []), ([3], [3]), ([2, 4], [2, 4]), ([1, 5], [1, 5]), ([6], [6]), ([7], [7]), ([0, 5, 0], [0]), ([8, 9, 0, 1, 2, 3, 4, 5, 6, 7, 8, 9], [8])])
def spec_DrawKeepReach.B4 : List Nat := [0, 0, 0, 0, 8, 28, 62, 126, 254, 61, 1023]
theorem spec_DrawKeepReach.tab4 : rtab .any (opsOf Try.f94 4) = spec_DrawKeepReach.T4 := by kernel_rfl
theorem spec_DrawKeepReach.bits4 : waitsOk spec_DrawKeepReach.T4.2 spec_DrawKeepReach.B4 = true := by kernel_rfl
set_option maxHeartbeats 8000000 in
set_option maxRecDepth 100000 in
theorem spec_DrawKeepReach.calls (k : Nat) (A0 : Option Addr) (c0 : Nat) (l0 : List Int) (r1 : List (S52)) (r2 : ByteArray) (w : World) (hr0 : Kd.C (Kd.int .u8) w A0 l0.length l0) (hc0 : l0.length ≤ c0) (h : spec_DrawKeepReach.f k l0 = some (r1, r2)) :
    Calls Try.prog 94 #[.slice A0 l0.length c0] w fun e w' => ∃ v0_ : Value, e = .returned (.tuple #[v0_, .string r2]) ∧ Kd.N k52 52 w' w.heap.size (fun k_ => (w.heap.size ≤ k_)) v0_ r1 ∧ Below w.heap.size w w' := by
 have HR0 := aM hr0; have HC0 := aM hc0; clear hr0 hc0
 have HB := aM (Below.refl w.heap.size w)
 have H : ((spec_l13Open.f l0).bind fun bt1122 => ((spec_l4Bent.f k bt1122.1 bt1122.2).bind fun bt1125 => (if (bt1125.1.length : Int) > 0 then ((spec_l13Rd_pick.f k bt1122.1 bt1125.2 4).bind fun bt1129 => (spec_DrawKeepReach.j0 k bt1125.1 (decide (bt1129.1 > 0)) bt1122.1 bt1129.2)) else (spec_DrawKeepReach.j0 k bt1125.1 false bt1122.1 bt1125.2)))) = some (r1, r2) := h
 clear h
 replace H := Option.bind_eq_some_iff.mp H
 obtain ⟨⟨t1122, t1123⟩, A20, H⟩ := H
 replace H : ((spec_l4Bent.f k t1122 t1123).bind fun bt1125 => (if (bt1125.1.length : Int) > 0 then ((spec_l13Rd_pick.f k t1122 bt1125.2 4).bind fun bt1129 => (spec_DrawKeepReach.j0 k bt1125.1 (decide (bt1129.1 > 0)) t1122 bt1129.2)) else (spec_DrawKeepReach.j0 k bt1125.1 false t1122 bt1125.2))) = some (r1, r2) := H
 have A2 := aM A20; clear A20
 replace H := Option.bind_eq_some_iff.mp H
 obtain ⟨⟨t1125, t1128⟩, A30, H⟩ := H
 replace H : (if (t1125.length : Int) > 0 then ((spec_l13Rd_pick.f k t1122 t1128 4).bind fun bt1129 => (spec_DrawKeepReach.j0 k t1125 (decide (bt1129.1 > 0)) t1122 bt1129.2)) else (spec_DrawKeepReach.j0 k t1125 false t1122 t1128)) = some (r1, r2) := H
 have A3 := aM A30; clear A30; have HC4 := aM H; clear H
 go_enter Try.func94, Try.ntmps94
 go_upto_region 3 with (first | ((with_reducible refine gate_callee (f := 64) rfl ?_); refine goesL_ (some 7) rfl rfl Try.func64 (by kernel_rfl) rfl #[.slice A0 l0.length c0] rfl (by (try simp only [List.map_toArray, List.map_cons, List.map_nil]); first | done | rfl) ?_; (with_reducible refine (spec_l13Open.calls _ _ l0 t1122 t1123 w _ ?side1 ?side2 ?side3 A2.out).mono ?_); (case side1 => repeat (with_reducible first | exact HB.out | apply bA | apply bN | apply bD)); (case side2 => exact HR0.out); (case side3 => exact HC0.out); rintro e w5 ⟨g1124, rfl, hi, hb, hb2⟩; refine ⟨_, rfl, ?_⟩; have n0_ := aM (hb); have n1_ := aM (hi); clear HB; have HB := n0_; have HI1124 := n1_; clear n0_ n1_) | ((with_reducible refine gate_callee (f := 146) rfl ?_); refine goesL_ (some 9) rfl rfl Try.func146 (by kernel_rfl) rfl #[.pointer (some ⟨g1124, 0, none⟩)] rfl (by (try simp only [List.map_toArray, List.map_cons, List.map_nil]); first | done | rfl) ?_; (with_reducible refine (spec_l4Bent.calls k g1124 t1122 t1123 t1125 t1128 w _ ?side1 ?side2 A3.out).mono ?_); (case side1 => repeat (with_reducible first | exact HI1124.out | apply IsS134.alloc | apply IsS134.drewN | apply IsS134.drew | apply IsS134.set_1)); (case side2 => repeat (with_reducible first | exact HB.out | apply bA | apply bN | apply bD | refine below_set ?_ (IsS134.ge HI1124.out))); rintro e w6 ⟨v1126, rfl, ho0, hi, hb, hk⟩; refine ⟨_, rfl, ?_⟩; have n0_ := aM (Kd.N_lower (Kd.N_mono (ok' := fun k_ => (w.heap.size ≤ k_) ∧ k_ ≠ g1124) ho0 (fun k_ hk_ => ⟨(Nat.le_trans (below_size (by repeat (with_reducible first | exact HB.out | apply bA | apply bN | apply bD | refine below_set ?_ (IsS134.ge HI1124.out)))) hk_), (IsS134.fresh (by repeat (with_reducible first | exact HI1124.out | apply IsS134.alloc | apply IsS134.drewN | apply IsS134.drew | apply IsS134.set_1)) k_ hk_)⟩)) (below_size (by repeat (with_reducible first | exact HB.out | apply bA | apply bN | apply bD | refine below_set ?_ (IsS134.ge HI1124.out))))); have n1_ := aM (hb); have n2_ := aM (hi); clear HB HI1124; have HO1127 := n0_; have HB := n1_; have HI1124 := n2_; clear n0_ n1_ n2_; (try clear ho0)))
 (try simp only [Act.put, List.setIfInBounds_toArray, List.set_cons_zero, List.set_cons_succ])
 go_cut [17] (fun v17 wc => ∃ (kq : Nat) (x17_3 : Bool) (x1125001_3 : Int), v17 = .bool x17_3 ∧ Aside0 (spec_DrawKeepReach.j0 kq t1125 x17_3 t1122 x1125001_3 = some (r1, r2)) ∧ Aside0 (kq ≤ k) ∧ Aside0 (Kd.N k52 52 wc w.heap.size (fun k_ => (w.heap.size ≤ k_) ∧ k_ ≠ g1124) v1126 t1125) ∧ Aside0 (IsS134 w wc g1124 t1122 x1125001_3) ∧ Aside0 (Below w.heap.size w wc))
 case first =>
  have H := HC4.out
  clear HC4
  by_cases c7 : (t1125.length : Int) > 0
  · rw [if_pos c7] at H
    have c7b0 : decide (0 < (t1125.length : Int)) = true := decide_eq_true c7
    have c7b1 : decide (0 < t1125.length) = true := decide_eq_true (by omega)
    clear c7
    (first | rw [c7b0] | (simp only [i64_w, i32_w]; rw [c7b0]) | (have cn_ := c7b0; simp only [bne] at cn_; rw [cn_]; clear cn_) | skip)
    replace H := Option.bind_eq_some_iff.mp H
    obtain ⟨⟨t1129, t1130⟩, A80, H⟩ := H
    replace H : (spec_DrawKeepReach.j0 k t1125 (decide (t1129 > 0)) t1122 t1130) = some (r1, r2) := H
    have A8 := aM A80; clear A80
    have H' := aM H
    clear H
    obtain ⟨Ao9, co9, eo9⟩ := Kd.N_slice HO1127.out
    subst eo9
    go_wp2_with (first | (go_at_call 121; (with_reducible refine (spec_l13Rd_pick.calls k g1124 t1122 t1128 4 t1129 t1130 w _ ?side1 ?side2 A8.out).mono ?_); (case side1 => repeat (with_reducible first | exact HI1124.out | apply IsS134.alloc | apply IsS134.drewN | apply IsS134.drew | apply IsS134.set_1)); (case side2 => repeat (with_reducible first | exact HB.out | apply bA | apply bN | apply bD | refine below_set ?_ (IsS134.ge HI1124.out))); rintro e w10 ⟨rfl, hi, hb, hk⟩; have n0_ := aM (Kd.N_mono (Kd.N_keep (Kd.N_mono (ok := fun k_ => (((w.heap.size ≤ k_)) ∧ k_ ≠ g1124)) (by (with_reducible repeat (first | apply Na | apply Nn | apply Nd)); exact HO1127.out) (fun k_ hk_ => (⟨hk_, hk_.2⟩ : _ ∧ k_ ≠ g1124))) hk (fun _ h => h.2)) (fun _ h => h.1)); have n1_ := aM (hb); have n2_ := aM (hi); clear HO1127 HB HI1124; have HO1127 := n0_; have HB := n1_; have HI1124 := n2_; clear n0_ n1_ n2_))
    go_meet
    case rel => exact ⟨_, (decide (t1129 > 0)), (t1130), (by first | rfl | (simp; done) | (simp [*]; done)), H', ⟨by first | omega | exact Nat.le_refl _⟩, ⟨by (with_reducible repeat (first | apply Na | apply Nn | apply Nd)); exact HO1127.out⟩, ⟨by repeat (with_reducible first | exact HI1124.out | apply IsS134.alloc | apply IsS134.drewN | apply IsS134.drew | apply IsS134.set_1)⟩, ⟨by repeat (with_reducible first | exact HB.out | apply bA | apply bN | apply bD | refine below_set ?_ (IsS134.ge HI1124.out))⟩⟩
  rw [if_neg c7] at H
  have c7b0 : decide (0 < (t1125.length : Int)) = false := decide_eq_false c7
  have c7b1 : decide (0 < t1125.length) = false := decide_eq_false (by omega)
  clear c7
  (first | rw [c7b0] | (simp only [i64_w, i32_w]; rw [c7b0]) | (have cn_ := c7b0; simp only [bne] at cn_; rw [cn_]; clear cn_) | skip)
  have H' := aM H
  clear H
  obtain ⟨Ao11, co11, eo11⟩ := Kd.N_slice HO1127.out
  subst eo11
  go_wp2
  go_meet
  case rel => exact ⟨_, (false), (t1128), (by first | rfl | (simp; done) | (simp [*]; done)), H', ⟨by first | omega | exact Nat.le_refl _⟩, ⟨by (with_reducible repeat (first | apply Na | apply Nn | apply Nd)); exact HO1127.out⟩, ⟨by repeat (with_reducible first | exact HI1124.out | apply IsS134.alloc | apply IsS134.drewN | apply IsS134.drew | apply IsS134.set_1)⟩, ⟨by repeat (with_reducible first | exact HB.out | apply bA | apply bN | apply bD | refine below_set ?_ (IsS134.ge HI1124.out))⟩⟩
 clear HC4; try clear c1; try clear p2; try clear c6; try clear c7; try clear c7b0; try clear c7b1; try clear c9
 obtain ⟨kq, x17_3, x1125001_3, rfl, HA, HJ3, HO_5, HI1124, HB⟩ := hcut
 obtain _ | kj3 := kq
 · exact absurd HA.out (by simp [spec_DrawKeepReach.j0])
 have H := HA.out
 clear HA
 simp only [spec_DrawKeepReach.j0] at H
 by_cases c12 : x17_3 = true
 · subst c12
   have H1 : ((spec_l13Rd_pick.f kj3 t1122 x1125001_3 (t1125.length : Int)).bind fun bt1131 => (if 0 ≤ bt1131.1 then (if bt1131.1 < (t1125.length : Int) then (some (t1125, (rd_T52 t1125 bt1131.1).f0)) else (none)) else (none))) = some (r1, r2) := by rw [if_pos rfl] at H; exact H
   clear H
   have H := H1
   clear H1
   replace H := Option.bind_eq_some_iff.mp H
   obtain ⟨⟨t1131, t1132⟩, A130, H⟩ := H
   replace H : (if 0 ≤ t1131 then (if t1131 < (t1125.length : Int) then (some (t1125, (rd_T52 t1125 t1131).f0)) else (none)) else (none)) = some (r1, r2) := H
   have A13 := aM A130; clear A130
   by_cases c14 : 0 ≤ t1131
   · rw [if_pos c14] at H
     have c14b0 : decide (0 ≤ t1131) = true := decide_eq_true c14
     clear c14
     by_cases c15 : t1131 < (t1125.length : Int)
     · rw [if_pos c15] at H
       have c15b0 : decide (t1131 < (t1125.length : Int)) = true := decide_eq_true c15
       clear c15
       simp only [Option.some.injEq, Prod.mk.injEq] at H
       obtain ⟨rfl, rfl⟩ := H
       try go_wp2
       have n0_ := aM (Kd.N_drew HO_5.out)
       have n1_ := aM (IsS134.drew HI1124.out)
       have n2_ := aM (below_drew1 HB.out)
       clear HO_5 HI1124 HB
       have HO_5 := n0_
       have HI1124 := n1_
       have HB := n2_
       clear n0_ n1_ n2_
       obtain ⟨Ao17, co17, eo17⟩ := Kd.N_slice HO_5.out
       (first | subst eo17 | (injection eo17 with f1_ f2_ f3_; have f4_ := f1_.symm; have f5_ := f3_.symm; clear f1_ f2_ f3_; subst f4_; subst f5_))
       have p1133 : 0 ≤ (t1131 : Int) := oD (by first | with_reducible assumption | assumption)
       have q1133 : t1131 < (t1125.length : Int) := oD (by first | with_reducible assumption | assumption)
       obtain ⟨ad1133, A1133_2, c1133_2, e1133, hx1133_0, hx1133_1, hx1133_2, hl1133_2, hi1133_2⟩ := at_T52 (Kd.N_reads' HO_5.out).2.2 t1131 p1133 q1133
       cases e1133
       obtain ⟨ce1133, hce1133, hMe1133, hcc1133⟩ := Kd.N_get HO_5.out z52 t1131 p1133 (by first | exact q1133 | exact oD (by first | with_reducible assumption | assumption) | (have e_ := (Kd.N_reads' HO_5.out).1; omega))
       obtain ⟨ua1133_2, uc1133_2, rfl, ul1133_2, ge1133_2⟩ := k52_openF hMe1133
       have hv1133_2 := hcc1133 2 _ rfl
       rw [add_field _ _ 2 (by omega)] at hv1133_2
       replace hv1133_2 := Option.some.inj (hv1133_2.symm.trans hx1133_2)
       injection hv1133_2 with hva_ hvn_ hvc_
       rw [hva_] at ge1133_2
       rw [hvc_] at ul1133_2
       have HL1133_2 := aM (show Kd.V k110 110 _ w.heap.size _ _ ((rd_T52 t1125 t1131).f2) from Kd.V_mk ul1133_2 ge1133_2)
       clear hva_ hvn_ hvc_ ge1133_2 ul1133_2 hcc1133 hce1133; have HR1133_2 := aM hi1133_2; have HC1133_2 := aM hl1133_2; clear hi1133_2 hl1133_2; replace p1133 := eq_true p1133; replace q1133 := eq_true q1133
       refine start_ (n := 11) (S := fun w' => w'.cell? (ad1133.add ((t1131).toNat * 3)) = some (.string ((rd_T52 t1125 t1131).f0)) ∧ w'.cell? ⟨(ad1133.add ((t1131).toNat * 3)).block, (ad1133.add ((t1131).toNat * 3)).off + 1, none⟩ = some (.bool ((rd_T52 t1125 t1131).f1)) ∧ w'.cell? ⟨(ad1133.add ((t1131).toNat * 3)).block, (ad1133.add ((t1131).toNat * 3)).off + 2, none⟩ = some (.slice A1133_2 ((rd_T52 t1125 t1131).f2).length c1133_2)) (ds := []) #[false, false, false, false, false, false, false, false, false, false, false] (by kernel_rfl) rfl rfl ⟨hx1133_0, hx1133_1, hx1133_2⟩ (fun hHeld => ?_); refine with_tabW spec_DrawKeepReach.tab4 spec_DrawKeepReach.bits4 (fun HT_ HW_ => ?_)
       generalize wc.drew = w16 at HO_5 HI1124 HB HL1133_2 HR1133_2 hx1133_0 hx1133_1 hx1133_2 hHeld ⊢
       refine pure_ (i := 0) (N := some 18) (v := ?_) (a' := ?_) #[true, false, false, false, false, false, false, false, false, false, false] rfl rfl (any_of HT_.out (by kernel_rfl)) (fun _ _ _ h => h) (Or.inl ⟨by rfl, ?_⟩) ?_ ?_
       rotate_left
       · intro w'
         go_simp
         with_reducible rfl
       rotate_left
       · simp only [Act.put, List.setIfInBounds_toArray, List.set_cons_zero, List.set_cons_succ, i64_w, i32_w]
         rfl
       refine pure_ (i := 1) (N := some 19) (v := ?_) (a' := ?_) #[true, true, false, false, false, false, false, false, false, false, false] rfl rfl (any_of HT_.out (by kernel_rfl)) (fun _ _ _ h => h) (Or.inl ⟨by rfl, ?_⟩) ?_ ?_
       rotate_left
       · intro w'
         go_simp
         with_reducible rfl
       rotate_left
       · simp only [Act.put, List.setIfInBounds_toArray, List.set_cons_zero, List.set_cons_succ, i64_w, i32_w]
         rfl
       refine pure_ (i := 2) (N := some 20) (v := ?_) (a' := ?_) #[true, true, true, false, false, false, false, false, false, false, false] rfl rfl (any_of HT_.out (by kernel_rfl)) (fun _ _ _ h => h) (Or.inl ⟨by rfl, ?_⟩) ?_ ?_
       rotate_left
       · intro w'
         go_simp
         with_reducible rfl
       rotate_left
       · simp only [Act.put, List.setIfInBounds_toArray, List.set_cons_zero, List.set_cons_succ, i64_w, i32_w]
         rfl
       refine pure_ (i := 3) (N := some 21) (v := ?_) (a' := ?_) #[true, true, true, true, false, false, false, false, false, false, false] rfl rfl (any_of HT_.out (by kernel_rfl)) (fun _ _ _ h => h) (Or.inl ⟨by rfl, ?_⟩) ?_ ?_
       rotate_left
       · intro w'
         go_simp
         with_reducible rfl
       rotate_left
       · simp only [Act.put, List.setIfInBounds_toArray, List.set_cons_zero, List.set_cons_succ, i64_w, i32_w]
         rfl
       refine pure_ (i := 4) (N := some 22) (v := ?_) (a' := ?_) #[true, true, true, true, true, false, false, false, false, false, false] rfl rfl (any_of HT_.out (by kernel_rfl)) (fun _ _ _ h => h) (Or.inl ⟨by rfl, ?_⟩) ?_ ?_
       rotate_left
       · intro w'
         go_simp
         with_reducible rfl
       rotate_left
       · simp only [Act.put, List.setIfInBounds_toArray, List.set_cons_zero, List.set_cons_succ, i64_w, i32_w]
         rfl
       refine one_ (i := 5) (N := some 23) #[true, true, true, true, true, true, false, false, false, false, false] rfl rfl (one_of HT_.out (by kernel_rfl)) (by decide) (fun K hK => ?_)
       refine goes_ Try.func121 (by kernel_rfl) rfl #[.pointer (some ⟨g1124, 0, none⟩), .int .i64 (t1125.length : Int)] (by rfl) rfl rfl (by (try simp only [List.map_toArray, List.map_cons, List.map_nil]); first | done | rfl) ?_
       with_reducible refine (spec_l13Rd_pick.calls kj3 g1124 t1122 x1125001_3 (t1125.length : Int) t1131 t1132 w _ ?side1 ?side2 A13.out).mono ?_
       (case side1 => repeat (with_reducible first | exact HI1124.out | apply IsS134.alloc | apply IsS134.drewN | apply IsS134.drew | apply IsS134.set_1))
       (case side2 => repeat (with_reducible first | exact HB.out | apply bA | apply bN | apply bD | refine below_set ?_ (IsS134.ge HI1124.out)))
       rintro e w18 ⟨rfl, hi, hb, hk⟩
       have HS0_ := keep_cell hk (hHeld.1) (by first | (rw [add_block]; exact Kd.own_blk (IsS134.own_neN HI1124.out HO_5.out (by decide))) | (show (Addr.add _ _).block ≠ _; rw [add_block]; exact Kd.own_blk (IsS134.own_neN HI1124.out HO_5.out (by decide))) | exact Kd.own_blk (IsS134.own_neN HI1124.out HO_5.out (by decide)))
       have HS1_ := keep_cell hk (hHeld.2.1) (by first | (rw [add_block]; exact Kd.own_blk (IsS134.own_neN HI1124.out HO_5.out (by decide))) | (show (Addr.add _ _).block ≠ _; rw [add_block]; exact Kd.own_blk (IsS134.own_neN HI1124.out HO_5.out (by decide))) | exact Kd.own_blk (IsS134.own_neN HI1124.out HO_5.out (by decide)))
       have HS2_ := keep_cell hk (hHeld.2.2) (by first | (rw [add_block]; exact Kd.own_blk (IsS134.own_neN HI1124.out HO_5.out (by decide))) | (show (Addr.add _ _).block ≠ _; rw [add_block]; exact Kd.own_blk (IsS134.own_neN HI1124.out HO_5.out (by decide))) | exact Kd.own_blk (IsS134.own_neN HI1124.out HO_5.out (by decide)))
       refine ⟨_, rfl, ?_⟩
       have n0_ := aM (Kd.N_mono (Kd.N_keep (Kd.N_mono (ok := fun k_ => (((w.heap.size ≤ k_)) ∧ k_ ≠ g1124)) (by (with_reducible repeat (first | apply Na | apply Nn | apply Nd)); exact HO_5.out) (fun k_ hk_ => (⟨hk_, hk_.2⟩ : _ ∧ k_ ≠ g1124))) hk (fun _ h => h.2)) (fun _ h => h.1))
       have n1_ := aM (hb)
       have n2_ := aM (hi)
       clear HO_5 HB HI1124
       have HO_5 := n0_
       have HB := n1_
       have HI1124 := n2_
       clear n0_ n1_ n2_
       refine hK.out _ _ ⟨HS0_, HS1_, HS2_⟩ (fun hHeld => ?_)
       clear hK K
       refine norm_ (a' := ?_) ?_ ?_
       rotate_left
       · show Act.put _ (some 23) _ = _
         simp only [Act.put, List.setIfInBounds_toArray, List.set_cons_zero, List.set_cons_succ, i64_w, i32_w]
         rfl
       refine pure_ (i := 6) (N := some 24) (v := ?_) (a' := ?_) #[true, true, true, true, true, true, true, false, false, false, false] rfl rfl (any_of HT_.out (by kernel_rfl)) (fun _ _ _ h => h) (Or.inl ⟨by rfl, ?_⟩) ?_ ?_
       rotate_left
       · intro w'
         go_simp
         with_reducible rfl
       rotate_left
       · simp only [Act.put, List.setIfInBounds_toArray, List.set_cons_zero, List.set_cons_succ, i64_w, i32_w]
         rfl
       refine pure_ (i := 7) (N := some 25) (v := ?_) (a' := ?_) #[true, true, true, true, true, true, true, true, false, false, false] rfl rfl (any_of HT_.out (by kernel_rfl)) (fun _ _ _ h => h) (Or.inl ⟨by rfl, ?_⟩) ?_ ?_
       rotate_left
       · intro w'
         go_simp
         with_reducible rfl
       rotate_left
       · simp only [Act.put, List.setIfInBounds_toArray, List.set_cons_zero, List.set_cons_succ, i64_w, i32_w]
         rfl
       refine pure_ (i := 9) (N := some 2) (v := ?_) (a' := ?_) #[true, true, true, true, true, true, true, true, false, true, false] rfl rfl (any_of HT_.out (by kernel_rfl)) (fun _ _ _ h => h) (Or.inl ⟨by rfl, ?_⟩) ?_ ?_
       rotate_left
       · intro w'
         go_simp
         with_reducible rfl
       rotate_left
       · simp only [Act.put, List.setIfInBounds_toArray, List.set_cons_zero, List.set_cons_succ, i64_w, i32_w]
         rfl
       refine take_ (i := 8) (N := some 26) (v := ?_) (a' := ?_) #[true, true, true, true, true, true, true, true, true, true, false] rfl rfl (take_ofW HT_.out HW_.out (by kernel_rfl)) (fun _ _ _ h => h) (Or.inl ⟨by rfl, ?_⟩) hHeld ?_ ?_
       rotate_left
       · rintro w' ⟨s0, s1, s2⟩
         go_simp
         with_reducible rfl
       rotate_left
       · simp only [Act.put, List.setIfInBounds_toArray, List.set_cons_zero, List.set_cons_succ, i64_w, i32_w]
         rfl
       refine pure_ (i := 10) (N := some 3) (v := ?_) (a' := ?_) #[true, true, true, true, true, true, true, true, true, true, true] rfl rfl (any_of HT_.out (by kernel_rfl)) (fun _ _ _ h => h) (Or.inl ⟨by rfl, ?_⟩) ?_ ?_
       rotate_left
       · intro w'
         go_simp
         with_reducible rfl
       rotate_left
       · simp only [Act.put, List.setIfInBounds_toArray, List.set_cons_zero, List.set_cons_succ, i64_w, i32_w]
         rfl
       refine done_ (done_of HT_.out (by kernel_rfl)) ?_
       try go_wp2
       go_ret2
       exact ⟨_, by first | rfl | (simp [*, errW_none, errW_some] <;> rfl), by (with_reducible repeat (first | apply Na | apply Nn | apply Nd)); exact Kd.N_mono HO_5.out (fun _ hk => hk.1), by repeat (with_reducible first | exact HB.out | apply bA | apply bN | apply bD | refine below_set ?_ (IsS134.ge HI1124.out))⟩
     rw [if_neg c15] at H
     exact absurd H (by simp)
   rw [if_neg c14] at H
   exact absurd H (by simp)
 replace c12 := Bool.eq_false_iff.mpr c12
 subst c12
 have H1 : ((spec_l1Name.f kj3 t1122 x1125001_3).bind fun bt1134 => (some (t1125, bt1134.1))) = some (r1, r2) := by rw [if_neg (show ¬ (false = true) by decide)] at H; exact H
 clear H
 have H := H1
 clear H1
 replace H := Option.bind_eq_some_iff.mp H
 obtain ⟨⟨t1134, t1135⟩, A190, H⟩ := H
 replace H : (some (t1125, t1134)) = some (r1, r2) := H
 have A19 := aM A190; clear A190
 simp only [Option.some.injEq, Prod.mk.injEq] at H
 obtain ⟨rfl, rfl⟩ := H
 go_wp2_with (first | ((with_reducible refine gate_callee (f := 147) rfl ?_); refine goesL_ (some 29) rfl rfl Try.func147 (by kernel_rfl) rfl #[.pointer (some ⟨g1124, 0, none⟩)] rfl (by (try simp only [List.map_toArray, List.map_cons, List.map_nil]); first | done | rfl) ?_; (with_reducible refine (spec_l1Name.calls kj3 g1124 t1122 x1125001_3 t1134 t1135 w _ ?side1 ?side2 A19.out).mono ?_); (case side1 => repeat (with_reducible first | exact HI1124.out | apply IsS134.alloc | apply IsS134.drewN | apply IsS134.drew | apply IsS134.set_1)); (case side2 => repeat (with_reducible first | exact HB.out | apply bA | apply bN | apply bD | refine below_set ?_ (IsS134.ge HI1124.out))); rintro e w20 ⟨rfl, hi, hb, hk⟩; refine ⟨_, rfl, ?_⟩; have n0_ := aM (Kd.N_mono (Kd.N_keep (Kd.N_mono (ok := fun k_ => (((w.heap.size ≤ k_)) ∧ k_ ≠ g1124)) (by (with_reducible repeat (first | apply Na | apply Nn | apply Nd)); exact HO_5.out) (fun k_ hk_ => (⟨hk_, hk_.2⟩ : _ ∧ k_ ≠ g1124))) hk (fun _ h => h.2)) (fun _ h => h.1)); have n1_ := aM (hb); have n2_ := aM (hi); clear HO_5 HB HI1124; have HO_5 := n0_; have HB := n1_; have HI1124 := n2_; clear n0_ n1_ n2_))
 go_ret2
 exact ⟨_, by first | rfl | (simp [*, errW_none, errW_some] <;> rfl), by (with_reducible repeat (first | apply Na | apply Nn | apply Nd)); exact Kd.N_mono HO_5.out (fun _ hk => hk.1), by repeat (with_reducible first | exact HB.out | apply bA | apply bN | apply bD | refine below_set ?_ (IsS134.ge HI1124.out))⟩
def spec_DrawGraphBy.f (k : Nat) (l0 : List Int) : Option ((List (S52)) × ByteArray) := (spec_DrawKeepReach.f k l0).bind fun bt1136 => (some (bt1136.1, bt1136.2))
set_option maxHeartbeats 8000000 in
set_option maxRecDepth 100000 in
theorem spec_DrawGraphBy.calls (k : Nat) (A0 : Option Addr) (c0 : Nat) (l0 : List Int) (r1 : List (S52)) (r2 : ByteArray) (w : World) (hr0 : Kd.C (Kd.int .u8) w A0 l0.length l0) (hc0 : l0.length ≤ c0) (h : spec_DrawGraphBy.f k l0 = some (r1, r2)) :
    Calls Try.prog 46 #[.slice A0 l0.length c0] w fun e w' => ∃ v0_ : Value, e = .returned (.tuple #[v0_, .string r2]) ∧ Kd.N k52 52 w' w.heap.size (fun k_ => (w.heap.size ≤ k_)) v0_ r1 ∧ Below w.heap.size w w' := by
 have HR0 := aM hr0; have HC0 := aM hc0; clear hr0 hc0
 have HB := aM (Below.refl w.heap.size w)
 have H : ((spec_DrawKeepReach.f k l0).bind fun bt1136 => (some (bt1136.1, bt1136.2))) = some (r1, r2) := h
 clear h
 replace H := Option.bind_eq_some_iff.mp H
 obtain ⟨⟨t1136, t1139⟩, A20, H⟩ := H
 replace H : (some (t1136, t1139)) = some (r1, r2) := H
 have A2 := aM A20; clear A20
 simp only [Option.some.injEq, Prod.mk.injEq] at H
 obtain ⟨rfl, rfl⟩ := H
 go_enter Try.func46, Try.ntmps46
 go_wp2_with (first | ((with_reducible refine gate_callee (f := 94) rfl ?_); refine goesL_ (some 5) rfl rfl Try.func94 (by kernel_rfl) rfl #[.slice A0 l0.length c0] rfl (by (try simp only [List.map_toArray, List.map_cons, List.map_nil]); first | done | rfl) ?_; (with_reducible refine (spec_DrawKeepReach.calls k _ _ l0 t1136 t1139 _ ?side1 ?side2 A2.out).mono ?_); (case side1 => repeat (first | exact HR0.out | (with_reducible first | refine Ca ?_ _ | refine Cn ?_ _ | refine Cd ?_))); (case side2 => exact HC0.out); rintro e w3 ⟨v1137, rfl, ho0, hb⟩; refine ⟨_, rfl, ?_⟩; have n0_ := aM (Kd.N_lower (Kd.N_mono (ok' := fun k_ => (w.heap.size ≤ k_)) ho0 (fun k_ hk_ => (Nat.le_trans (below_size (by repeat (with_reducible first | exact HB.out | apply bA | apply bN | apply bD))) hk_))) (below_size (by repeat (with_reducible first | exact HB.out | apply bA | apply bN | apply bD)))); have n1_ := aM (below_step (by repeat (with_reducible first | exact HB.out | apply bA | apply bN | apply bD)) hb); clear HB; have HO1138 := n0_; have HB := n1_; clear n0_ n1_; (try clear ho0)))
 go_ret2
 exact ⟨_, by first | rfl | (simp [*, errW_none, errW_some] <;> rfl), by (with_reducible repeat (first | apply Na | apply Nn | apply Nd)); exact HO1138.out, by repeat (with_reducible first | exact HB.out | apply bA | apply bN | apply bD)⟩
theorem less_leq : ∀ a b : List UInt8, (Op.bytesLess a b || a == b) = !(Op.bytesLess b a)
  | [], [] => rfl
  | [], _ :: _ => rfl
  | _ :: _, [] => rfl
  | a :: x, b :: y => by
    have ih := less_leq x y
    simp only [Op.bytesLess, List.cons_beq_cons]
    by_cases h1 : a < b
    · have h2 : ¬ b < a := fun h => absurd (UInt8.lt_trans h1 h) (UInt8.lt_irrefl a)
      have h3 : (b == a) = false := by rw [beq_eq_false_iff_ne]; rintro rfl; exact UInt8.lt_irrefl _ h1
      simp [h1, h2, h3]
    · by_cases h2 : b < a
      · have h3 : (a == b) = false := by rw [beq_eq_false_iff_ne]; rintro rfl; exact h1 h2
        simp [h1, h2, h3]
      · have h3 : a = b := UInt8.le_antisymm (UInt8.not_lt.mp h2) (UInt8.not_lt.mp h1)
        subst h3
        simp only [h1, decide_false, Bool.false_or, beq_self_eq_true, Bool.true_and]
        exact ih
theorem leq_string (t : TypeId) (a b : ByteArray) : binOp .leq t (.string a) (.string b) = pure (.bool !(Op.bytesLess b.toList a.toList)) := by
  rw [← less_leq]; simp [binOp, Op.stringOp]
attribute [local go_sem] leq_string
mutual
def laws_FnGraphBy.j0 : Nat → List Int → Option (Bool)
  | 0, _ => none
  | k + 1, x0 => (spec_DrawGraphBy.f k x0).bind fun bt1140 => ((impl_GraphBy.f bt1140.1 bt1140.2).bind fun t1144 => ((spec_GraphBy.f k bt1140.1 bt1140.2).bind fun t1147 => ((impl_GraphLeaf.f bt1140.1).bind fun t1150 => ((spec_GraphLeaf.f k bt1140.1).bind fun t1153 => (if (t1144.length : Int) = (t1147.length : Int) then (laws_FnGraphBy.j1 k bt1140.1 bt1140.2 t1144 t1150 ((t1150.length : Int) != (t1153.length : Int))) else (laws_FnGraphBy.j1 k bt1140.1 bt1140.2 t1144 t1150 true))))))
def laws_FnGraphBy.j1 : Nat → List (S52) → ByteArray → List ByteArray → List ByteArray → Bool → Option (Bool)
  | 0, _, _, _, _, _ => none
  | k + 1, x3, x4, x5, x7, x47 => if x47 = true then (some false) else (laws_FnGraphBy.j2 k x3 x4 x5 x7)
def laws_FnGraphBy.j2 : Nat → List (S52) → ByteArray → List ByteArray → List ByteArray → Option (Bool)
  | 0, _, _, _, _ => none
  | k + 1, x3, x4, x5, x7 => laws_FnGraphBy.l0 k x3 x4 x5 x7 0 0 0
def laws_FnGraphBy.l0 : Nat → List (S52) → ByteArray → List ByteArray → List ByteArray → Int → Int → Int → Option (Bool)
  | 0, _, _, _, _, _, _, _ => none
  | k + 1, x3, x4, x5, x7, x9, x10, x11 => if x11 < (x3.length : Int) then ((spec_KeepOk.f k x3).bind fun t1156 => (laws_FnGraphBy.j4 k x3 x4 x5 x7 x9 x10 x11 t1156)) else (laws_FnGraphBy.j4 k x3 x4 x5 x7 x9 x10 x11 false)
def laws_FnGraphBy.j4 : Nat → List (S52) → ByteArray → List ByteArray → List ByteArray → Int → Int → Int → Bool → Option (Bool)
  | 0, _, _, _, _, _, _, _, _ => none
  | k + 1, x3, x4, x5, x7, x9, x10, x11, x55 => if x55 = true then (laws_FnGraphBy.j5 k x3 x4 x5 x7 x9 x10 x11) else (laws_FnGraphBy.l3 k x5 x7 x9 x10 1)
def laws_FnGraphBy.j5 : Nat → List (S52) → ByteArray → List ByteArray → List ByteArray → Int → Int → Int → Option (Bool)
  | 0, _, _, _, _, _, _, _ => none
  | k + 1, x3, x4, x5, x7, x9, x10, x11 => if 0 ≤ x11 then (if x11 < (x3.length : Int) then ((impl_FunRefs.f k ((rd_T52 x3 x11).f0) ((rd_T52 x3 x11).f1) ((rd_T52 x3 x11).f2)).bind fun t1158 => (laws_FnGraphBy.l1 k x3 x4 x5 x7 x9 x10 x11 t1158 false 0)) else (none)) else (none)
def laws_FnGraphBy.l1 : Nat → List (S52) → ByteArray → List ByteArray → List ByteArray → Int → Int → Int → List ByteArray → Bool → Int → Option (Bool)
  | 0, _, _, _, _, _, _, _, _, _, _ => none
  | k + 1, x3, x4, x5, x7, x9, x10, x11, x12, x13, x14 => if x14 < (x12.length : Int) then (if x13 = true then (laws_FnGraphBy.l1 k x3 x4 x5 x7 x9 x10 x11 x12 true (wrap64 (x14 + 1))) else (if 0 ≤ x14 then (laws_FnGraphBy.l1 k x3 x4 x5 x7 x9 x10 x11 x12 ((rdOf ByteArray.empty x12 x14).toList == x4.toList) (wrap64 (x14 + 1))) else (none))) else (laws_FnGraphBy.l2 k x3 x4 x5 x7 x9 x10 x11 x12 x13 false 0)
def laws_FnGraphBy.l2 : Nat → List (S52) → ByteArray → List ByteArray → List ByteArray → Int → Int → Int → List ByteArray → Bool → Bool → Int → Option (Bool)
  | 0, _, _, _, _, _, _, _, _, _, _, _ => none
  | k + 1, x3, x4, x5, x7, x9, x10, x11, x12, x13, x15, x16 => if x16 < (x5.length : Int) then (if x15 = true then (laws_FnGraphBy.l2 k x3 x4 x5 x7 x9 x10 x11 x12 x13 true (wrap64 (x16 + 1))) else (if 0 ≤ x16 then (if 0 ≤ x11 then (if x11 < (x3.length : Int) then (laws_FnGraphBy.l2 k x3 x4 x5 x7 x9 x10 x11 x12 x13 ((rdOf ByteArray.empty x5 x16).toList == ((rd_T52 x3 x11).f0).toList) (wrap64 (x16 + 1))) else (none)) else (none)) else (none))) else (if (x13 != x15) = true then (some false) else (laws_FnGraphBy.j8 k x3 x4 x5 x7 x9 x10 x11 x12 x13))
def laws_FnGraphBy.j8 : Nat → List (S52) → ByteArray → List ByteArray → List ByteArray → Int → Int → Int → List ByteArray → Bool → Option (Bool)
  | 0, _, _, _, _, _, _, _, _, _ => none
  | k + 1, x3, x4, x5, x7, x9, x10, x11, x12, x13 => if x13 = true then (if (x12.length : Int) = 0 then (laws_FnGraphBy.l0 k x3 x4 x5 x7 (wrap64 (x9 + 1)) (wrap64 (x10 + 1)) (wrap64 (x11 + 1))) else (laws_FnGraphBy.l0 k x3 x4 x5 x7 (wrap64 (x9 + 1)) x10 (wrap64 (x11 + 1)))) else (if (x12.length : Int) = 0 then (laws_FnGraphBy.l0 k x3 x4 x5 x7 x9 (wrap64 (x10 + 1)) (wrap64 (x11 + 1))) else (laws_FnGraphBy.l0 k x3 x4 x5 x7 x9 x10 (wrap64 (x11 + 1))))
def laws_FnGraphBy.l3 : Nat → List ByteArray → List ByteArray → Int → Int → Int → Option (Bool)
  | 0, _, _, _, _, _ => none
  | k + 1, x5, x7, x9, x10, x17 => if x17 < (x7.length : Int) then (if 0 ≤ x17 then (if 0 ≤ (wrap64 (x17 - 1)) then (if (wrap64 (x17 - 1)) < (x7.length : Int) then (if ((Op.bytesLess ((rdOf ByteArray.empty x7 (wrap64 (x17 - 1))).toList) ((rdOf ByteArray.empty x7 x17).toList)) = true) then (laws_FnGraphBy.l3 k x5 x7 x9 x10 (wrap64 (x17 + 1))) else (some false)) else (none)) else (none)) else (none)) else (if x9 = (x5.length : Int) then (some (x10 == (x7.length : Int))) else (some false))
end
def laws_FnGraphBy.f (k : Nat) (l0 : List Int) : Option (Bool) := if (l0.length : Int) > 1048576 then (some true) else (laws_FnGraphBy.j0 k l0)
set_option maxHeartbeats 8000000 in
set_option maxRecDepth 100000 in
theorem laws_FnGraphBy.calls (k : Nat) (A0 : Option Addr) (c0 : Nat) (l0 : List Int) (r : Bool) (w : World) (hr0 : Kd.C (Kd.int .u8) w A0 l0.length l0) (hc0 : l0.length ≤ c0) (h : laws_FnGraphBy.f k l0 = some r) :
    Calls Try.prog 11 #[.slice A0 l0.length c0] w fun e w' => e = .returned (.bool r) ∧ Below w.heap.size w w' := by
 have hu52 := Try.underlying52
 have HR0 := aM hr0; have HC0 := aM hc0; clear hr0 hc0
 have HB := aM (Below.refl w.heap.size w)
 have H : (if (l0.length : Int) > 1048576 then (some true) else (laws_FnGraphBy.j0 k l0)) = some r := h
 clear h; have HC2 := aM H; clear H
 go_enter Try.func11, Try.ntmps11
 go_upto_if 20 with (fail)
 repeat (go_quiet (fail); go_upto_if 20 with (fail))
 go_cut [] (fun wc => ∃ (kq : Nat), Aside0 (laws_FnGraphBy.j0 kq l0 = some r) ∧ Aside0 (kq ≤ k) ∧ Aside0 (Below w.heap.size w wc))
 case first =>
  have H := HC2.out
  clear HC2
  by_cases c3 : (l0.length : Int) > 1048576
  · rw [if_pos c3] at H
    have c3b0 : decide (1048576 < (l0.length : Int)) = true := decide_eq_true c3
    have c3b1 : decide (1048576 < l0.length) = true := decide_eq_true (by omega)
    clear c3
    (first | rw [c3b0] | (simp only [i64_w, i32_w]; rw [c3b0]) | (have cn_ := c3b0; simp only [bne] at cn_; rw [cn_]; clear cn_) | skip)
    obtain rfl := Option.some.inj H
    go_wp2
    repeat (go_quiet (fail); try go_wp2)
    go_ret
    exact ⟨by first | rfl | (simp [*, errW_none, errW_some] <;> rfl), by repeat (with_reducible first | exact HB.out | apply bA | apply bN | apply bD)⟩
  rw [if_neg c3] at H
  have c3b0 : decide (1048576 < (l0.length : Int)) = false := decide_eq_false c3
  have c3b1 : decide (1048576 < l0.length) = false := decide_eq_false (by omega)
  clear c3
  (first | rw [c3b0] | (simp only [i64_w, i32_w]; rw [c3b0]) | (have cn_ := c3b0; simp only [bne] at cn_; rw [cn_]; clear cn_) | skip)
  have H' := aM H
  clear H
  go_wp2
  repeat (go_quiet (fail); try go_wp2)
  go_meet
  case rel => exact ⟨_, H', ⟨by first | omega | exact Nat.le_refl _⟩, ⟨by repeat (with_reducible first | exact HB.out | apply bA | apply bN | apply bD)⟩⟩
 clear HC2; try clear c1; try clear p2; try clear c3; try clear c3b0; try clear c3b1
 obtain ⟨kq, HA, HJ1, HB⟩ := hcut
 obtain _ | kj1 := kq
 · exact absurd HA.out (by simp [laws_FnGraphBy.j0])
 have H := HA.out
 clear HA
 simp only [laws_FnGraphBy.j0] at H
 replace H := Option.bind_eq_some_iff.mp H
 obtain ⟨⟨t1140, t1143⟩, A40, H⟩ := H
 replace H : ((impl_GraphBy.f t1140 t1143).bind fun t1144 => ((spec_GraphBy.f kj1 t1140 t1143).bind fun t1147 => ((impl_GraphLeaf.f t1140).bind fun t1150 => ((spec_GraphLeaf.f kj1 t1140).bind fun t1153 => (if (t1144.length : Int) = (t1147.length : Int) then (laws_FnGraphBy.j1 kj1 t1140 t1143 t1144 t1150 ((t1150.length : Int) != (t1153.length : Int))) else (laws_FnGraphBy.j1 kj1 t1140 t1143 t1144 t1150 true)))))) = some r := H
 have A4 := aM A40; clear A40
 replace H := Option.bind_eq_some_iff.mp H
 obtain ⟨t1144, A50, H⟩ := H
 replace H : ((spec_GraphBy.f kj1 t1140 t1143).bind fun t1147 => ((impl_GraphLeaf.f t1140).bind fun t1150 => ((spec_GraphLeaf.f kj1 t1140).bind fun t1153 => (if (t1144.length : Int) = (t1147.length : Int) then (laws_FnGraphBy.j1 kj1 t1140 t1143 t1144 t1150 ((t1150.length : Int) != (t1153.length : Int))) else (laws_FnGraphBy.j1 kj1 t1140 t1143 t1144 t1150 true))))) = some r := H
 have A5 := aM A50; clear A50
 replace H := Option.bind_eq_some_iff.mp H
 obtain ⟨t1147, A60, H⟩ := H
 replace H : ((impl_GraphLeaf.f t1140).bind fun t1150 => ((spec_GraphLeaf.f kj1 t1140).bind fun t1153 => (if (t1144.length : Int) = (t1147.length : Int) then (laws_FnGraphBy.j1 kj1 t1140 t1143 t1144 t1150 ((t1150.length : Int) != (t1153.length : Int))) else (laws_FnGraphBy.j1 kj1 t1140 t1143 t1144 t1150 true)))) = some r := H
 have A6 := aM A60; clear A60
 replace H := Option.bind_eq_some_iff.mp H
 obtain ⟨t1150, A70, H⟩ := H
 replace H : ((spec_GraphLeaf.f kj1 t1140).bind fun t1153 => (if (t1144.length : Int) = (t1147.length : Int) then (laws_FnGraphBy.j1 kj1 t1140 t1143 t1144 t1150 ((t1150.length : Int) != (t1153.length : Int))) else (laws_FnGraphBy.j1 kj1 t1140 t1143 t1144 t1150 true))) = some r := H
 have A7 := aM A70; clear A70
 replace H := Option.bind_eq_some_iff.mp H
 obtain ⟨t1153, A80, H⟩ := H
 replace H : (if (t1144.length : Int) = (t1147.length : Int) then (laws_FnGraphBy.j1 kj1 t1140 t1143 t1144 t1150 ((t1150.length : Int) != (t1153.length : Int))) else (laws_FnGraphBy.j1 kj1 t1140 t1143 t1144 t1150 true)) = some r := H
 have A8 := aM A80; clear A80; have HC9 := aM H; clear H
 go_upto_region 8 with (first | (go_at_call 46; (with_reducible refine (spec_DrawGraphBy.calls kj1 _ _ l0 t1140 t1143 _ ?side1 ?side2 A4.out).mono ?_); (case side1 => repeat (first | exact (Kd.C_below HR0.out HB.out) | (with_reducible first | refine Ca ?_ _ | refine Cn ?_ _ | refine Cd ?_))); (case side2 => exact HC0.out); rintro e w10 ⟨v1141, rfl, ho0, hb⟩; have n0_ := aM (Kd.N_lower (Kd.N_mono (ok' := fun k_ => True) ho0 (fun k_ hk_ => trivial)) (below_size (by repeat (with_reducible first | exact HB.out | apply bA | apply bN | apply bD)))); have n1_ := aM (below_step (by repeat (with_reducible first | exact HB.out | apply bA | apply bN | apply bD)) hb); clear HB; have HO1142 := n0_; have HB := n1_; clear n0_ n1_; (try clear ho0); obtain ⟨Ao11, co11, eo11⟩ := Kd.N_slice HO1142.out; subst eo11) | (go_at_call 43; (with_reducible refine (impl_GraphBy.calls _ _ t1140 t1143 t1144 _ ?side1 ?side2 A5.out).mono ?_); (case side1 => repeat (first | exact (Kd.N_reads' HO1142.out).2.2 | (with_reducible first | refine Ca ?_ _ | refine Cn ?_ _ | refine Cd ?_))); (case side2 => exact (Kd.N_reads' HO1142.out).2.1); rintro e w12 ⟨v1145, rfl, ho0, hb⟩; have n0_ := aM (Kd.N_elder' (by (with_reducible repeat (first | apply Na | apply Nn | apply Nd)); exact HO1142.out) (Kd.R_base ho0) hb); have n1_ := aM (Kd.R_lower ho0 (below_size (by repeat (with_reducible first | exact HB.out | apply bA | apply bN | apply bD)))); have n2_ := aM (below_step (by repeat (with_reducible first | exact HB.out | apply bA | apply bN | apply bD)) hb); clear HO1142 HB; have HO1142 := n0_; have HO1146 := n1_; have HB := n2_; clear n0_ n1_ n2_; (try clear ho0)) | (go_at_call 42; (with_reducible refine (spec_GraphBy.calls kj1 _ _ t1140 t1143 t1147 _ ?side1 ?side2 A6.out).mono ?_); (case side1 => repeat (first | exact (Kd.N_reads' HO1142.out).2.2 | (with_reducible first | refine Ca ?_ _ | refine Cn ?_ _ | refine Cd ?_))); (case side2 => exact (Kd.N_reads' HO1142.out).2.1); rintro e w13 ⟨v1148, rfl, ho0, hb⟩; have n0_ := aM (Kd.N_elder' (by (with_reducible repeat (first | apply Na | apply Nn | apply Nd)); exact HO1142.out) (Kd.R_base ho0) hb); have n1_ := aM (Kd.R_elder' (by (with_reducible repeat (first | apply Ra | apply Rn | apply Rd)); exact HO1146.out) (Kd.R_base ho0) hb); have n2_ := aM (Kd.R_lower (Kd.R_new' ho0 (Kd.R_lt (by (with_reducible repeat (first | apply Ra | apply Rn | apply Rd)); exact HO1146.out))) (below_size (by repeat (with_reducible first | exact HB.out | apply bA | apply bN | apply bD)))); have n3_ := aM (below_step (by repeat (with_reducible first | exact HB.out | apply bA | apply bN | apply bD)) hb); clear HO1142 HO1146 HB; have HO1142 := n0_; have HO1146 := n1_; have HO1149 := n2_; have HB := n3_; clear n0_ n1_ n2_ n3_; (try clear ho0)) | (go_at_call 41; (with_reducible refine (impl_GraphLeaf.calls _ _ t1140 t1150 _ ?side1 ?side2 A7.out).mono ?_); (case side1 => repeat (first | exact (Kd.N_reads' HO1142.out).2.2 | (with_reducible first | refine Ca ?_ _ | refine Cn ?_ _ | refine Cd ?_))); (case side2 => exact (Kd.N_reads' HO1142.out).2.1); rintro e w14 ⟨v1151, rfl, ho0, hb⟩; have n0_ := aM (Kd.N_elder' (by (with_reducible repeat (first | apply Na | apply Nn | apply Nd)); exact HO1142.out) (Kd.R_base ho0) hb); have n1_ := aM (Kd.R_elder' (by (with_reducible repeat (first | apply Ra | apply Rn | apply Rd)); exact HO1146.out) (Kd.R_base ho0) hb); have n2_ := aM (Kd.R_elder' (by (with_reducible repeat (first | apply Ra | apply Rn | apply Rd)); exact HO1149.out) (Kd.R_base ho0) hb); have n3_ := aM (Kd.R_lower (Kd.R_new' (Kd.R_new' ho0 (Kd.R_lt (by (with_reducible repeat (first | apply Ra | apply Rn | apply Rd)); exact HO1146.out))) (Kd.R_lt (by (with_reducible repeat (first | apply Ra | apply Rn | apply Rd)); exact HO1149.out))) (below_size (by repeat (with_reducible first | exact HB.out | apply bA | apply bN | apply bD)))); have n4_ := aM (below_step (by repeat (with_reducible first | exact HB.out | apply bA | apply bN | apply bD)) hb); clear HO1142 HO1146 HO1149 HB; have HO1142 := n0_; have HO1146 := n1_; have HO1149 := n2_; have HO1152 := n3_; have HB := n4_; clear n0_ n1_ n2_ n3_ n4_; (try clear ho0)) | (go_at_call 40; (with_reducible refine (spec_GraphLeaf.calls kj1 _ _ t1140 t1153 _ ?side1 ?side2 A8.out).mono ?_); (case side1 => repeat (first | exact (Kd.N_reads' HO1142.out).2.2 | (with_reducible first | refine Ca ?_ _ | refine Cn ?_ _ | refine Cd ?_))); (case side2 => exact (Kd.N_reads' HO1142.out).2.1); rintro e w15 ⟨v1154, rfl, ho0, hb⟩; have n0_ := aM (Kd.N_elder' (by (with_reducible repeat (first | apply Na | apply Nn | apply Nd)); exact HO1142.out) (Kd.R_base ho0) hb); have n1_ := aM (Kd.R_elder' (by (with_reducible repeat (first | apply Ra | apply Rn | apply Rd)); exact HO1146.out) (Kd.R_base ho0) hb); have n2_ := aM (Kd.R_elder' (by (with_reducible repeat (first | apply Ra | apply Rn | apply Rd)); exact HO1149.out) (Kd.R_base ho0) hb); have n3_ := aM (Kd.R_elder' (by (with_reducible repeat (first | apply Ra | apply Rn | apply Rd)); exact HO1152.out) (Kd.R_base ho0) hb); have n4_ := aM (Kd.R_lower (Kd.R_new' (Kd.R_new' (Kd.R_new' ho0 (Kd.R_lt (by (with_reducible repeat (first | apply Ra | apply Rn | apply Rd)); exact HO1146.out))) (Kd.R_lt (by (with_reducible repeat (first | apply Ra | apply Rn | apply Rd)); exact HO1149.out))) (Kd.R_lt (by (with_reducible repeat (first | apply Ra | apply Rn | apply Rd)); exact HO1152.out))) (below_size (by repeat (with_reducible first | exact HB.out | apply bA | apply bN | apply bD)))); have n5_ := aM (below_step (by repeat (with_reducible first | exact HB.out | apply bA | apply bN | apply bD)) hb); clear HO1142 HO1146 HO1149 HO1152 HB; have HO1142 := n0_; have HO1146 := n1_; have HO1149 := n2_; have HO1152 := n3_; have HO1155 := n4_; have HB := n5_; clear n0_ n1_ n2_ n3_ n4_ n5_; (try clear ho0)))
 repeat (go_quiet (first | (go_at_call 46; (with_reducible refine (spec_DrawGraphBy.calls kj1 _ _ l0 t1140 t1143 _ ?side1 ?side2 A4.out).mono ?_); (case side1 => repeat (first | exact (Kd.C_below HR0.out HB.out) | (with_reducible first | refine Ca ?_ _ | refine Cn ?_ _ | refine Cd ?_))); (case side2 => exact HC0.out); rintro e w10 ⟨v1141, rfl, ho0, hb⟩; have n0_ := aM (Kd.N_lower (Kd.N_mono (ok' := fun k_ => True) ho0 (fun k_ hk_ => trivial)) (below_size (by repeat (with_reducible first | exact HB.out | apply bA | apply bN | apply bD)))); have n1_ := aM (below_step (by repeat (with_reducible first | exact HB.out | apply bA | apply bN | apply bD)) hb); clear HB; have HO1142 := n0_; have HB := n1_; clear n0_ n1_; (try clear ho0); obtain ⟨Ao11, co11, eo11⟩ := Kd.N_slice HO1142.out; subst eo11) | (go_at_call 43; (with_reducible refine (impl_GraphBy.calls _ _ t1140 t1143 t1144 _ ?side1 ?side2 A5.out).mono ?_); (case side1 => repeat (first | exact (Kd.N_reads' HO1142.out).2.2 | (with_reducible first | refine Ca ?_ _ | refine Cn ?_ _ | refine Cd ?_))); (case side2 => exact (Kd.N_reads' HO1142.out).2.1); rintro e w12 ⟨v1145, rfl, ho0, hb⟩; have n0_ := aM (Kd.N_elder' (by (with_reducible repeat (first | apply Na | apply Nn | apply Nd)); exact HO1142.out) (Kd.R_base ho0) hb); have n1_ := aM (Kd.R_lower ho0 (below_size (by repeat (with_reducible first | exact HB.out | apply bA | apply bN | apply bD)))); have n2_ := aM (below_step (by repeat (with_reducible first | exact HB.out | apply bA | apply bN | apply bD)) hb); clear HO1142 HB; have HO1142 := n0_; have HO1146 := n1_; have HB := n2_; clear n0_ n1_ n2_; (try clear ho0)) | (go_at_call 42; (with_reducible refine (spec_GraphBy.calls kj1 _ _ t1140 t1143 t1147 _ ?side1 ?side2 A6.out).mono ?_); (case side1 => repeat (first | exact (Kd.N_reads' HO1142.out).2.2 | (with_reducible first | refine Ca ?_ _ | refine Cn ?_ _ | refine Cd ?_))); (case side2 => exact (Kd.N_reads' HO1142.out).2.1); rintro e w13 ⟨v1148, rfl, ho0, hb⟩; have n0_ := aM (Kd.N_elder' (by (with_reducible repeat (first | apply Na | apply Nn | apply Nd)); exact HO1142.out) (Kd.R_base ho0) hb); have n1_ := aM (Kd.R_elder' (by (with_reducible repeat (first | apply Ra | apply Rn | apply Rd)); exact HO1146.out) (Kd.R_base ho0) hb); have n2_ := aM (Kd.R_lower (Kd.R_new' ho0 (Kd.R_lt (by (with_reducible repeat (first | apply Ra | apply Rn | apply Rd)); exact HO1146.out))) (below_size (by repeat (with_reducible first | exact HB.out | apply bA | apply bN | apply bD)))); have n3_ := aM (below_step (by repeat (with_reducible first | exact HB.out | apply bA | apply bN | apply bD)) hb); clear HO1142 HO1146 HB; have HO1142 := n0_; have HO1146 := n1_; have HO1149 := n2_; have HB := n3_; clear n0_ n1_ n2_ n3_; (try clear ho0)) | (go_at_call 41; (with_reducible refine (impl_GraphLeaf.calls _ _ t1140 t1150 _ ?side1 ?side2 A7.out).mono ?_); (case side1 => repeat (first | exact (Kd.N_reads' HO1142.out).2.2 | (with_reducible first | refine Ca ?_ _ | refine Cn ?_ _ | refine Cd ?_))); (case side2 => exact (Kd.N_reads' HO1142.out).2.1); rintro e w14 ⟨v1151, rfl, ho0, hb⟩; have n0_ := aM (Kd.N_elder' (by (with_reducible repeat (first | apply Na | apply Nn | apply Nd)); exact HO1142.out) (Kd.R_base ho0) hb); have n1_ := aM (Kd.R_elder' (by (with_reducible repeat (first | apply Ra | apply Rn | apply Rd)); exact HO1146.out) (Kd.R_base ho0) hb); have n2_ := aM (Kd.R_elder' (by (with_reducible repeat (first | apply Ra | apply Rn | apply Rd)); exact HO1149.out) (Kd.R_base ho0) hb); have n3_ := aM (Kd.R_lower (Kd.R_new' (Kd.R_new' ho0 (Kd.R_lt (by (with_reducible repeat (first | apply Ra | apply Rn | apply Rd)); exact HO1146.out))) (Kd.R_lt (by (with_reducible repeat (first | apply Ra | apply Rn | apply Rd)); exact HO1149.out))) (below_size (by repeat (with_reducible first | exact HB.out | apply bA | apply bN | apply bD)))); have n4_ := aM (below_step (by repeat (with_reducible first | exact HB.out | apply bA | apply bN | apply bD)) hb); clear HO1142 HO1146 HO1149 HB; have HO1142 := n0_; have HO1146 := n1_; have HO1149 := n2_; have HO1152 := n3_; have HB := n4_; clear n0_ n1_ n2_ n3_ n4_; (try clear ho0)) | (go_at_call 40; (with_reducible refine (spec_GraphLeaf.calls kj1 _ _ t1140 t1153 _ ?side1 ?side2 A8.out).mono ?_); (case side1 => repeat (first | exact (Kd.N_reads' HO1142.out).2.2 | (with_reducible first | refine Ca ?_ _ | refine Cn ?_ _ | refine Cd ?_))); (case side2 => exact (Kd.N_reads' HO1142.out).2.1); rintro e w15 ⟨v1154, rfl, ho0, hb⟩; have n0_ := aM (Kd.N_elder' (by (with_reducible repeat (first | apply Na | apply Nn | apply Nd)); exact HO1142.out) (Kd.R_base ho0) hb); have n1_ := aM (Kd.R_elder' (by (with_reducible repeat (first | apply Ra | apply Rn | apply Rd)); exact HO1146.out) (Kd.R_base ho0) hb); have n2_ := aM (Kd.R_elder' (by (with_reducible repeat (first | apply Ra | apply Rn | apply Rd)); exact HO1149.out) (Kd.R_base ho0) hb); have n3_ := aM (Kd.R_elder' (by (with_reducible repeat (first | apply Ra | apply Rn | apply Rd)); exact HO1152.out) (Kd.R_base ho0) hb); have n4_ := aM (Kd.R_lower (Kd.R_new' (Kd.R_new' (Kd.R_new' ho0 (Kd.R_lt (by (with_reducible repeat (first | apply Ra | apply Rn | apply Rd)); exact HO1146.out))) (Kd.R_lt (by (with_reducible repeat (first | apply Ra | apply Rn | apply Rd)); exact HO1149.out))) (Kd.R_lt (by (with_reducible repeat (first | apply Ra | apply Rn | apply Rd)); exact HO1152.out))) (below_size (by repeat (with_reducible first | exact HB.out | apply bA | apply bN | apply bD)))); have n5_ := aM (below_step (by repeat (with_reducible first | exact HB.out | apply bA | apply bN | apply bD)) hb); clear HO1142 HO1146 HO1149 HO1152 HB; have HO1142 := n0_; have HO1146 := n1_; have HO1149 := n2_; have HO1152 := n3_; have HO1155 := n4_; have HB := n5_; clear n0_ n1_ n2_ n3_ n4_ n5_; (try clear ho0))); go_upto_region 8 with (first | (go_at_call 46; (with_reducible refine (spec_DrawGraphBy.calls kj1 _ _ l0 t1140 t1143 _ ?side1 ?side2 A4.out).mono ?_); (case side1 => repeat (first | exact (Kd.C_below HR0.out HB.out) | (with_reducible first | refine Ca ?_ _ | refine Cn ?_ _ | refine Cd ?_))); (case side2 => exact HC0.out); rintro e w10 ⟨v1141, rfl, ho0, hb⟩; have n0_ := aM (Kd.N_lower (Kd.N_mono (ok' := fun k_ => True) ho0 (fun k_ hk_ => trivial)) (below_size (by repeat (with_reducible first | exact HB.out | apply bA | apply bN | apply bD)))); have n1_ := aM (below_step (by repeat (with_reducible first | exact HB.out | apply bA | apply bN | apply bD)) hb); clear HB; have HO1142 := n0_; have HB := n1_; clear n0_ n1_; (try clear ho0); obtain ⟨Ao11, co11, eo11⟩ := Kd.N_slice HO1142.out; subst eo11) | (go_at_call 43; (with_reducible refine (impl_GraphBy.calls _ _ t1140 t1143 t1144 _ ?side1 ?side2 A5.out).mono ?_); (case side1 => repeat (first | exact (Kd.N_reads' HO1142.out).2.2 | (with_reducible first | refine Ca ?_ _ | refine Cn ?_ _ | refine Cd ?_))); (case side2 => exact (Kd.N_reads' HO1142.out).2.1); rintro e w12 ⟨v1145, rfl, ho0, hb⟩; have n0_ := aM (Kd.N_elder' (by (with_reducible repeat (first | apply Na | apply Nn | apply Nd)); exact HO1142.out) (Kd.R_base ho0) hb); have n1_ := aM (Kd.R_lower ho0 (below_size (by repeat (with_reducible first | exact HB.out | apply bA | apply bN | apply bD)))); have n2_ := aM (below_step (by repeat (with_reducible first | exact HB.out | apply bA | apply bN | apply bD)) hb); clear HO1142 HB; have HO1142 := n0_; have HO1146 := n1_; have HB := n2_; clear n0_ n1_ n2_; (try clear ho0)) | (go_at_call 42; (with_reducible refine (spec_GraphBy.calls kj1 _ _ t1140 t1143 t1147 _ ?side1 ?side2 A6.out).mono ?_); (case side1 => repeat (first | exact (Kd.N_reads' HO1142.out).2.2 | (with_reducible first | refine Ca ?_ _ | refine Cn ?_ _ | refine Cd ?_))); (case side2 => exact (Kd.N_reads' HO1142.out).2.1); rintro e w13 ⟨v1148, rfl, ho0, hb⟩; have n0_ := aM (Kd.N_elder' (by (with_reducible repeat (first | apply Na | apply Nn | apply Nd)); exact HO1142.out) (Kd.R_base ho0) hb); have n1_ := aM (Kd.R_elder' (by (with_reducible repeat (first | apply Ra | apply Rn | apply Rd)); exact HO1146.out) (Kd.R_base ho0) hb); have n2_ := aM (Kd.R_lower (Kd.R_new' ho0 (Kd.R_lt (by (with_reducible repeat (first | apply Ra | apply Rn | apply Rd)); exact HO1146.out))) (below_size (by repeat (with_reducible first | exact HB.out | apply bA | apply bN | apply bD)))); have n3_ := aM (below_step (by repeat (with_reducible first | exact HB.out | apply bA | apply bN | apply bD)) hb); clear HO1142 HO1146 HB; have HO1142 := n0_; have HO1146 := n1_; have HO1149 := n2_; have HB := n3_; clear n0_ n1_ n2_ n3_; (try clear ho0)) | (go_at_call 41; (with_reducible refine (impl_GraphLeaf.calls _ _ t1140 t1150 _ ?side1 ?side2 A7.out).mono ?_); (case side1 => repeat (first | exact (Kd.N_reads' HO1142.out).2.2 | (with_reducible first | refine Ca ?_ _ | refine Cn ?_ _ | refine Cd ?_))); (case side2 => exact (Kd.N_reads' HO1142.out).2.1); rintro e w14 ⟨v1151, rfl, ho0, hb⟩; have n0_ := aM (Kd.N_elder' (by (with_reducible repeat (first | apply Na | apply Nn | apply Nd)); exact HO1142.out) (Kd.R_base ho0) hb); have n1_ := aM (Kd.R_elder' (by (with_reducible repeat (first | apply Ra | apply Rn | apply Rd)); exact HO1146.out) (Kd.R_base ho0) hb); have n2_ := aM (Kd.R_elder' (by (with_reducible repeat (first | apply Ra | apply Rn | apply Rd)); exact HO1149.out) (Kd.R_base ho0) hb); have n3_ := aM (Kd.R_lower (Kd.R_new' (Kd.R_new' ho0 (Kd.R_lt (by (with_reducible repeat (first | apply Ra | apply Rn | apply Rd)); exact HO1146.out))) (Kd.R_lt (by (with_reducible repeat (first | apply Ra | apply Rn | apply Rd)); exact HO1149.out))) (below_size (by repeat (with_reducible first | exact HB.out | apply bA | apply bN | apply bD)))); have n4_ := aM (below_step (by repeat (with_reducible first | exact HB.out | apply bA | apply bN | apply bD)) hb); clear HO1142 HO1146 HO1149 HB; have HO1142 := n0_; have HO1146 := n1_; have HO1149 := n2_; have HO1152 := n3_; have HB := n4_; clear n0_ n1_ n2_ n3_ n4_; (try clear ho0)) | (go_at_call 40; (with_reducible refine (spec_GraphLeaf.calls kj1 _ _ t1140 t1153 _ ?side1 ?side2 A8.out).mono ?_); (case side1 => repeat (first | exact (Kd.N_reads' HO1142.out).2.2 | (with_reducible first | refine Ca ?_ _ | refine Cn ?_ _ | refine Cd ?_))); (case side2 => exact (Kd.N_reads' HO1142.out).2.1); rintro e w15 ⟨v1154, rfl, ho0, hb⟩; have n0_ := aM (Kd.N_elder' (by (with_reducible repeat (first | apply Na | apply Nn | apply Nd)); exact HO1142.out) (Kd.R_base ho0) hb); have n1_ := aM (Kd.R_elder' (by (with_reducible repeat (first | apply Ra | apply Rn | apply Rd)); exact HO1146.out) (Kd.R_base ho0) hb); have n2_ := aM (Kd.R_elder' (by (with_reducible repeat (first | apply Ra | apply Rn | apply Rd)); exact HO1149.out) (Kd.R_base ho0) hb); have n3_ := aM (Kd.R_elder' (by (with_reducible repeat (first | apply Ra | apply Rn | apply Rd)); exact HO1152.out) (Kd.R_base ho0) hb); have n4_ := aM (Kd.R_lower (Kd.R_new' (Kd.R_new' (Kd.R_new' ho0 (Kd.R_lt (by (with_reducible repeat (first | apply Ra | apply Rn | apply Rd)); exact HO1146.out))) (Kd.R_lt (by (with_reducible repeat (first | apply Ra | apply Rn | apply Rd)); exact HO1149.out))) (Kd.R_lt (by (with_reducible repeat (first | apply Ra | apply Rn | apply Rd)); exact HO1152.out))) (below_size (by repeat (with_reducible first | exact HB.out | apply bA | apply bN | apply bD)))); have n5_ := aM (below_step (by repeat (with_reducible first | exact HB.out | apply bA | apply bN | apply bD)) hb); clear HO1142 HO1146 HO1149 HO1152 HB; have HO1142 := n0_; have HO1146 := n1_; have HO1149 := n2_; have HO1152 := n3_; have HO1155 := n4_; have HB := n5_; clear n0_ n1_ n2_ n3_ n4_ n5_; (try clear ho0))))
 (try simp only [Act.put, List.setIfInBounds_toArray, List.set_cons_zero, List.set_cons_succ])
 go_cut [47] (fun v47 wc => ∃ (kq : Nat) (x47_8 : Bool), v47 = .bool x47_8 ∧ Aside0 (laws_FnGraphBy.j1 kq t1140 t1143 t1144 t1150 x47_8 = some r) ∧ Aside0 (kq ≤ kj1) ∧ Aside0 (Kd.N k52 52 wc w.heap.size (fun k_ => some k_ ≠ (v1145 : Value).ownBlock ∧ some k_ ≠ (v1151 : Value).ownBlock) (.slice Ao11 t1140.length co11) t1140) ∧ Aside0 (Kd.R Kd.string 9 wc w.heap.size (fun k_ => some k_ ≠ (v1151 : Value).ownBlock) v1145 t1144) ∧ Aside0 (Kd.R Kd.string 9 wc w.heap.size (fun k_ => some k_ ≠ (v1145 : Value).ownBlock) v1151 t1150) ∧ Aside0 (Below w.heap.size w wc))
 case first =>
  have H := HC9.out
  clear HC9
  by_cases c16 : (t1144.length : Int) = (t1147.length : Int)
  · rw [if_pos c16] at H
    have c16b0 : ((t1144.length : Int) == (t1147.length : Int)) = true := beq_iff_eq.mpr c16
    have c16b1 : ((t1144.length : Int) != (t1147.length : Int)) = false := bne_eq_false_iff_eq.mpr c16
    have c16b2 : (t1144.length == t1147.length) = true := by first | simpa using c16 | (simp at c16 ⊢; omega)
    clear c16
    (first | rw [c16b0] | (simp only [i64_w, i32_w]; rw [c16b0]) | (have cn_ := c16b0; simp only [bne] at cn_; rw [cn_]; clear cn_) | skip)
    have H' := aM H
    clear H
    obtain ⟨Ao17, co17, eo17⟩ := Kd.R_slice HO1146.out
    subst eo17
    obtain ⟨Ao18, co18, eo18⟩ := Kd.R_slice HO1149.out
    subst eo18
    obtain ⟨Ao19, co19, eo19⟩ := Kd.R_slice HO1152.out
    subst eo19
    obtain ⟨Ao20, co20, eo20⟩ := Kd.R_slice HO1155.out
    subst eo20
    go_wp2
    repeat (go_quiet (fail); try go_wp2)
    go_meet
    case rel => exact ⟨_, (((t1150.length : Int) != (t1153.length : Int))), (by first | rfl | (simp; done) | (simp [*]; done)), H', ⟨by have := HJ1.out; first | omega | exact Nat.le_refl _⟩, ⟨by (with_reducible repeat (first | apply Na | apply Nn | apply Nd)); exact Kd.N_mono HO1142.out (fun _ hk => ⟨hk.1.1.1.2, hk.1.2⟩)⟩, ⟨by (with_reducible repeat (first | apply Ra | apply Rn | apply Rd)); exact Kd.R_mono HO1146.out (fun _ hk => hk.1.2)⟩, ⟨by (with_reducible repeat (first | apply Ra | apply Rn | apply Rd)); exact Kd.R_mono HO1152.out (fun _ hk => hk.1.1.2)⟩, ⟨by repeat (with_reducible first | exact HB.out | apply bA | apply bN | apply bD)⟩⟩
  rw [if_neg c16] at H
  have c16b0 : ((t1144.length : Int) == (t1147.length : Int)) = false := beq_eq_false_iff_ne.mpr c16
  have c16b1 : ((t1144.length : Int) != (t1147.length : Int)) = true := bne_iff_ne.mpr c16
  have c16b2 : (t1144.length == t1147.length) = false := by first | simpa using c16 | (simp at c16 ⊢; omega)
  (first | rw [c16b0] | (simp only [i64_w, i32_w]; rw [c16b0]) | (have cn_ := c16b0; simp only [bne] at cn_; rw [cn_]; clear cn_) | skip)
  have H' := aM H
  clear H
  obtain ⟨Ao21, co21, eo21⟩ := Kd.R_slice HO1146.out
  subst eo21
  obtain ⟨Ao22, co22, eo22⟩ := Kd.R_slice HO1149.out
  subst eo22
  go_wp2
  repeat (go_quiet (fail); try go_wp2)
  go_meet
  case rel => exact ⟨_, (true), (by first | rfl | (simp; done) | (simp [*]; done)), H', ⟨by have := HJ1.out; first | omega | exact Nat.le_refl _⟩, ⟨by (with_reducible repeat (first | apply Na | apply Nn | apply Nd)); exact Kd.N_mono HO1142.out (fun _ hk => ⟨hk.1.1.1.2, hk.1.2⟩)⟩, ⟨by (with_reducible repeat (first | apply Ra | apply Rn | apply Rd)); exact Kd.R_mono HO1146.out (fun _ hk => hk.1.2)⟩, ⟨by (with_reducible repeat (first | apply Ra | apply Rn | apply Rd)); exact Kd.R_mono HO1152.out (fun _ hk => hk.1.1.2)⟩, ⟨by repeat (with_reducible first | exact HB.out | apply bA | apply bN | apply bD)⟩⟩
 clear HC9; try clear c1; try clear p2; try clear c3; try clear c3b0; try clear c3b1; try clear c11; try clear c16; try clear c16b0; try clear c16b1; try clear c16b2; try clear p2
 obtain ⟨kq, x47_8, rfl, HA, HJ8, HO_3, HO_5, HO_7, HB⟩ := hcut
 obtain _ | kj8 := kq
 · exact absurd HA.out (by simp [laws_FnGraphBy.j1])
 have H := HA.out
 clear HA
 simp only [laws_FnGraphBy.j1] at H
 have HC23 := aM H; clear H
 go_upto_if 47 with (fail)
 repeat (go_quiet (fail); go_upto_if 47 with (fail))
 go_cut [] (fun wc => ∃ (kq : Nat), Aside0 (laws_FnGraphBy.j2 kq t1140 t1143 t1144 t1150 = some r) ∧ Aside0 (kq ≤ kj8) ∧ Aside0 (Kd.N k52 52 wc w.heap.size (fun k_ => some k_ ≠ (v1145 : Value).ownBlock ∧ some k_ ≠ (v1151 : Value).ownBlock) (.slice Ao11 t1140.length co11) t1140) ∧ Aside0 (Kd.R Kd.string 9 wc w.heap.size (fun k_ => some k_ ≠ (v1151 : Value).ownBlock) v1145 t1144) ∧ Aside0 (Kd.R Kd.string 9 wc w.heap.size (fun k_ => some k_ ≠ (v1145 : Value).ownBlock) v1151 t1150) ∧ Aside0 (Below w.heap.size w wc))
 case first =>
  have H := HC23.out
  clear HC23
  by_cases c24 : x47_8 = true
  · subst c24
    have H1 : (some false) = some r := by rw [if_pos rfl] at H; exact H
    clear H
    have H := H1
    clear H1
    obtain rfl := Option.some.inj H
    go_wp2
    repeat (go_quiet (fail); try go_wp2)
    go_ret
    exact ⟨by first | rfl | (simp [*, errW_none, errW_some] <;> rfl), by repeat (with_reducible first | exact HB.out | apply bA | apply bN | apply bD)⟩
  replace c24 := Bool.eq_false_iff.mpr c24
  subst c24
  have H1 : (laws_FnGraphBy.j2 kj8 t1140 t1143 t1144 t1150) = some r := by rw [if_neg (show ¬ (false = true) by decide)] at H; exact H
  clear H
  have H := H1
  clear H1
  have H' := aM H
  clear H
  go_wp2
  repeat (go_quiet (fail); try go_wp2)
  go_meet
  case rel => exact ⟨_, H', ⟨by have := HJ1.out; have := HJ8.out; first | omega | exact Nat.le_refl _⟩, ⟨by (with_reducible repeat (first | apply Na | apply Nn | apply Nd)); exact HO_3.out⟩, ⟨by (with_reducible repeat (first | apply Ra | apply Rn | apply Rd)); exact HO_5.out⟩, ⟨by (with_reducible repeat (first | apply Ra | apply Rn | apply Rd)); exact HO_7.out⟩, ⟨by repeat (with_reducible first | exact HB.out | apply bA | apply bN | apply bD)⟩⟩
 clear HC23; try clear c1; try clear c2; try clear p2; try clear c3; try clear c3b0; try clear c3b1; try clear c11; try clear c16; try clear c16b0; try clear c16b1; try clear c16b2; try clear c24; try clear p2
 obtain ⟨kq, HA, HJ22, HO_3, HO_5, HO_7, HB⟩ := hcut
 obtain _ | kj22 := kq
 · exact absurd HA.out (by simp [laws_FnGraphBy.j2])
 have H := HA.out
 clear HA
 simp only [laws_FnGraphBy.j2] at H
 have H' := aM H
 clear H
 go_wp2
 repeat (go_quiet (fail); try go_wp2)
 go_loopg [9, 10, 11] kj22 (fun kq v9 v10 v11 w' => ∃ (x9_4 : Int) (x10_4 : Int) (x11_4 : Int), v9 = .int .i64 x9_4 ∧ v10 = .int .i64 x10_4 ∧ v11 = .int .i64 x11_4 ∧ Aside0 (laws_FnGraphBy.l0 kq t1140 t1143 t1144 t1150 x9_4 x10_4 x11_4 = some r) ∧ Aside0 (kq ≤ kj22) ∧ Aside0 (Kd.N k52 52 w' w.heap.size (fun k_ => some k_ ≠ (v1145 : Value).ownBlock ∧ some k_ ≠ (v1151 : Value).ownBlock) (.slice Ao11 t1140.length co11) t1140) ∧ Aside0 (Kd.R Kd.string 9 w' w.heap.size (fun k_ => some k_ ≠ (v1151 : Value).ownBlock) v1145 t1144) ∧ Aside0 (Kd.R Kd.string 9 w' w.heap.size (fun k_ => some k_ ≠ (v1145 : Value).ownBlock) v1151 t1150) ∧ Aside0 (Below w.heap.size w w'))
 case atStart => exact ⟨(0), (0), (0), (by first | rfl | (simp; done) | (simp [*]; done)), (by first | rfl | (simp; done) | (simp [*]; done)), (by first | rfl | (simp; done) | (simp [*]; done)), H', ⟨Nat.le_refl _⟩, ⟨by (with_reducible repeat (first | apply Na | apply Nn | apply Nd)); exact HO_3.out⟩, ⟨by (with_reducible repeat (first | apply Ra | apply Rn | apply Rd)); exact HO_5.out⟩, ⟨by (with_reducible repeat (first | apply Ra | apply Rn | apply Rd)); exact HO_7.out⟩, ⟨by repeat (with_reducible first | exact HB.out | apply bA | apply bN | apply bD)⟩⟩
 clear H'
 try clear c1; try clear c2; try clear p2; try clear c3; try clear c3b0; try clear c3b1; try clear c11; try clear c16; try clear c16b0; try clear c16b1; try clear c16b2; try clear c24; try clear p2
 obtain ⟨x9_4, x10_4, x11_4, rfl, rfl, rfl, HA, HK4, HO_3, HO_5, HO_7, HB⟩ := hrel
 obtain _ | k4 := gk
 · exact absurd HA.out (by simp [laws_FnGraphBy.l0])
 have H := HA.out
 clear HA
 simp only [laws_FnGraphBy.l0] at H
 have HC25 := aM H; clear H
 go_upto_region 13 with (fail)
 repeat (go_quiet (fail); go_upto_region 13 with (fail))
 go_cut [55] (fun v55 wc => ∃ (kq : Nat) (x55_24 : Bool), v55 = .bool x55_24 ∧ Aside0 (laws_FnGraphBy.j4 kq t1140 t1143 t1144 t1150 x9_4 x10_4 x11_4 x55_24 = some r) ∧ Aside0 (kq ≤ k4) ∧ Aside0 (Kd.N k52 52 wc w.heap.size (fun k_ => some k_ ≠ (v1145 : Value).ownBlock ∧ some k_ ≠ (v1151 : Value).ownBlock) (.slice Ao11 t1140.length co11) t1140) ∧ Aside0 (Kd.R Kd.string 9 wc w.heap.size (fun k_ => some k_ ≠ (v1151 : Value).ownBlock) v1145 t1144) ∧ Aside0 (Kd.R Kd.string 9 wc w.heap.size (fun k_ => some k_ ≠ (v1145 : Value).ownBlock) v1151 t1150) ∧ Aside0 (Below w.heap.size w wc))
 case first =>
  have H := HC25.out
  clear HC25
  by_cases c26 : x11_4 < (t1140.length : Int)
  · rw [if_pos c26] at H
    have c26b0 : decide (x11_4 < (t1140.length : Int)) = true := decide_eq_true c26
    clear c26
    (first | rw [c26b0] | (simp only [i64_w, i32_w]; rw [c26b0]) | (have cn_ := c26b0; simp only [bne] at cn_; rw [cn_]; clear cn_) | skip)
    replace H := Option.bind_eq_some_iff.mp H
    obtain ⟨t1156, A270, H⟩ := H
    replace H : (laws_FnGraphBy.j4 k4 t1140 t1143 t1144 t1150 x9_4 x10_4 x11_4 t1156) = some r := H
    have A27 := aM A270; clear A270
    have H' := aM H
    clear H
    go_wp2_with (first | (go_at_call 30; (with_reducible refine (spec_KeepOk.calls k4 _ _ t1140 t1156 _ ?side1 ?side2 A27.out).mono ?_); (case side1 => repeat (first | exact (Kd.N_reads' HO_3.out).2.2 | (with_reducible first | refine Ca ?_ _ | refine Cn ?_ _ | refine Cd ?_))); (case side2 => exact (Kd.N_reads' HO_3.out).2.1); rintro e w28 ⟨rfl, hb⟩; have n0_ := aM (Kd.N_below (by (with_reducible repeat (first | apply Na | apply Nn | apply Nd)); exact HO_3.out) hb); have n1_ := aM (Kd.R_below (by (with_reducible repeat (first | apply Ra | apply Rn | apply Rd)); exact HO_5.out) hb); have n2_ := aM (Kd.R_below (by (with_reducible repeat (first | apply Ra | apply Rn | apply Rd)); exact HO_7.out) hb); have n3_ := aM (below_step (by repeat (with_reducible first | exact HB.out | apply bA | apply bN | apply bD)) hb); clear HO_3 HO_5 HO_7 HB; have HO_3 := n0_; have HO_5 := n1_; have HO_7 := n2_; have HB := n3_; clear n0_ n1_ n2_ n3_))
    repeat (go_quiet (first | (go_at_call 30; (with_reducible refine (spec_KeepOk.calls k4 _ _ t1140 t1156 _ ?side1 ?side2 A27.out).mono ?_); (case side1 => repeat (first | exact (Kd.N_reads' HO_3.out).2.2 | (with_reducible first | refine Ca ?_ _ | refine Cn ?_ _ | refine Cd ?_))); (case side2 => exact (Kd.N_reads' HO_3.out).2.1); rintro e w28 ⟨rfl, hb⟩; have n0_ := aM (Kd.N_below (by (with_reducible repeat (first | apply Na | apply Nn | apply Nd)); exact HO_3.out) hb); have n1_ := aM (Kd.R_below (by (with_reducible repeat (first | apply Ra | apply Rn | apply Rd)); exact HO_5.out) hb); have n2_ := aM (Kd.R_below (by (with_reducible repeat (first | apply Ra | apply Rn | apply Rd)); exact HO_7.out) hb); have n3_ := aM (below_step (by repeat (with_reducible first | exact HB.out | apply bA | apply bN | apply bD)) hb); clear HO_3 HO_5 HO_7 HB; have HO_3 := n0_; have HO_5 := n1_; have HO_7 := n2_; have HB := n3_; clear n0_ n1_ n2_ n3_)); try go_wp2_with (first | (go_at_call 30; (with_reducible refine (spec_KeepOk.calls k4 _ _ t1140 t1156 _ ?side1 ?side2 A27.out).mono ?_); (case side1 => repeat (first | exact (Kd.N_reads' HO_3.out).2.2 | (with_reducible first | refine Ca ?_ _ | refine Cn ?_ _ | refine Cd ?_))); (case side2 => exact (Kd.N_reads' HO_3.out).2.1); rintro e w28 ⟨rfl, hb⟩; have n0_ := aM (Kd.N_below (by (with_reducible repeat (first | apply Na | apply Nn | apply Nd)); exact HO_3.out) hb); have n1_ := aM (Kd.R_below (by (with_reducible repeat (first | apply Ra | apply Rn | apply Rd)); exact HO_5.out) hb); have n2_ := aM (Kd.R_below (by (with_reducible repeat (first | apply Ra | apply Rn | apply Rd)); exact HO_7.out) hb); have n3_ := aM (below_step (by repeat (with_reducible first | exact HB.out | apply bA | apply bN | apply bD)) hb); clear HO_3 HO_5 HO_7 HB; have HO_3 := n0_; have HO_5 := n1_; have HO_7 := n2_; have HB := n3_; clear n0_ n1_ n2_ n3_)))
    go_meet
    case rel => exact ⟨_, (t1156), (by first | rfl | (simp; done) | (simp [*]; done)), H', ⟨by have := HJ1.out; have := HJ8.out; have := HJ22.out; have := HK4.out; first | omega | exact Nat.le_refl _⟩, ⟨by (with_reducible repeat (first | apply Na | apply Nn | apply Nd)); exact HO_3.out⟩, ⟨by (with_reducible repeat (first | apply Ra | apply Rn | apply Rd)); exact HO_5.out⟩, ⟨by (with_reducible repeat (first | apply Ra | apply Rn | apply Rd)); exact HO_7.out⟩, ⟨by repeat (with_reducible first | exact HB.out | apply bA | apply bN | apply bD)⟩⟩
  rw [if_neg c26] at H
  have c26b0 : decide (x11_4 < (t1140.length : Int)) = false := decide_eq_false c26
  clear c26
  (first | rw [c26b0] | (simp only [i64_w, i32_w]; rw [c26b0]) | (have cn_ := c26b0; simp only [bne] at cn_; rw [cn_]; clear cn_) | skip)
  have H' := aM H
  clear H
  go_wp2
  repeat (go_quiet (fail); try go_wp2)
  go_meet
  case rel => exact ⟨_, (false), (by first | rfl | (simp; done) | (simp [*]; done)), H', ⟨by have := HJ1.out; have := HJ8.out; have := HJ22.out; have := HK4.out; first | omega | exact Nat.le_refl _⟩, ⟨by (with_reducible repeat (first | apply Na | apply Nn | apply Nd)); exact HO_3.out⟩, ⟨by (with_reducible repeat (first | apply Ra | apply Rn | apply Rd)); exact HO_5.out⟩, ⟨by (with_reducible repeat (first | apply Ra | apply Rn | apply Rd)); exact HO_7.out⟩, ⟨by repeat (with_reducible first | exact HB.out | apply bA | apply bN | apply bD)⟩⟩
 clear HC25; try clear c1; try clear c2; try clear p2; try clear c3; try clear c3b0; try clear c3b1; try clear c11; try clear c16; try clear c16b0; try clear c16b1; try clear c16b2; try clear c24; try clear c26; try clear c26b0; try clear p2
 obtain ⟨kq, x55_24, rfl, HA, HJ24, HO_3, HO_5, HO_7, HB⟩ := hcut
 obtain _ | kj24 := kq
 · exact absurd HA.out (by simp [laws_FnGraphBy.j4])
 have H := HA.out
 clear HA
 simp only [laws_FnGraphBy.j4] at H
 have HC29 := aM H; clear H
 go_upto_if 55 with (fail)
 repeat (go_quiet (fail); go_upto_if 55 with (fail))
 go_cut [] (fun wc => ∃ (kq : Nat), Aside0 (laws_FnGraphBy.j5 kq t1140 t1143 t1144 t1150 x9_4 x10_4 x11_4 = some r) ∧ Aside0 (kq ≤ kj24) ∧ Aside0 (Kd.N k52 52 wc w.heap.size (fun k_ => some k_ ≠ (v1145 : Value).ownBlock ∧ some k_ ≠ (v1151 : Value).ownBlock) (.slice Ao11 t1140.length co11) t1140) ∧ Aside0 (Kd.R Kd.string 9 wc w.heap.size (fun k_ => some k_ ≠ (v1151 : Value).ownBlock) v1145 t1144) ∧ Aside0 (Kd.R Kd.string 9 wc w.heap.size (fun k_ => some k_ ≠ (v1145 : Value).ownBlock) v1151 t1150) ∧ Aside0 (Below w.heap.size w wc))
 case first =>
  have H := HC29.out
  clear HC29
  by_cases c30 : x55_24 = true
  · subst c30
    have H1 : (laws_FnGraphBy.j5 kj24 t1140 t1143 t1144 t1150 x9_4 x10_4 x11_4) = some r := by rw [if_pos rfl] at H; exact H
    clear H
    have H := H1
    clear H1
    have H' := aM H
    clear H
    go_wp2
    repeat (go_quiet (fail); try go_wp2)
    go_meet
    case rel => exact ⟨_, H', ⟨by have := HJ1.out; have := HJ8.out; have := HJ22.out; have := HK4.out; have := HJ24.out; first | omega | exact Nat.le_refl _⟩, ⟨by (with_reducible repeat (first | apply Na | apply Nn | apply Nd)); exact HO_3.out⟩, ⟨by (with_reducible repeat (first | apply Ra | apply Rn | apply Rd)); exact HO_5.out⟩, ⟨by (with_reducible repeat (first | apply Ra | apply Rn | apply Rd)); exact HO_7.out⟩, ⟨by repeat (with_reducible first | exact HB.out | apply bA | apply bN | apply bD)⟩⟩
  replace c30 := Bool.eq_false_iff.mpr c30
  subst c30
  have H1 : (laws_FnGraphBy.l3 kj24 t1144 t1150 x9_4 x10_4 1) = some r := by rw [if_neg (show ¬ (false = true) by decide)] at H; exact H
  clear H
  have H := H1
  clear H1
  have H' := aM H
  clear H
  go_wp2
  repeat (go_quiet (fail); try go_wp2)
  go_loopg [17] kj24 (fun kq v17 w' => ∃ (x17_6 : Int), v17 = .int .i64 x17_6 ∧ Aside0 (laws_FnGraphBy.l3 kq t1144 t1150 x9_4 x10_4 x17_6 = some r) ∧ Aside0 (kq ≤ kj24) ∧ Aside0 (Kd.R Kd.string 9 w' w.heap.size (fun k_ => some k_ ≠ (v1151 : Value).ownBlock) v1145 t1144) ∧ Aside0 (Kd.R Kd.string 9 w' w.heap.size (fun k_ => some k_ ≠ (v1145 : Value).ownBlock) v1151 t1150) ∧ Aside0 (Below w.heap.size w w'))
  case atStart => exact ⟨(1), (by first | rfl | (simp; done) | (simp [*]; done)), H', ⟨Nat.le_refl _⟩, ⟨by (with_reducible repeat (first | apply Ra | apply Rn | apply Rd)); exact HO_5.out⟩, ⟨by (with_reducible repeat (first | apply Ra | apply Rn | apply Rd)); exact HO_7.out⟩, ⟨by repeat (with_reducible first | exact HB.out | apply bA | apply bN | apply bD)⟩⟩
  clear H'
  try clear c1; try clear c2; try clear p2; try clear c3; try clear c3b0; try clear c3b1; try clear c11; try clear c16; try clear c16b0; try clear c16b1; try clear c16b2; try clear c24; try clear c26; try clear c26b0; try clear c30; try clear p2
  obtain ⟨x17_6, rfl, HA, HK6, HO_5, HO_7, HB⟩ := hrel
  obtain _ | k6 := gk
  · exact absurd HA.out (by simp [laws_FnGraphBy.l3])
  have H := HA.out
  clear HA
  simp only [laws_FnGraphBy.l3] at H
  by_cases c31 : x17_6 < (t1150.length : Int)
  · rw [if_pos c31] at H
    have c31b0 : decide (x17_6 < (t1150.length : Int)) = true := decide_eq_true c31
    clear c31
    (first | rw [c31b0] | (simp only [i64_w, i32_w]; rw [c31b0]) | (have cn_ := c31b0; simp only [bne] at cn_; rw [cn_]; clear cn_) | skip)
    by_cases c32 : 0 ≤ x17_6
    · rw [if_pos c32] at H
      have c32b0 : decide (0 ≤ x17_6) = true := decide_eq_true c32
      clear c32
      obtain ⟨ji33, hji33⟩ : ∃ j_ : Int, (wrap64 (x17_6 - 1)) = j_ := ⟨_, rfl⟩
      replace H : (if 0 ≤ (ji33) then (if (ji33) < (t1150.length : Int) then (if ((Op.bytesLess ((rdOf ByteArray.empty t1150 (ji33)).toList) ((rdOf ByteArray.empty t1150 x17_6).toList)) = true) then (laws_FnGraphBy.l3 k6 t1144 t1150 x9_4 x10_4 (wrap64 (x17_6 + 1))) else (some false)) else (none)) else (none)) = some r := by first | (rw [hji33] at H; exact H) | (simp only [hji33] at H ⊢; exact H)
      have hji33w : (IntKind.i64.wrap (x17_6 - 1)) = ji33 := (i64_w _).trans hji33
      by_cases c34 : 0 ≤ (ji33)
      · rw [if_pos c34] at H
        have c34b0 : decide (0 ≤ (ji33)) = true := decide_eq_true c34
        clear c34
        by_cases c35 : (ji33) < (t1150.length : Int)
        · rw [if_pos c35] at H
          have c35b0 : decide ((ji33) < (t1150.length : Int)) = true := decide_eq_true c35
          clear c35
          by_cases c36 : ((Op.bytesLess ((rdOf ByteArray.empty t1150 (ji33)).toList) ((rdOf ByteArray.empty t1150 x17_6).toList)) = true)
          · rw [if_pos c36] at H
            have c36b0 : (Op.bytesLess ((rdOf ByteArray.empty t1150 (ji33)).toList) ((rdOf ByteArray.empty t1150 x17_6).toList)) = true := c36
            clear c36
            have H' := aM H
            clear H
            obtain ⟨Ao37, co37, eo37⟩ := Kd.R_slice HO_7.out
            subst eo37
            have p1164 : 0 ≤ (x17_6 : Int) := oD (by first | with_reducible assumption | assumption)
            have q1164 : x17_6 < (t1150.length : Int) := oD (by first | with_reducible assumption | assumption)
            obtain ⟨ad1164, e1164, hx1164_0⟩ := Kd.at_string (Kd.R_reads' HO_7.out).2.2 x17_6 p1164 q1164
            cases e1164
            replace p1164 := eq_true p1164; replace q1164 := eq_true q1164
            have p1165 : 0 ≤ ((ji33) : Int) := oD (by first | with_reducible assumption | assumption)
            have q1165 : (ji33) < (t1150.length : Int) := oD (by first | with_reducible assumption | assumption)
            obtain ⟨ad1165, e1165, hx1165_0⟩ := Kd.at_string (Kd.R_reads' HO_7.out).2.2 (ji33) p1165 q1165
            obtain rfl : ad1164 = ad1165 := (by injection e1165)
            replace p1165 := eq_true p1165; replace q1165 := eq_true q1165
            go_wp2
            repeat (go_quiet (fail); try go_wp2)
            go_roundg k6
            case measure => have := HJ1.out; have := HJ8.out; have := HJ22.out; have := HK4.out; have := HJ24.out; have := HK6.out; omega
            case rel => exact ⟨(wrap64 (x17_6 + 1)), (by first | rfl | (simp; done) | (simp [*]; done)), H', ⟨by have := HJ1.out; have := HJ8.out; have := HJ22.out; have := HK4.out; have := HJ24.out; have := HK6.out; omega⟩, ⟨by (with_reducible repeat (first | apply Ra | apply Rn | apply Rd)); exact HO_5.out⟩, ⟨by (with_reducible repeat (first | apply Ra | apply Rn | apply Rd)); exact HO_7.out⟩, ⟨by repeat (with_reducible first | exact HB.out | apply bA | apply bN | apply bD)⟩⟩
          rw [if_neg c36] at H
          have c36b0 : (Op.bytesLess ((rdOf ByteArray.empty t1150 (ji33)).toList) ((rdOf ByteArray.empty t1150 x17_6).toList)) = false := by simpa using c36
          clear c36
          obtain rfl := Option.some.inj H
          obtain ⟨Ao38, co38, eo38⟩ := Kd.R_slice HO_7.out
          subst eo38
          have p1164 : 0 ≤ (x17_6 : Int) := oD (by first | with_reducible assumption | assumption)
          have q1164 : x17_6 < (t1150.length : Int) := oD (by first | with_reducible assumption | assumption)
          obtain ⟨ad1164, e1164, hx1164_0⟩ := Kd.at_string (Kd.R_reads' HO_7.out).2.2 x17_6 p1164 q1164
          cases e1164
          replace p1164 := eq_true p1164; replace q1164 := eq_true q1164
          have p1165 : 0 ≤ ((ji33) : Int) := oD (by first | with_reducible assumption | assumption)
          have q1165 : (ji33) < (t1150.length : Int) := oD (by first | with_reducible assumption | assumption)
          obtain ⟨ad1165, e1165, hx1165_0⟩ := Kd.at_string (Kd.R_reads' HO_7.out).2.2 (ji33) p1165 q1165
          obtain rfl : ad1164 = ad1165 := (by injection e1165)
          replace p1165 := eq_true p1165; replace q1165 := eq_true q1165
          go_wp2
          repeat (go_quiet (fail); try go_wp2)
          go_ret
          exact ⟨by first | rfl | (simp [errW_none, errW_some] <;> rfl) | (simp only [← hji33]; first | rfl | (simp [errW_none, errW_some] <;> rfl)) | (simp [*, errW_none, errW_some] <;> rfl), by repeat (with_reducible first | exact HB.out | apply bA | apply bN | apply bD)⟩
        rw [if_neg c35] at H
        exact absurd H (by simp)
      rw [if_neg c34] at H
      exact absurd H (by simp)
    rw [if_neg c32] at H
    exact absurd H (by simp)
  rw [if_neg c31] at H
  have c31b0 : decide (x17_6 < (t1150.length : Int)) = false := decide_eq_false c31
  clear c31
  (first | rw [c31b0] | (simp only [i64_w, i32_w]; rw [c31b0]) | (have cn_ := c31b0; simp only [bne] at cn_; rw [cn_]; clear cn_) | skip)
  by_cases c39 : x9_4 = (t1144.length : Int)
  · rw [if_pos c39] at H
    have c39b0 : (x9_4 == (t1144.length : Int)) = true := beq_iff_eq.mpr c39
    have c39b1 : (x9_4 != (t1144.length : Int)) = false := bne_eq_false_iff_eq.mpr c39
    clear c39
    obtain rfl := Option.some.inj H
    obtain ⟨Ao40, co40, eo40⟩ := Kd.R_slice HO_7.out
    subst eo40
    obtain ⟨Ao41, co41, eo41⟩ := Kd.R_slice HO_5.out
    subst eo41
    go_wp2
    repeat (go_quiet (fail); try go_wp2)
    go_ret
    exact ⟨by first | rfl | (simp [*, errW_none, errW_some] <;> rfl), by repeat (with_reducible first | exact HB.out | apply bA | apply bN | apply bD)⟩
  rw [if_neg c39] at H
  have c39b0 : (x9_4 == (t1144.length : Int)) = false := beq_eq_false_iff_ne.mpr c39
  have c39b1 : (x9_4 != (t1144.length : Int)) = true := bne_iff_ne.mpr c39
  obtain rfl := Option.some.inj H
  obtain ⟨Ao42, co42, eo42⟩ := Kd.R_slice HO_7.out
  subst eo42
  obtain ⟨Ao43, co43, eo43⟩ := Kd.R_slice HO_5.out
  subst eo43
  go_wp2
  repeat (go_quiet (fail); try go_wp2)
  go_ret
  exact ⟨by first | rfl | (simp [*, errW_none, errW_some] <;> rfl), by repeat (with_reducible first | exact HB.out | apply bA | apply bN | apply bD)⟩
 clear HC29; try clear c1; try clear p1; try clear q1; try clear hx1; try clear c2; try clear p2; try clear c3; try clear c3b0; try clear c3b1; try clear p6; try clear c11; try clear p11; try clear q11; try clear hx11; try clear c16; try clear c16b0; try clear c16b1; try clear c16b2; try clear c24; try clear c26; try clear c26b0; try clear c30; try clear c31; try clear c31b0; try clear c32; try clear c32b0; try clear c34; try clear c34b0; try clear c35; try clear c35b0; try clear c36; try clear c36b0; try clear c39; try clear c39b0; try clear c39b1; try clear hx1164_0; try clear hx1165_0; try clear p1164; try clear p1165; try clear p2; try clear q1164; try clear q1165
 obtain ⟨kq, HA, HJ28, HO_3, HO_5, HO_7, HB⟩ := hcut
 obtain _ | kj28 := kq
 · exact absurd HA.out (by simp [laws_FnGraphBy.j5])
 have H := HA.out
 clear HA
 simp only [laws_FnGraphBy.j5] at H
 by_cases c44 : 0 ≤ x11_4
 · rw [if_pos c44] at H
   have c44b0 : decide (0 ≤ x11_4) = true := decide_eq_true c44
   clear c44
   by_cases c45 : x11_4 < (t1140.length : Int)
   · rw [if_pos c45] at H
     have c45b0 : decide (x11_4 < (t1140.length : Int)) = true := decide_eq_true c45
     clear c45
     replace H := Option.bind_eq_some_iff.mp H
     obtain ⟨t1158, A460, H⟩ := H
     replace H : (laws_FnGraphBy.l1 kj28 t1140 t1143 t1144 t1150 x9_4 x10_4 x11_4 t1158 false 0) = some r := H
     have A46 := aM A460; clear A460
     have H' := aM H
     clear H
     have p1157 : 0 ≤ (x11_4 : Int) := oD (by first | with_reducible assumption | assumption)
     have q1157 : x11_4 < (t1140.length : Int) := oD (by first | with_reducible assumption | assumption)
     obtain ⟨ad1157, A1157_2, c1157_2, e1157, hx1157_0, hx1157_1, hx1157_2, hl1157_2, hi1157_2⟩ := at_T52 (Kd.N_reads' HO_3.out).2.2 x11_4 p1157 q1157
     cases e1157
     obtain ⟨ce1157, hce1157, hMe1157, hcc1157⟩ := Kd.N_get HO_3.out z52 x11_4 p1157 (by first | exact q1157 | exact oD (by first | with_reducible assumption | assumption) | (have e_ := (Kd.N_reads' HO_3.out).1; omega))
     obtain ⟨ua1157_2, uc1157_2, rfl, ul1157_2, ge1157_2⟩ := k52_openF hMe1157
     have hv1157_2 := hcc1157 2 _ rfl
     rw [add_field _ _ 2 (by omega)] at hv1157_2
     replace hv1157_2 := Option.some.inj (hv1157_2.symm.trans hx1157_2)
     injection hv1157_2 with hva_ hvn_ hvc_
     rw [hva_] at ge1157_2
     rw [hvc_] at ul1157_2
     have HL1157_2 := aM (show Kd.V k110 110 _ w.heap.size _ _ ((rd_T52 t1140 x11_4).f2) from Kd.V_mk ul1157_2 ge1157_2)
     clear hva_ hvn_ hvc_ ge1157_2 ul1157_2 hcc1157 hce1157; have HR1157_2 := aM hi1157_2; have HC1157_2 := aM hl1157_2; clear hi1157_2 hl1157_2; replace p1157 := eq_true p1157; replace q1157 := eq_true q1157
     go_wp2_with (first | (go_at_call 37; (with_reducible refine (impl_FunRefs.calls kj28 ((rd_T52 t1140 x11_4).f0) ((rd_T52 t1140 x11_4).f1) _ _ ((rd_T52 t1140 x11_4).f2) t1158 _ ?side1 ?side2 A46.out).mono ?_); (case side1 => repeat (first | exact (by repeat (first | (with_reducible exact HR1157_2.out) | (with_reducible first | refine Ca ?_ _ | refine Cn ?_ _ | refine Cd ?_) | exact HR1157_2.out)) | (with_reducible first | refine Ca ?_ _ | refine Cn ?_ _ | refine Cd ?_))); (case side2 => exact HC1157_2.out); rintro e w47 ⟨v1159, rfl, ho0, hb⟩; have n0_ := aM (Kd.N_elder' (by (with_reducible repeat (first | apply Na | apply Nn | apply Nd)); exact HO_3.out) (Kd.R_base ho0) hb); have n1_ := aM (Kd.R_elder' (by (with_reducible repeat (first | apply Ra | apply Rn | apply Rd)); exact HO_5.out) (Kd.R_base ho0) hb); have n2_ := aM (Kd.R_elder' (by (with_reducible repeat (first | apply Ra | apply Rn | apply Rd)); exact HO_7.out) (Kd.R_base ho0) hb); have n3_ := aM (Kd.V_elder' (by (with_reducible repeat (first | apply Va | apply Vn | apply Vd)); exact HL1157_2.out) (Kd.R_base ho0) hb); have n4_ := aM (Kd.R_lower (Kd.R_new' (Kd.R_new' ho0 (Kd.R_lt (by (with_reducible repeat (first | apply Ra | apply Rn | apply Rd)); exact HO_5.out))) (Kd.R_lt (by (with_reducible repeat (first | apply Ra | apply Rn | apply Rd)); exact HO_7.out))) (below_size (by repeat (with_reducible first | exact HB.out | apply bA | apply bN | apply bD)))); have n5_ := aM (Kd.C_below (by repeat (first | (with_reducible exact HR1157_2.out) | (with_reducible first | refine Ca ?_ _ | refine Cn ?_ _ | refine Cd ?_) | exact HR1157_2.out)) hb); have n6_ := aM (below_step (by repeat (with_reducible first | exact HB.out | apply bA | apply bN | apply bD)) hb); clear HO_3 HO_5 HO_7 HL1157_2 HR1157_2 HB; have HO_3 := n0_; have HO_5 := n1_; have HO_7 := n2_; have HL1157_2 := n3_; have HO1160 := n4_; have HR1157_2 := n5_; have HB := n6_; clear n0_ n1_ n2_ n3_ n4_ n5_ n6_; (try clear ho0)))
     repeat (go_quiet (first | (go_at_call 37; (with_reducible refine (impl_FunRefs.calls kj28 ((rd_T52 t1140 x11_4).f0) ((rd_T52 t1140 x11_4).f1) _ _ ((rd_T52 t1140 x11_4).f2) t1158 _ ?side1 ?side2 A46.out).mono ?_); (case side1 => repeat (first | exact (by repeat (first | (with_reducible exact HR1157_2.out) | (with_reducible first | refine Ca ?_ _ | refine Cn ?_ _ | refine Cd ?_) | exact HR1157_2.out)) | (with_reducible first | refine Ca ?_ _ | refine Cn ?_ _ | refine Cd ?_))); (case side2 => exact HC1157_2.out); rintro e w47 ⟨v1159, rfl, ho0, hb⟩; have n0_ := aM (Kd.N_elder' (by (with_reducible repeat (first | apply Na | apply Nn | apply Nd)); exact HO_3.out) (Kd.R_base ho0) hb); have n1_ := aM (Kd.R_elder' (by (with_reducible repeat (first | apply Ra | apply Rn | apply Rd)); exact HO_5.out) (Kd.R_base ho0) hb); have n2_ := aM (Kd.R_elder' (by (with_reducible repeat (first | apply Ra | apply Rn | apply Rd)); exact HO_7.out) (Kd.R_base ho0) hb); have n3_ := aM (Kd.V_elder' (by (with_reducible repeat (first | apply Va | apply Vn | apply Vd)); exact HL1157_2.out) (Kd.R_base ho0) hb); have n4_ := aM (Kd.R_lower (Kd.R_new' (Kd.R_new' ho0 (Kd.R_lt (by (with_reducible repeat (first | apply Ra | apply Rn | apply Rd)); exact HO_5.out))) (Kd.R_lt (by (with_reducible repeat (first | apply Ra | apply Rn | apply Rd)); exact HO_7.out))) (below_size (by repeat (with_reducible first | exact HB.out | apply bA | apply bN | apply bD)))); have n5_ := aM (Kd.C_below (by repeat (first | (with_reducible exact HR1157_2.out) | (with_reducible first | refine Ca ?_ _ | refine Cn ?_ _ | refine Cd ?_) | exact HR1157_2.out)) hb); have n6_ := aM (below_step (by repeat (with_reducible first | exact HB.out | apply bA | apply bN | apply bD)) hb); clear HO_3 HO_5 HO_7 HL1157_2 HR1157_2 HB; have HO_3 := n0_; have HO_5 := n1_; have HO_7 := n2_; have HL1157_2 := n3_; have HO1160 := n4_; have HR1157_2 := n5_; have HB := n6_; clear n0_ n1_ n2_ n3_ n4_ n5_ n6_; (try clear ho0))); try go_wp2_with (first | (go_at_call 37; (with_reducible refine (impl_FunRefs.calls kj28 ((rd_T52 t1140 x11_4).f0) ((rd_T52 t1140 x11_4).f1) _ _ ((rd_T52 t1140 x11_4).f2) t1158 _ ?side1 ?side2 A46.out).mono ?_); (case side1 => repeat (first | exact (by repeat (first | (with_reducible exact HR1157_2.out) | (with_reducible first | refine Ca ?_ _ | refine Cn ?_ _ | refine Cd ?_) | exact HR1157_2.out)) | (with_reducible first | refine Ca ?_ _ | refine Cn ?_ _ | refine Cd ?_))); (case side2 => exact HC1157_2.out); rintro e w47 ⟨v1159, rfl, ho0, hb⟩; have n0_ := aM (Kd.N_elder' (by (with_reducible repeat (first | apply Na | apply Nn | apply Nd)); exact HO_3.out) (Kd.R_base ho0) hb); have n1_ := aM (Kd.R_elder' (by (with_reducible repeat (first | apply Ra | apply Rn | apply Rd)); exact HO_5.out) (Kd.R_base ho0) hb); have n2_ := aM (Kd.R_elder' (by (with_reducible repeat (first | apply Ra | apply Rn | apply Rd)); exact HO_7.out) (Kd.R_base ho0) hb); have n3_ := aM (Kd.V_elder' (by (with_reducible repeat (first | apply Va | apply Vn | apply Vd)); exact HL1157_2.out) (Kd.R_base ho0) hb); have n4_ := aM (Kd.R_lower (Kd.R_new' (Kd.R_new' ho0 (Kd.R_lt (by (with_reducible repeat (first | apply Ra | apply Rn | apply Rd)); exact HO_5.out))) (Kd.R_lt (by (with_reducible repeat (first | apply Ra | apply Rn | apply Rd)); exact HO_7.out))) (below_size (by repeat (with_reducible first | exact HB.out | apply bA | apply bN | apply bD)))); have n5_ := aM (Kd.C_below (by repeat (first | (with_reducible exact HR1157_2.out) | (with_reducible first | refine Ca ?_ _ | refine Cn ?_ _ | refine Cd ?_) | exact HR1157_2.out)) hb); have n6_ := aM (below_step (by repeat (with_reducible first | exact HB.out | apply bA | apply bN | apply bD)) hb); clear HO_3 HO_5 HO_7 HL1157_2 HR1157_2 HB; have HO_3 := n0_; have HO_5 := n1_; have HO_7 := n2_; have HL1157_2 := n3_; have HO1160 := n4_; have HR1157_2 := n5_; have HB := n6_; clear n0_ n1_ n2_ n3_ n4_ n5_ n6_; (try clear ho0))))
     go_loopg [13, 14] kj28 (fun kq v13 v14 w' => ∃ (x13_7 : Bool) (x14_7 : Int), v13 = .bool x13_7 ∧ v14 = .int .i64 x14_7 ∧ Aside0 (laws_FnGraphBy.l1 kq t1140 t1143 t1144 t1150 x9_4 x10_4 x11_4 t1158 x13_7 x14_7 = some r) ∧ Aside0 (kq ≤ kj28) ∧ Aside0 (Kd.N k52 52 w' w.heap.size (fun k_ => some k_ ≠ (v1145 : Value).ownBlock ∧ some k_ ≠ (v1151 : Value).ownBlock ∧ some k_ ≠ (v1159 : Value).ownBlock) (.slice (some ad1157) t1140.length co11) t1140) ∧ Aside0 (Kd.R Kd.string 9 w' w.heap.size (fun k_ => some k_ ≠ (v1151 : Value).ownBlock ∧ some k_ ≠ (v1159 : Value).ownBlock) v1145 t1144) ∧ Aside0 (Kd.R Kd.string 9 w' w.heap.size (fun k_ => some k_ ≠ (v1145 : Value).ownBlock ∧ some k_ ≠ (v1159 : Value).ownBlock) v1151 t1150) ∧ Aside0 (Kd.R Kd.string 9 w' w.heap.size (fun k_ => some k_ ≠ (v1145 : Value).ownBlock ∧ some k_ ≠ (v1151 : Value).ownBlock) v1159 t1158) ∧ Aside0 (Kd.C k110 w' A1157_2 ((rd_T52 t1140 x11_4).f2).length ((rd_T52 t1140 x11_4).f2)) ∧ Aside0 (Below w.heap.size w w'))
     case atStart => exact ⟨(false), (0), (by first | rfl | (simp; done) | (simp [*]; done)), (by first | rfl | (simp; done) | (simp [*]; done)), H', ⟨Nat.le_refl _⟩, ⟨by (with_reducible repeat (first | apply Na | apply Nn | apply Nd)); exact Kd.N_mono HO_3.out (fun _ hk => ⟨hk.1.1, ⟨hk.1.2, hk.2⟩⟩)⟩, ⟨by (with_reducible repeat (first | apply Ra | apply Rn | apply Rd)); exact HO_5.out⟩, ⟨by (with_reducible repeat (first | apply Ra | apply Rn | apply Rd)); exact HO_7.out⟩, ⟨by (with_reducible repeat (first | apply Ra | apply Rn | apply Rd)); exact Kd.R_mono HO1160.out (fun _ hk => ⟨hk.1.2, hk.2⟩)⟩, ⟨by repeat (first | (with_reducible exact HR1157_2.out) | (with_reducible first | refine Ca ?_ _ | refine Cn ?_ _ | refine Cd ?_) | exact HR1157_2.out)⟩, ⟨by repeat (with_reducible first | exact HB.out | apply bA | apply bN | apply bD)⟩⟩
     clear H'
     try clear c1; try clear p1; try clear q1; try clear hx1; try clear c2; try clear p2; try clear c3; try clear c3b0; try clear c3b1; try clear c4; try clear p6; try clear c11; try clear p11; try clear q11; try clear hx11; try clear c16; try clear c16b0; try clear c16b1; try clear c16b2; try clear c24; try clear c26; try clear c26b0; try clear c30; try clear c31; try clear c31b0; try clear c32; try clear c32b0; try clear c34; try clear c34b0; try clear c35; try clear c35b0; try clear c36; try clear c36b0; try clear c39; try clear c39b0; try clear c39b1; try clear c44; try clear c44b0; try clear c45; try clear c45b0; try clear hx1157_0; try clear hx1157_1; try clear hx1157_2; try clear hx1164_0; try clear hx1165_0; try clear p1; try clear p11; try clear p1157; try clear p1164; try clear p1165; try clear p2; try clear p6; try clear q1; try clear q11; try clear q1157; try clear q1164; try clear q1165
     obtain ⟨x13_7, x14_7, rfl, rfl, HA, HK7, HO_3, HO_5, HO_7, HO_12, HR1157_2, HB⟩ := hrel
     obtain _ | k7 := gk
     · exact absurd HA.out (by simp [laws_FnGraphBy.l1])
     have H := HA.out
     clear HA
     simp only [laws_FnGraphBy.l1] at H
     by_cases c48 : x14_7 < (t1158.length : Int)
     · rw [if_pos c48] at H
       have c48b0 : decide (x14_7 < (t1158.length : Int)) = true := decide_eq_true c48
       clear c48
       by_cases c49 : x13_7 = true
       · subst c49
         have H1 : (laws_FnGraphBy.l1 k7 t1140 t1143 t1144 t1150 x9_4 x10_4 x11_4 t1158 true (wrap64 (x14_7 + 1))) = some r := by rw [if_pos rfl] at H; exact H
         clear H
         have H := H1
         clear H1
         have H' := aM H
         clear H
         obtain ⟨Ao50, co50, eo50⟩ := Kd.R_slice HO_12.out
         subst eo50
         go_wp2
         repeat (go_quiet (fail); try go_wp2)
         go_roundg k7
         case measure => have := HJ1.out; have := HJ8.out; have := HJ22.out; have := HK4.out; have := HJ24.out; have := HJ28.out; have := HK7.out; omega
         case rel => exact ⟨(true), (wrap64 (x14_7 + 1)), (by first | rfl | (simp; done) | (simp [*]; done)), (by first | rfl | (simp; done) | (simp [*]; done)), H', ⟨by have := HJ1.out; have := HJ8.out; have := HJ22.out; have := HK4.out; have := HJ24.out; have := HJ28.out; have := HK7.out; omega⟩, ⟨by (with_reducible repeat (first | apply Na | apply Nn | apply Nd)); exact HO_3.out⟩, ⟨by (with_reducible repeat (first | apply Ra | apply Rn | apply Rd)); exact HO_5.out⟩, ⟨by (with_reducible repeat (first | apply Ra | apply Rn | apply Rd)); exact HO_7.out⟩, ⟨by (with_reducible repeat (first | apply Ra | apply Rn | apply Rd)); exact HO_12.out⟩, ⟨by repeat (first | (with_reducible exact HR1157_2.out) | (with_reducible first | refine Ca ?_ _ | refine Cn ?_ _ | refine Cd ?_) | exact HR1157_2.out)⟩, ⟨by repeat (with_reducible first | exact HB.out | apply bA | apply bN | apply bD)⟩⟩
       replace c49 := Bool.eq_false_iff.mpr c49
       subst c49
       have H1 : (if 0 ≤ x14_7 then (laws_FnGraphBy.l1 k7 t1140 t1143 t1144 t1150 x9_4 x10_4 x11_4 t1158 ((rdOf ByteArray.empty t1158 x14_7).toList == t1143.toList) (wrap64 (x14_7 + 1))) else (none)) = some r := by rw [if_neg (show ¬ (false = true) by decide)] at H; exact H
       clear H
       have H := H1
       clear H1
       by_cases c51 : 0 ≤ x14_7
       · rw [if_pos c51] at H
         have c51b0 : decide (0 ≤ x14_7) = true := decide_eq_true c51
         clear c51
         have H' := aM H
         clear H
         obtain ⟨Ao52, co52, eo52⟩ := Kd.R_slice HO_12.out
         subst eo52
         have p1161 : 0 ≤ (x14_7 : Int) := oD (by first | with_reducible assumption | assumption)
         have q1161 : x14_7 < (t1158.length : Int) := oD (by first | with_reducible assumption | assumption)
         obtain ⟨ad1161, e1161, hx1161_0⟩ := Kd.at_string (Kd.R_reads' HO_12.out).2.2 x14_7 p1161 q1161
         cases e1161
         replace p1161 := eq_true p1161; replace q1161 := eq_true q1161
         go_wp2
         repeat (go_quiet (fail); try go_wp2)
         go_roundg k7
         case measure => have := HJ1.out; have := HJ8.out; have := HJ22.out; have := HK4.out; have := HJ24.out; have := HJ28.out; have := HK7.out; omega
         case rel => exact ⟨(((rdOf ByteArray.empty t1158 x14_7).toList == t1143.toList)), (wrap64 (x14_7 + 1)), (by first | rfl | (simp; done) | (simp [*]; done)), (by first | rfl | (simp; done) | (simp [*]; done)), H', ⟨by have := HJ1.out; have := HJ8.out; have := HJ22.out; have := HK4.out; have := HJ24.out; have := HJ28.out; have := HK7.out; omega⟩, ⟨by (with_reducible repeat (first | apply Na | apply Nn | apply Nd)); exact HO_3.out⟩, ⟨by (with_reducible repeat (first | apply Ra | apply Rn | apply Rd)); exact HO_5.out⟩, ⟨by (with_reducible repeat (first | apply Ra | apply Rn | apply Rd)); exact HO_7.out⟩, ⟨by (with_reducible repeat (first | apply Ra | apply Rn | apply Rd)); exact HO_12.out⟩, ⟨by repeat (first | (with_reducible exact HR1157_2.out) | (with_reducible first | refine Ca ?_ _ | refine Cn ?_ _ | refine Cd ?_) | exact HR1157_2.out)⟩, ⟨by repeat (with_reducible first | exact HB.out | apply bA | apply bN | apply bD)⟩⟩
       rw [if_neg c51] at H
       exact absurd H (by simp)
     rw [if_neg c48] at H
     have c48b0 : decide (x14_7 < (t1158.length : Int)) = false := decide_eq_false c48
     clear c48
     have H' := aM H
     clear H
     obtain ⟨Ao53, co53, eo53⟩ := Kd.R_slice HO_12.out
     subst eo53
     go_wp2
     repeat (go_quiet (fail); try go_wp2)
     go_loopg [15, 16] k7 (fun kq v15 v16 w' => ∃ (x15_8 : Bool) (x16_8 : Int), v15 = .bool x15_8 ∧ v16 = .int .i64 x16_8 ∧ Aside0 (laws_FnGraphBy.l2 kq t1140 t1143 t1144 t1150 x9_4 x10_4 x11_4 t1158 x13_7 x15_8 x16_8 = some r) ∧ Aside0 (kq ≤ k7) ∧ Aside0 (Kd.N k52 52 w' w.heap.size (fun k_ => some k_ ≠ (v1145 : Value).ownBlock ∧ some k_ ≠ (v1151 : Value).ownBlock ∧ some k_ ≠ ((.slice Ao53 t1158.length co53) : Value).ownBlock) (.slice (some ad1157) t1140.length co11) t1140) ∧ Aside0 (Kd.R Kd.string 9 w' w.heap.size (fun k_ => some k_ ≠ (v1151 : Value).ownBlock ∧ some k_ ≠ ((.slice Ao53 t1158.length co53) : Value).ownBlock) v1145 t1144) ∧ Aside0 (Kd.R Kd.string 9 w' w.heap.size (fun k_ => some k_ ≠ (v1145 : Value).ownBlock ∧ some k_ ≠ ((.slice Ao53 t1158.length co53) : Value).ownBlock) v1151 t1150) ∧ Aside0 (Kd.R Kd.string 9 w' w.heap.size (fun k_ => some k_ ≠ (v1145 : Value).ownBlock ∧ some k_ ≠ (v1151 : Value).ownBlock) (.slice Ao53 t1158.length co53) t1158) ∧ Aside0 (Kd.C k110 w' A1157_2 ((rd_T52 t1140 x11_4).f2).length ((rd_T52 t1140 x11_4).f2)) ∧ Aside0 (Below w.heap.size w w'))
     case atStart => exact ⟨(false), (0), (by first | rfl | (simp; done) | (simp [*]; done)), (by first | rfl | (simp; done) | (simp [*]; done)), H', ⟨Nat.le_refl _⟩, ⟨by (with_reducible repeat (first | apply Na | apply Nn | apply Nd)); exact HO_3.out⟩, ⟨by (with_reducible repeat (first | apply Ra | apply Rn | apply Rd)); exact HO_5.out⟩, ⟨by (with_reducible repeat (first | apply Ra | apply Rn | apply Rd)); exact HO_7.out⟩, ⟨by (with_reducible repeat (first | apply Ra | apply Rn | apply Rd)); exact HO_12.out⟩, ⟨by repeat (first | (with_reducible exact HR1157_2.out) | (with_reducible first | refine Ca ?_ _ | refine Cn ?_ _ | refine Cd ?_) | exact HR1157_2.out)⟩, ⟨by repeat (with_reducible first | exact HB.out | apply bA | apply bN | apply bD)⟩⟩
     clear H'
     try clear c1; try clear p1; try clear q1; try clear hx1; try clear c2; try clear p2; try clear c3; try clear c3b0; try clear c3b1; try clear c4; try clear c5; try clear p6; try clear c11; try clear p11; try clear q11; try clear hx11; try clear c16; try clear c16b0; try clear c16b1; try clear c16b2; try clear c24; try clear c26; try clear c26b0; try clear c30; try clear c31; try clear c31b0; try clear c32; try clear c32b0; try clear c34; try clear c34b0; try clear c35; try clear c35b0; try clear c36; try clear c36b0; try clear c39; try clear c39b0; try clear c39b1; try clear c44; try clear c44b0; try clear c45; try clear c45b0; try clear c48; try clear c48b0; try clear c49; try clear c51; try clear c51b0; try clear hx1157_0; try clear hx1157_1; try clear hx1157_2; try clear hx1161_0; try clear hx1164_0; try clear hx1165_0; try clear p1; try clear p11; try clear p1157; try clear p1161; try clear p1164; try clear p1165; try clear p2; try clear p6; try clear q1; try clear q11; try clear q1157; try clear q1161; try clear q1164; try clear q1165
     obtain ⟨x15_8, x16_8, rfl, rfl, HA, HK8, HO_3, HO_5, HO_7, HO_12, HR1157_2, HB⟩ := hrel
     obtain _ | k8 := gk
     · exact absurd HA.out (by simp [laws_FnGraphBy.l2])
     have H := HA.out
     clear HA
     simp only [laws_FnGraphBy.l2] at H
     by_cases c54 : x16_8 < (t1144.length : Int)
     · rw [if_pos c54] at H
       have c54b0 : decide (x16_8 < (t1144.length : Int)) = true := decide_eq_true c54
       clear c54
       by_cases c55 : x15_8 = true
       · subst c55
         have H1 : (laws_FnGraphBy.l2 k8 t1140 t1143 t1144 t1150 x9_4 x10_4 x11_4 t1158 x13_7 true (wrap64 (x16_8 + 1))) = some r := by rw [if_pos rfl] at H; exact H
         clear H
         have H := H1
         clear H1
         have H' := aM H
         clear H
         obtain ⟨Ao56, co56, eo56⟩ := Kd.R_slice HO_5.out
         subst eo56
         go_wp2
         repeat (go_quiet (fail); try go_wp2)
         go_roundg k8
         case measure => have := HJ1.out; have := HJ8.out; have := HJ22.out; have := HK4.out; have := HJ24.out; have := HJ28.out; have := HK7.out; have := HK8.out; omega
         case rel => exact ⟨(true), (wrap64 (x16_8 + 1)), (by first | rfl | (simp; done) | (simp [*]; done)), (by first | rfl | (simp; done) | (simp [*]; done)), H', ⟨by have := HJ1.out; have := HJ8.out; have := HJ22.out; have := HK4.out; have := HJ24.out; have := HJ28.out; have := HK7.out; have := HK8.out; omega⟩, ⟨by (with_reducible repeat (first | apply Na | apply Nn | apply Nd)); exact HO_3.out⟩, ⟨by (with_reducible repeat (first | apply Ra | apply Rn | apply Rd)); exact HO_5.out⟩, ⟨by (with_reducible repeat (first | apply Ra | apply Rn | apply Rd)); exact HO_7.out⟩, ⟨by (with_reducible repeat (first | apply Ra | apply Rn | apply Rd)); exact HO_12.out⟩, ⟨by repeat (first | (with_reducible exact HR1157_2.out) | (with_reducible first | refine Ca ?_ _ | refine Cn ?_ _ | refine Cd ?_) | exact HR1157_2.out)⟩, ⟨by repeat (with_reducible first | exact HB.out | apply bA | apply bN | apply bD)⟩⟩
       replace c55 := Bool.eq_false_iff.mpr c55
       subst c55
       have H1 : (if 0 ≤ x16_8 then (if 0 ≤ x11_4 then (if x11_4 < (t1140.length : Int) then (laws_FnGraphBy.l2 k8 t1140 t1143 t1144 t1150 x9_4 x10_4 x11_4 t1158 x13_7 ((rdOf ByteArray.empty t1144 x16_8).toList == ((rd_T52 t1140 x11_4).f0).toList) (wrap64 (x16_8 + 1))) else (none)) else (none)) else (none)) = some r := by rw [if_neg (show ¬ (false = true) by decide)] at H; exact H
       clear H
       have H := H1
       clear H1
       by_cases c57 : 0 ≤ x16_8
       · rw [if_pos c57] at H
         have c57b0 : decide (0 ≤ x16_8) = true := decide_eq_true c57
         clear c57
         by_cases c58 : 0 ≤ x11_4
         · rw [if_pos c58] at H
           have c58b0 : decide (0 ≤ x11_4) = true := decide_eq_true c58
           clear c58
           by_cases c59 : x11_4 < (t1140.length : Int)
           · rw [if_pos c59] at H
             have c59b0 : decide (x11_4 < (t1140.length : Int)) = true := decide_eq_true c59
             clear c59
             have H' := aM H
             clear H
             obtain ⟨Ao60, co60, eo60⟩ := Kd.R_slice HO_5.out
             subst eo60
             have p1162 : 0 ≤ (x16_8 : Int) := oD (by first | with_reducible assumption | assumption)
             have q1162 : x16_8 < (t1144.length : Int) := oD (by first | with_reducible assumption | assumption)
             obtain ⟨ad1162, e1162, hx1162_0⟩ := Kd.at_string (Kd.R_reads' HO_5.out).2.2 x16_8 p1162 q1162
             cases e1162
             replace p1162 := eq_true p1162; replace q1162 := eq_true q1162
             have p1163 : 0 ≤ (x11_4 : Int) := oD (by first | with_reducible assumption | assumption)
             have q1163 : x11_4 < (t1140.length : Int) := oD (by first | with_reducible assumption | assumption)
             obtain ⟨ad1163, A1163_2, c1163_2, e1163, hx1163_0, hx1163_1, hx1163_2, hl1163_2, hi1163_2⟩ := at_T52 (Kd.N_reads' HO_3.out).2.2 x11_4 p1163 q1163
             obtain rfl : ad1157 = ad1163 := (by injection e1163)
             obtain ⟨ce1163, hce1163, hMe1163, hcc1163⟩ := Kd.N_get HO_3.out z52 x11_4 p1163 (by first | exact q1163 | exact oD (by first | with_reducible assumption | assumption) | (have e_ := (Kd.N_reads' HO_3.out).1; omega))
             obtain ⟨ua1163_2, uc1163_2, rfl, ul1163_2, ge1163_2⟩ := k52_openF hMe1163
             have hv1163_2 := hcc1163 2 _ rfl
             rw [add_field _ _ 2 (by omega)] at hv1163_2
             replace hv1163_2 := Option.some.inj (hv1163_2.symm.trans hx1163_2)
             injection hv1163_2 with hva_ hvn_ hvc_
             rw [hva_] at ge1163_2
             rw [hvc_] at ul1163_2
             have HL1163_2 := aM (show Kd.V k110 110 _ w.heap.size _ _ ((rd_T52 t1140 x11_4).f2) from Kd.V_mk ul1163_2 ge1163_2)
             clear hva_ hvn_ hvc_ ge1163_2 ul1163_2 hcc1163 hce1163; have HR1163_2 := aM hi1163_2; have HC1163_2 := aM hl1163_2; clear hi1163_2 hl1163_2; replace p1163 := eq_true p1163; replace q1163 := eq_true q1163
             go_wp2
             repeat (go_quiet (fail); try go_wp2)
             go_roundg k8
             case measure => have := HJ1.out; have := HJ8.out; have := HJ22.out; have := HK4.out; have := HJ24.out; have := HJ28.out; have := HK7.out; have := HK8.out; omega
             case rel => exact ⟨(((rdOf ByteArray.empty t1144 x16_8).toList == ((rd_T52 t1140 x11_4).f0).toList)), (wrap64 (x16_8 + 1)), (by first | rfl | (simp; done) | (simp [*]; done)), (by first | rfl | (simp; done) | (simp [*]; done)), H', ⟨by have := HJ1.out; have := HJ8.out; have := HJ22.out; have := HK4.out; have := HJ24.out; have := HJ28.out; have := HK7.out; have := HK8.out; omega⟩, ⟨by (with_reducible repeat (first | apply Na | apply Nn | apply Nd)); exact HO_3.out⟩, ⟨by (with_reducible repeat (first | apply Ra | apply Rn | apply Rd)); exact HO_5.out⟩, ⟨by (with_reducible repeat (first | apply Ra | apply Rn | apply Rd)); exact HO_7.out⟩, ⟨by (with_reducible repeat (first | apply Ra | apply Rn | apply Rd)); exact HO_12.out⟩, ⟨by repeat (first | (with_reducible exact HR1157_2.out) | (with_reducible first | refine Ca ?_ _ | refine Cn ?_ _ | refine Cd ?_) | exact HR1157_2.out)⟩, ⟨by repeat (with_reducible first | exact HB.out | apply bA | apply bN | apply bD)⟩⟩
           rw [if_neg c59] at H
           exact absurd H (by simp)
         rw [if_neg c58] at H
         exact absurd H (by simp)
       rw [if_neg c57] at H
       exact absurd H (by simp)
     rw [if_neg c54] at H
     have c54b0 : decide (x16_8 < (t1144.length : Int)) = false := decide_eq_false c54
     clear c54; have HC61 := aM H; clear H
     obtain ⟨Ao62, co62, eo62⟩ := Kd.R_slice HO_5.out
     subst eo62
     go_upto_if 99 with (fail)
     repeat (go_quiet (fail); go_upto_if 99 with (fail))
     go_cut [] (fun wc => ∃ (kq : Nat), Aside0 (laws_FnGraphBy.j8 kq t1140 t1143 t1144 t1150 x9_4 x10_4 x11_4 t1158 x13_7 = some r) ∧ Aside0 (kq ≤ k8) ∧ Aside0 (Kd.N k52 52 wc w.heap.size (fun k_ => some k_ ≠ ((.slice Ao62 t1144.length co62) : Value).ownBlock ∧ some k_ ≠ (v1151 : Value).ownBlock ∧ some k_ ≠ ((.slice Ao53 t1158.length co53) : Value).ownBlock) (.slice (some ad1157) t1140.length co11) t1140) ∧ Aside0 (Kd.R Kd.string 9 wc w.heap.size (fun k_ => some k_ ≠ (v1151 : Value).ownBlock ∧ some k_ ≠ ((.slice Ao53 t1158.length co53) : Value).ownBlock) (.slice Ao62 t1144.length co62) t1144) ∧ Aside0 (Kd.R Kd.string 9 wc w.heap.size (fun k_ => some k_ ≠ ((.slice Ao62 t1144.length co62) : Value).ownBlock ∧ some k_ ≠ ((.slice Ao53 t1158.length co53) : Value).ownBlock) v1151 t1150) ∧ Aside0 (Kd.R Kd.string 9 wc w.heap.size (fun k_ => some k_ ≠ ((.slice Ao62 t1144.length co62) : Value).ownBlock ∧ some k_ ≠ (v1151 : Value).ownBlock) (.slice Ao53 t1158.length co53) t1158) ∧ Aside0 (Kd.C k110 wc A1157_2 ((rd_T52 t1140 x11_4).f2).length ((rd_T52 t1140 x11_4).f2)) ∧ Aside0 (Below w.heap.size w wc))
     case first =>
      have H := HC61.out
      clear HC61
      by_cases c63 : (x13_7 != x15_8) = true
      · rw [if_pos c63] at H
        have c63b0 : (x13_7 != x15_8) = true := c63
        (try (have c63b1 : decide (x13_7 = x15_8) = false := by simpa using c63))
        (try (have c63b2 : (x13_7 == x15_8) = false := by simpa using c63))
        (try (have c63b3 : ¬ (x13_7 = x15_8) := by simpa using c63))
        clear c63
        (first | rw [c63b0] | (simp only [i64_w, i32_w]; rw [c63b0]) | (have cn_ := c63b0; simp only [bne] at cn_; rw [cn_]; clear cn_) | skip)
        obtain rfl := Option.some.inj H
        go_wp2
        repeat (go_quiet (fail); try go_wp2)
        go_ret
        exact ⟨by first | rfl | (simp [*, errW_none, errW_some] <;> rfl), by repeat (with_reducible first | exact HB.out | apply bA | apply bN | apply bD)⟩
      rw [if_neg c63] at H
      have c63b0 : (x13_7 != x15_8) = false := by simpa using c63
      (try (have c63b1 : decide (x13_7 = x15_8) = true := by simpa using c63))
      (try (have c63b2 : (x13_7 == x15_8) = true := by simpa using c63))
      clear c63
      (first | rw [c63b0] | (simp only [i64_w, i32_w]; rw [c63b0]) | (have cn_ := c63b0; simp only [bne] at cn_; rw [cn_]; clear cn_) | skip)
      have H' := aM H
      clear H
      go_wp2
      repeat (go_quiet (fail); try go_wp2)
      go_meet
      case rel => exact ⟨_, H', ⟨by have := HJ1.out; have := HJ8.out; have := HJ22.out; have := HK4.out; have := HJ24.out; have := HJ28.out; have := HK7.out; have := HK8.out; first | omega | exact Nat.le_refl _⟩, ⟨by (with_reducible repeat (first | apply Na | apply Nn | apply Nd)); exact HO_3.out⟩, ⟨by (with_reducible repeat (first | apply Ra | apply Rn | apply Rd)); exact HO_5.out⟩, ⟨by (with_reducible repeat (first | apply Ra | apply Rn | apply Rd)); exact HO_7.out⟩, ⟨by (with_reducible repeat (first | apply Ra | apply Rn | apply Rd)); exact HO_12.out⟩, ⟨by repeat (first | (with_reducible exact HR1157_2.out) | (with_reducible first | refine Ca ?_ _ | refine Cn ?_ _ | refine Cd ?_) | exact HR1157_2.out)⟩, ⟨by repeat (with_reducible first | exact HB.out | apply bA | apply bN | apply bD)⟩⟩
     clear HC61; try clear c1; try clear p1; try clear q1; try clear hx1; try clear c2; try clear p2; try clear c3; try clear c3b0; try clear c3b1; try clear c4; try clear c5; try clear c6; try clear p6; try clear c11; try clear p11; try clear q11; try clear hx11; try clear c16; try clear c16b0; try clear c16b1; try clear c16b2; try clear c24; try clear c26; try clear c26b0; try clear c30; try clear c31; try clear c31b0; try clear c32; try clear c32b0; try clear c34; try clear c34b0; try clear c35; try clear c35b0; try clear c36; try clear c36b0; try clear c39; try clear c39b0; try clear c39b1; try clear c44; try clear c44b0; try clear c45; try clear c45b0; try clear c48; try clear c48b0; try clear c49; try clear c51; try clear c51b0; try clear c54; try clear c54b0; try clear c55; try clear c57; try clear c57b0; try clear c58; try clear c58b0; try clear c59; try clear c59b0; try clear c63; try clear c63b0; try clear c63b1; try clear c63b2; try clear hx1157_0; try clear hx1157_1; try clear hx1157_2; try clear hx1161_0; try clear hx1162_0; try clear hx1163_0; try clear hx1163_1; try clear hx1163_2; try clear hx1164_0; try clear hx1165_0; try clear p1; try clear p11; try clear p1157; try clear p1161
     try clear p1162; try clear p1163; try clear p1164; try clear p1165; try clear p2; try clear p6; try clear q1; try clear q11; try clear q1157; try clear q1161; try clear q1162; try clear q1163; try clear q1164; try clear q1165
     obtain ⟨kq, HA, HJ60, HO_3, HO_5, HO_7, HO_12, HR1157_2, HB⟩ := hcut
     obtain _ | kj60 := kq
     · exact absurd HA.out (by simp [laws_FnGraphBy.j8])
     have H := HA.out
     clear HA
     simp only [laws_FnGraphBy.j8] at H
     by_cases c64 : x13_7 = true
     · subst c64
       have H1 : (if (t1158.length : Int) = 0 then (laws_FnGraphBy.l0 kj60 t1140 t1143 t1144 t1150 (wrap64 (x9_4 + 1)) (wrap64 (x10_4 + 1)) (wrap64 (x11_4 + 1))) else (laws_FnGraphBy.l0 kj60 t1140 t1143 t1144 t1150 (wrap64 (x9_4 + 1)) x10_4 (wrap64 (x11_4 + 1)))) = some r := by rw [if_pos rfl] at H; exact H
       clear H
       have H := H1
       clear H1
       by_cases c65 : (t1158.length : Int) = 0
       · rw [if_pos c65] at H
         have c65b0 : ((t1158.length : Int) == 0) = true := beq_iff_eq.mpr c65
         have c65b1 : ((t1158.length : Int) != 0) = false := bne_eq_false_iff_eq.mpr c65
         clear c65
         have H' := aM H
         clear H
         go_wp2
         repeat (go_quiet (fail); try go_wp2)
         go_roundg kj60
         case measure => have := HJ1.out; have := HJ8.out; have := HJ22.out; have := HK4.out; have := HJ24.out; have := HJ28.out; have := HK7.out; have := HK8.out; have := HJ60.out; omega
         case rel => exact ⟨(wrap64 (x9_4 + 1)), (wrap64 (x10_4 + 1)), (wrap64 (x11_4 + 1)), (by first | rfl | (simp; done) | (simp [*]; done)), (by first | rfl | (simp; done) | (simp [*]; done)), (by first | rfl | (simp; done) | (simp [*]; done)), H', ⟨by have := HJ1.out; have := HJ8.out; have := HJ22.out; have := HK4.out; have := HJ24.out; have := HJ28.out; have := HK7.out; have := HK8.out; have := HJ60.out; omega⟩, ⟨by (with_reducible repeat (first | apply Na | apply Nn | apply Nd)); exact Kd.N_mono HO_3.out (fun _ hk => ⟨hk.1, hk.2.1⟩)⟩, ⟨by (with_reducible repeat (first | apply Ra | apply Rn | apply Rd)); exact Kd.R_mono HO_5.out (fun _ hk => hk.1)⟩, ⟨by (with_reducible repeat (first | apply Ra | apply Rn | apply Rd)); exact Kd.R_mono HO_7.out (fun _ hk => hk.1)⟩, ⟨by repeat (with_reducible first | exact HB.out | apply bA | apply bN | apply bD)⟩⟩
       rw [if_neg c65] at H
       have c65b0 : ((t1158.length : Int) == 0) = false := beq_eq_false_iff_ne.mpr c65
       have c65b1 : ((t1158.length : Int) != 0) = true := bne_iff_ne.mpr c65
       have c65b2 : ¬ (t1158 = []) := fun h_ => c65 (by rw [h_]; rfl)
       have H' := aM H
       clear H
       go_wp2
       repeat (go_quiet (fail); try go_wp2)
       go_roundg kj60
       case measure => have := HJ1.out; have := HJ8.out; have := HJ22.out; have := HK4.out; have := HJ24.out; have := HJ28.out; have := HK7.out; have := HK8.out; have := HJ60.out; omega
       case rel => exact ⟨(wrap64 (x9_4 + 1)), (x10_4), (wrap64 (x11_4 + 1)), (by first | rfl | (simp; done) | (simp [*]; done)), (by first | rfl | (simp; done) | (simp [*]; done)), (by first | rfl | (simp; done) | (simp [*]; done)), H', ⟨by have := HJ1.out; have := HJ8.out; have := HJ22.out; have := HK4.out; have := HJ24.out; have := HJ28.out; have := HK7.out; have := HK8.out; have := HJ60.out; omega⟩, ⟨by (with_reducible repeat (first | apply Na | apply Nn | apply Nd)); exact Kd.N_mono HO_3.out (fun _ hk => ⟨hk.1, hk.2.1⟩)⟩, ⟨by (with_reducible repeat (first | apply Ra | apply Rn | apply Rd)); exact Kd.R_mono HO_5.out (fun _ hk => hk.1)⟩, ⟨by (with_reducible repeat (first | apply Ra | apply Rn | apply Rd)); exact Kd.R_mono HO_7.out (fun _ hk => hk.1)⟩, ⟨by repeat (with_reducible first | exact HB.out | apply bA | apply bN | apply bD)⟩⟩
     replace c64 := Bool.eq_false_iff.mpr c64
     subst c64
     have H1 : (if (t1158.length : Int) = 0 then (laws_FnGraphBy.l0 kj60 t1140 t1143 t1144 t1150 x9_4 (wrap64 (x10_4 + 1)) (wrap64 (x11_4 + 1))) else (laws_FnGraphBy.l0 kj60 t1140 t1143 t1144 t1150 x9_4 x10_4 (wrap64 (x11_4 + 1)))) = some r := by rw [if_neg (show ¬ (false = true) by decide)] at H; exact H
     clear H
     have H := H1
     clear H1
     by_cases c66 : (t1158.length : Int) = 0
     · rw [if_pos c66] at H
       have c66b0 : ((t1158.length : Int) == 0) = true := beq_iff_eq.mpr c66
       have c66b1 : ((t1158.length : Int) != 0) = false := bne_eq_false_iff_eq.mpr c66
       clear c66
       have H' := aM H
       clear H
       go_wp2
       repeat (go_quiet (fail); try go_wp2)
       go_roundg kj60
       case measure => have := HJ1.out; have := HJ8.out; have := HJ22.out; have := HK4.out; have := HJ24.out; have := HJ28.out; have := HK7.out; have := HK8.out; have := HJ60.out; omega
       case rel => exact ⟨(x9_4), (wrap64 (x10_4 + 1)), (wrap64 (x11_4 + 1)), (by first | rfl | (simp; done) | (simp [*]; done)), (by first | rfl | (simp; done) | (simp [*]; done)), (by first | rfl | (simp; done) | (simp [*]; done)), H', ⟨by have := HJ1.out; have := HJ8.out; have := HJ22.out; have := HK4.out; have := HJ24.out; have := HJ28.out; have := HK7.out; have := HK8.out; have := HJ60.out; omega⟩, ⟨by (with_reducible repeat (first | apply Na | apply Nn | apply Nd)); exact Kd.N_mono HO_3.out (fun _ hk => ⟨hk.1, hk.2.1⟩)⟩, ⟨by (with_reducible repeat (first | apply Ra | apply Rn | apply Rd)); exact Kd.R_mono HO_5.out (fun _ hk => hk.1)⟩, ⟨by (with_reducible repeat (first | apply Ra | apply Rn | apply Rd)); exact Kd.R_mono HO_7.out (fun _ hk => hk.1)⟩, ⟨by repeat (with_reducible first | exact HB.out | apply bA | apply bN | apply bD)⟩⟩
     rw [if_neg c66] at H
     have c66b0 : ((t1158.length : Int) == 0) = false := beq_eq_false_iff_ne.mpr c66
     have c66b1 : ((t1158.length : Int) != 0) = true := bne_iff_ne.mpr c66
     have c66b2 : ¬ (t1158 = []) := fun h_ => c66 (by rw [h_]; rfl)
     have H' := aM H
     clear H
     go_wp2
     repeat (go_quiet (fail); try go_wp2)
     go_roundg kj60
     case measure => have := HJ1.out; have := HJ8.out; have := HJ22.out; have := HK4.out; have := HJ24.out; have := HJ28.out; have := HK7.out; have := HK8.out; have := HJ60.out; omega
     case rel => exact ⟨(x9_4), (x10_4), (wrap64 (x11_4 + 1)), (by first | rfl | (simp; done) | (simp [*]; done)), (by first | rfl | (simp; done) | (simp [*]; done)), (by first | rfl | (simp; done) | (simp [*]; done)), H', ⟨by have := HJ1.out; have := HJ8.out; have := HJ22.out; have := HK4.out; have := HJ24.out; have := HJ28.out; have := HK7.out; have := HK8.out; have := HJ60.out; omega⟩, ⟨by (with_reducible repeat (first | apply Na | apply Nn | apply Nd)); exact Kd.N_mono HO_3.out (fun _ hk => ⟨hk.1, hk.2.1⟩)⟩, ⟨by (with_reducible repeat (first | apply Ra | apply Rn | apply Rd)); exact Kd.R_mono HO_5.out (fun _ hk => hk.1)⟩, ⟨by (with_reducible repeat (first | apply Ra | apply Rn | apply Rd)); exact Kd.R_mono HO_7.out (fun _ hk => hk.1)⟩, ⟨by repeat (with_reducible first | exact HB.out | apply bA | apply bN | apply bD)⟩⟩
   rw [if_neg c45] at H
   exact absurd H (by simp)
 rw [if_neg c44] at H
 exact absurd H (by simp)
def laws_FnGraphBy.Pure : Prop := ∀ (l0 : List Int), l0.length ≤ maxLen → l0.length * 1 ≤ 140737488351232 → (∀ x ∈ l0, (Lit.int .u8 x).wf = true) → ∃ k, laws_FnGraphBy.f k l0 = some true
theorem laws_FnGraphBy.walk (P : laws_FnGraphBy.Pure) (a0 : Option Addr) (len0 cap0 : Nat) (z0 : List Int) (w : World) (w0 : (a0 = none ∧ len0 = 0 ∧ cap0 = 0 ∧ z0 = []) ∨ ∃ x, a0 = some x ∧ len0 ≤ cap0 ∧ cap0 ≤ maxLen ∧ z0.length = cap0 ∧ (∀ i, i < z0.length → w.cell? (x.add i) = some (.int .u8 (z0.getD i 0))) ∧ ∀ n ∈ z0, (Lit.int .u8 n).wf = true) (y0 : len0 * 1 ≤ 140737488351232) :
    Calls Try.prog 11 #[.slice a0 len0 cap0] w fun e w' => e = .returned (.bool true) ∧ Below w.heap.size w w' := by
  obtain ⟨l0, rfl, hr0, hm0, hw0, hc0⟩ := ReadsInt.ofRowC w0
  obtain ⟨k, h⟩ := P l0 hm0 y0 hw0
  refine (laws_FnGraphBy.calls k _ _ l0 true w (Kd.C_of_reads (d := (0 : Int)) (h1 := fun _ => rfl) hr0) hc0 h).mono ?_
  rintro e w' ⟨rfl, hd⟩
  exact ⟨rfl, hd⟩
end Go.Proofs.Ytppmalfpggkpdaa.P
namespace Go.Proofs.Ytppmalfpggkpdaa.L
open Go.RowKit Go.Proofs.YtppmalfpggkpdaaW.PrintWords Go.Proofs.YtppmalfpggkpdaaW.PrintLast Go.Proofs.YtppmalfpggkpdaaW.PrintMore Go.Proofs.Ytppmalfpggkpdaa.P
theorem fold_put : ∀ (ns acc : List B), acc.Pairwise (fun x y => x < y) → (ns.foldl putL acc).Pairwise (fun x y => x < y) ∧ ∀ x, x ∈ ns.foldl putL acc ↔ x ∈ acc ∨ x ∈ ns
  | [], acc, h => ⟨h, by simp⟩
  | a :: ns, acc, h => by
    obtain ⟨h1, h2⟩ := fold_put ns (putL acc a) (put_pw a acc h)
    refine ⟨h1, fun x => ?_⟩
    rw [List.foldl, h2, put_mem, List.mem_cons]
    constructor
    · rintro ((h | h) | h) <;> simp [h]
    · rintro (h | h | h) <;> simp [h]
theorem bytes_ordered (ns : List ByteArray) : bytesL (orderedV ns) = (bytesL ns).foldl putL [] := by
  unfold orderedV sortV
  rw [bytes_texts, put_all]
theorem ordered_pw (ns : List ByteArray) : (bytesL (orderedV ns)).Pairwise (fun x y => x < y) := by
  rw [bytes_ordered]
  exact (fold_put _ [] List.Pairwise.nil).1
theorem mem_bytes (a : ByteArray) (l : List ByteArray) : a.data.toList ∈ bytesL l ↔ a ∈ l := by
  unfold bytesL
  rw [List.mem_map]
  constructor
  · rintro ⟨b, hb, e⟩
    have : b = a := ByteArray.ext (Array.toList_inj.mp e)
    rwa [← this]
  · intro h
    exact ⟨a, h, rfl⟩
theorem mem_ordered (a : ByteArray) (ns : List ByteArray) : a ∈ orderedV ns ↔ a ∈ ns := by
  rw [← mem_bytes, bytes_ordered, (fold_put _ [] List.Pairwise.nil).2, mem_bytes]
  simp
theorem less_at (ns : List ByteArray) (i : Nat) (h0 : 0 < i) (hi : i < (orderedV ns).length) :
    Op.bytesLess ((orderedV ns).getD (i - 1) ByteArray.empty).toList ((orderedV ns).getD i ByteArray.empty).toList = true := by
  have h := List.pairwise_iff_getElem.mp (ordered_pw ns) (i - 1) i (by simp [bytesL]; omega) (by simpa [bytesL] using hi) (by omega)
  rw [bytesLess_eq, Lib.toList_data, Lib.toList_data]
  refine decide_eq_true ?_
  simp only [bytesL, List.getElem_map] at h
  rw [List.getD_eq_getElem?_getD, List.getD_eq_getElem?_getD, List.getElem?_eq_getElem (by omega), List.getElem?_eq_getElem hi]
  exact h
end Go.Proofs.Ytppmalfpggkpdaa.L
namespace Go.Proofs.Ytppmalfpggkpdaa.P
open Go.RowKit Go.Proofs.YtppmalfpggkpdaaW.PrintWords Go.Proofs.YtppmalfpggkpdaaW.PrintLast Go.Proofs.YtppmalfpggkpdaaW.PrintMore
attribute [local go_sem] max2_int min2_int max_two min_two max_three min_three max_four min_four
open Go.Proofs.Ytppmalfpggkpdaa.L in
def impl_unitsOk.f (l0 : List (List S52)) (a1 : Int) : Option Bool := if (∀ u ∈ l0, u.length ≤ 140737488351232 ∧ ∀ x ∈ u, x.f0.size ≤ 140737488351232 ∧ x.f2.length ≤ 140737488351232 ∧ ∀ y ∈ x.f2, y.f2.size ≤ 140737488351232) then some (decide ((l0.length : Int) ≤ a1) && !(l0.any fun u => !unitOkB u)) else none
def spec_l1Bent.f (k : Nat) (s0_0 : List Int) (s0_1 : Int) : Option (Int × Int × ByteArray × Int) := (spec_l1Right.f k s0_0 s0_1).bind fun bt561 => ((spec_l13Rd_pick.f k s0_0 bt561.2.2.2 30).bind fun bt566 => (if bt566.1 = 0 then ((spec_l13Rd_num.f k s0_0 bt566.2 (([0, 8, (-1), 1] : List Int))).bind fun bt571 => (some (bt571.1, bt561.2.1, bt561.2.2.1, bt571.2))) else (if bt566.1 = 1 then ((spec_l13Rd_num.f k s0_0 bt566.2 (([1, 1000, 1001] : List Int))).bind fun bt576 => (some (bt561.1, bt576.1, bt561.2.2.1, bt576.2))) else (if bt566.1 = 2 then ((spec_l13Rd_of.f k s0_0 bt566.2 (([(⟨#[65]⟩ : ByteArray), (⟨#[97, 98, 99, 100, 101, 102, 103]⟩ : ByteArray), (⟨#[97, 32, 98]⟩ : ByteArray), (⟨#[120]⟩ : ByteArray)] : List ByteArray))).bind fun bt581 => (some (bt561.1, bt561.2.1, bt581.1, bt581.2))) else (some (bt561.1, bt561.2.1, bt561.2.2.1, bt566.2))))))
def spec_l2Bent.f (k : Nat) (s0_0 : List Int) (s0_1 : Int) : Option (List S52 × Int) :=
  (spec_l2Unit.f k s0_0 s0_1).bind fun u => (spec_l13Rd_pick.f k s0_0 u.2 (u.1.length : Int)).bind fun a => (spec_l13Rd_pick.f k s0_0 a.2 40).bind fun c =>
    if 0 ≤ a.1 ∧ a.1 < (u.1.length : Int) ∧ u.1.length ≤ 1000 ∧ (rd_T52 u.1 a.1).f2.length ≤ 1000 then
      if c.1 = 0 then (spec_l13Rd_of.f k s0_0 c.2 ([(⟨#[]⟩ : ByteArray), (⟨#[65]⟩ : ByteArray), (⟨#[109, 97, 105, 110]⟩ : ByteArray)] : List ByteArray)).bind fun m => some (u.1.set a.1.toNat ⟨m.1, (rd_T52 u.1 a.1).f1, (rd_T52 u.1 a.1).f2⟩, m.2)
      else if c.1 = 1 then some (u.1.set a.1.toNat ⟨(rd_T52 u.1 a.1).f0, (rd_T52 u.1 a.1).f1, []⟩, c.2)
      else if c.1 = 2 then (spec_l1Bent.f k s0_0 c.2).bind fun b => some (u.1.set a.1.toNat ⟨(rd_T52 u.1 a.1).f0, (rd_T52 u.1 a.1).f1, (rd_T52 u.1 a.1).f2 ++ [⟨b.1, b.2.1, b.2.2.1⟩]⟩, b.2.2.2)
      else if c.1 = 3 then some (u.1 ++ [rd_T52 u.1 a.1], c.2)
      else some (u.1, c.2)
    else none
mutual
def spec_l3Bent.j0 : Nat → List (List (S52)) → List Int → Int → Option ((List (List (S52))) × Int)
  | 0, _, _, _ => none
  | k + 1, x5, x1000, x1001 => (spec_l13Rd_pick.f k x1000 x1001 30).bind fun bt642 => (if bt642.1 = 0 then ((spec_l2Bent.f k x1000 bt642.2).bind fun bt644 => (if x5.length < 5864062014805 then (some ((x5 ++ [bt644.1]), bt644.2)) else (none))) else (if bt642.1 = 1 then (spec_l3Bent.l0 k x5 x1000 bt642.2) else (some (x5, bt642.2))))
def spec_l3Bent.l0 : Nat → List (List (S52)) → List Int → Int → Option ((List (List (S52))) × Int)
  | 0, _, _, _ => none
  | k + 1, x5, x1000, x1001 => if (x5.length : Int) ≤ 8 then (if x5.length < 5864062014805 then (spec_l3Bent.l0 k (x5 ++ [(([] : List (S52)))]) x1000 x1001) else (none)) else (some (x5, x1001))
end
def spec_l3Bent.f (k : Nat) (s0_0 : List Int) (s0_1 : Int) (a1 : Int) : Option ((List (List (S52))) × Int) := (spec_l3Units.f k s0_0 s0_1 a1).bind fun bt633 => ((spec_l13Rd_pick.f k s0_0 bt633.2 3).bind fun bt637 => (if bt637.1 > 0 then ((spec_l3Thin.f k bt633.1).bind fun t639 => (spec_l3Bent.j0 k t639 s0_0 bt637.2)) else (spec_l3Bent.j0 k bt633.1 s0_0 bt637.2)))
def spec_DrawPickWants.f (k : Nat) (l0 : List Int) : Option ((List (List (S52)))) := (spec_l13Open.f l0).bind fun bt660 => ((spec_l3Bent.f k bt660.1 bt660.2 4).bind fun bt663 => (some bt663.1))
def spec_DrawPickSame.f (k : Nat) (l0 : List Int) : Option ((List (List (S52))) × (List (List (S52)))) := (spec_l13Open.f l0).bind fun bt667 => ((spec_l3Bent.f k bt667.1 bt667.2 3).bind fun bt670 => ((spec_l13Open.f l0).bind fun bt674 => ((spec_l3Bent.f k bt674.1 bt674.2 3).bind fun bt677 => (if (l0.length : Int) > 0 then (if 0 < (l0.length : Int) then (if (Int.tmod (rd l0 0) 2) = 1 then (if (bt677.1.length : Int) > 0 then (if 1 ≤ (bt677.1.length : Int) then (some (bt670.1, (bt677.1.drop 1))) else (none)) else (some (bt670.1, bt677.1))) else (some (bt670.1, bt677.1))) else (none)) else (some (bt670.1, bt677.1))))))
mutual
def impl_pick.l0 : Nat → List (List (S52)) → ByteArray → List Bool → Int → Int → Option (Int × Int × Bool)
  | 0, _, _, _, _, _ => none
  | k + 1, x0, x1, x12, x13, x14 => if x14 < x13 then (if 0 ≤ x14 then (if x14 < (x12.length : Int) then (impl_pick.l1 k x0 x1 (rdOf false x12 x14) x12 x13 x14 x0 (x0.length : Int) 0) else (none)) else (none)) else (some (0, 0, false))
def impl_pick.l1 : Nat → List (List (S52)) → ByteArray → Bool → List Bool → Int → Int → List (List (S52)) → Int → Int → Option (Int × Int × Bool)
  | 0, _, _, _, _, _, _, _, _, _ => none
  | k + 1, x0, x1, x8, x12, x13, x14, x18, x19, x20 => if x20 < x19 then (if 0 ≤ x20 then (if x20 < (x18.length : Int) then ((impl_find.f (rd_L20 x18 x20) x1).bind fun t708 => (if t708 ≥ 0 then (if 0 ≤ t708 then (if t708 < ((rd_L20 x18 x20).length : Int) then (if (((rd_T52 (rd_L20 x18 x20) t708).f1) == x8) = true then (some (x20, t708, true)) else (impl_pick.l1 k x0 x1 x8 x12 x13 x14 x18 x19 (wrap64 (x20 + 1)))) else (none)) else (none)) else (impl_pick.l1 k x0 x1 x8 x12 x13 x14 x18 x19 (wrap64 (x20 + 1))))) else (none)) else (none)) else (impl_pick.l0 k x0 x1 x12 x13 (wrap64 (x14 + 1)))
end
def impl_pick.f (k : Nat) (l0 : List (List (S52))) (a1 : ByteArray) : Option (Int × Int × Bool) := (some (([false, true] : List Bool) : List Bool)).bind fun y703 => (impl_pick.l0 k l0 a1 y703 (y703.length : Int) 0)
def spec_l3Ok.l0 : Nat → List (List (S52)) → Int → Int → Option (Bool)
  | 0, _, _, _ => none
  | k + 1, x0, x1, x5 => if x5 < (x0.length : Int) then (if 0 ≤ x5 then ((spec_UnitOk.f k (rd_L20 x0 x5)).bind fun t125 => (if t125 = true then (spec_l3Ok.l0 k x0 x1 (wrap64 (x5 + 1))) else (some false))) else (none)) else (some (decide ((x0.length : Int) ≤ x1)))
def spec_l3Ok.f (k : Nat) (l0 : List (List (S52))) (a1 : Int) : Option (Bool) := spec_l3Ok.l0 k l0 a1 0
end Go.Proofs.Ytppmalfpggkpdaa.P
namespace Go.Proofs.Ytppmalfpggkpdaa.L
open Go.RowKit Go.Proofs.YtppmalfpggkpdaaW.PrintWords Go.Proofs.YtppmalfpggkpdaaW.PrintLast Go.Proofs.YtppmalfpggkpdaaW.PrintMore Go.Proofs.Ytppmalfpggkpdaa.P
abbrev UnitV := List S52
def weakAt (u : UnitV) (a : ByteArray) : Bool := (u.getD (findI u a).toNat z52).f1
theorem findI_lo (u : UnitV) (a : ByteArray) : -1 ≤ findI u a ∧ findI u a < u.length := by
  have := idxFrom_lo (named a) u 0 (by omega)
  unfold findI
  omega
def hitS (b : Bool) (a : ByteArray) : List UnitV → Nat → Option (Nat × Int)
  | [], _ => none
  | u :: l, i => if 0 ≤ findI u a ∧ weakAt u a = b then some (i, findI u a) else hitS b a l (i + 1)
def pickV (l : List UnitV) (a : ByteArray) : Int × Int × Bool :=
  match hitS false a l 0 with
  | some p => ((p.1 : Int), p.2, true)
  | none => match hitS true a l 0 with
    | some p => ((p.1 : Int), p.2, true)
    | none => (0, 0, false)
theorem spec_l3At_f (l : List UnitV) (hn : l.length ≤ 9223372036854775806) (B : Nat) (hl : ∀ u ∈ l, u.length ≤ B) (hB : B ≤ 9223372036854775806) (a : ByteArray) (k : Nat) (hk : B + 1 + l.length < k) : spec_l3At.f k l a = some (pickV l a) := by
  unfold spec_l3At.f
  let f : Nat → UnitV → Int × Int → (Int × Int) ⊕ (Option (Int × Int × Bool)) := fun i u s =>
    if findI u a < 0 then .inl s else if weakAt u a = true then (if s.1 < 0 then .inl ((i : Int), findI u a) else .inl s) else .inr (some ((i : Int), findI u a, true))
  let E : Int × Int → Option (Int × Int × Bool) := fun s => if s.1 < 0 then some (0, 0, false) else some (s.1, s.2, true)
  have h := loop_run f (fun _ => E) (fun _ _ => True) [] l hn (fun k s i => spec_l3At.l0 k l a s.1 s.2 i) (B + 1) ?_ ?_ ?_ k (by omega) (-1, -1) trivial
  · refine h.trans ?_
    have key : ∀ (l' : List UnitV) (i : Nat) (s : Int × Int), runS f E l' i s = match hitS false a l' i with | some p => some ((p.1 : Int), p.2, true) | none => if s.1 < 0 then (match hitS true a l' i with | some p => some ((p.1 : Int), p.2, true) | none => some (0, 0, false)) else some (s.1, s.2, true) := by
      intro l'
      induction l' with
      | nil => intro i s; rfl
      | cons u l' ih =>
        intro i s
        simp only [runS, hitS, f]
        by_cases h0 : findI u a < 0
        · rw [if_pos h0, if_neg (show ¬ (0 ≤ findI u a ∧ weakAt u a = false) from fun h => by omega), if_neg (show ¬ (0 ≤ findI u a ∧ weakAt u a = true) from fun h => by omega)]
          exact ih (i + 1) s
        · rw [if_neg h0]
          cases hw : weakAt u a with
          | false =>
            rw [if_neg (show ¬ (false = true) by decide), if_pos (show 0 ≤ findI u a ∧ false = false from ⟨by omega, rfl⟩)]
          | true =>
            rw [if_pos (show true = true from rfl), if_neg (show ¬ (0 ≤ findI u a ∧ true = false) from fun h => absurd h.2 (by decide)), if_pos (show 0 ≤ findI u a ∧ true = true from ⟨by omega, rfl⟩)]
            by_cases hs : s.1 < 0
            · rw [if_pos hs, if_pos hs]
              simp only
              rw [ih (i + 1) _, if_neg (by simp only; omega)]
            · rw [if_neg hs, if_neg hs]
              simp only
              rw [ih (i + 1) s, if_neg hs]
    rw [key l 0 (-1, -1), if_pos (by decide)]
    unfold pickV
    cases hitS false a l 0 with
    | some p => rfl
    | none => cases hitS true a l 0 <;> rfl
  · intro k i s hK hi _
    have hb := findI_lo (l.getD i []) a
    have hu := hl _ (getD_mem (d := []) hi)
    simp only [spec_l3At.l0]
    rw [if_pos (by omega), if_pos (by omega), spec_l2Find_f (rd_L20 l (i : Int)) (Nat.le_trans hu (by omega)) a k (Nat.lt_of_le_of_lt hu (by omega))]
    simp only [Option.bind_some]
    show (if findI (l.getD i []) a < 0 then _ else (if 0 ≤ findI (l.getD i []) a then (if findI (l.getD i []) a < ((l.getD i []).length : Int) then (if weakAt (l.getD i []) a = true then _ else _) else none) else none)) = _
    simp only [f]
    by_cases h0 : findI (l.getD i []) a < 0
    · rw [if_pos h0, if_pos h0]
    · rw [if_neg h0, if_neg h0, if_pos (by omega), if_pos (by omega)]
      cases hw : weakAt (l.getD i []) a with
      | false => rw [if_neg (by decide), if_neg (by decide)]; rfl
      | true =>
        rw [if_pos rfl, if_pos rfl]
        by_cases hs : s.1 < 0
        · rw [if_pos hs, if_pos hs]; rfl
        · rw [if_neg hs, if_neg hs]
  · intro _ _ _ _ _ _; trivial
  · intro k s _ _
    simp only [spec_l3At.l0, E]
    rw [if_neg (by omega)]
theorem flatten_len : ∀ (l : List UnitV) (B : Nat), (∀ u ∈ l, u.length ≤ B) → l.flatten.length ≤ l.length * B
  | [], _, _ => by simp
  | u :: l, B, h => by
    have h1 := flatten_len l B (fun v hv => h v (List.mem_cons_of_mem _ hv))
    have h2 := h u (List.mem_cons_self ..)
    rw [List.flatten_cons, List.length_append, List.length_cons, Nat.succ_mul]
    omega
end Go.Proofs.Ytppmalfpggkpdaa.L
