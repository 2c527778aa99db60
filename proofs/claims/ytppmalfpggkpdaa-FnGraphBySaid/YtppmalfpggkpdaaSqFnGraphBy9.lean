-- put together by squash.py
import Derived.Test.YtppmalfpggkpdaaSqFnGraphBy3
import Derived.Test.YtppmalfpggkpdaaSqFnGraphBy5
import Derived.Test.YtppmalfpggkpdaaSqFnGraphBy8
import Derived.Test.YtppmalfpggkpdaaSqFnGraphBy7
set_option linter.unusedVariables false
set_option linter.unusedSimpArgs false

namespace Go.Proofs.Ytppmalfpggkpdaa.P
open Go.RowKit Go.Proofs.YtppmalfpggkpdaaW.PrintWords Go.Proofs.YtppmalfpggkpdaaW.PrintLast Go.Proofs.YtppmalfpggkpdaaW.PrintMore
attribute [local go_sem] max2_int min2_int max_two min_two max_three min_three max_four min_four
mutual
def spec_l3Wants.j0 : Nat → List (List (S52)) → List ByteArray → Option (List ByteArray)
  | 0, _, _ => none
  | k + 1, x0, x5 => spec_l3Wants.l0 k x0 x5 0
def spec_l3Wants.l0 : Nat → List (List (S52)) → List ByteArray → Int → Option (List ByteArray)
  | 0, _, _, _ => none
  | k + 1, x0, x5, x6 => if x6 < (x0.length : Int) then (spec_l3Wants.l1 k x0 x5 x6 0) else (spec_l3Wants.l3 k x0 x5 (([] : List ByteArray)) 0)
def spec_l3Wants.l1 : Nat → List (List (S52)) → List ByteArray → Int → Int → Option (List ByteArray)
  | 0, _, _, _, _ => none
  | k + 1, x0, x5, x6, x7 => if 0 ≤ x6 then (if x6 < (x0.length : Int) then (if x7 < ((rd_L20 x0 x6).length : Int) then (if 0 ≤ x7 then ((spec_l2Refs.f k ((rd_T52 (rd_L20 x0 x6) x7).f2)).bind fun t192 => (spec_l3Wants.l2 k x0 x5 x6 x7 t192 0)) else (none)) else (spec_l3Wants.l0 k x0 x5 (wrap64 (x6 + 1)))) else (none)) else (none)
def spec_l3Wants.l2 : Nat → List (List (S52)) → List ByteArray → Int → Int → List ByteArray → Int → Option (List ByteArray)
  | 0, _, _, _, _, _, _ => none
  | k + 1, x0, x5, x6, x7, x8, x9 => if x9 < (x8.length : Int) then (if 0 ≤ x9 then ((spec_l2Put.f k x5 (rdOf ByteArray.empty x8 x9)).bind fun t196 => (spec_l3Wants.l2 k x0 t196 x6 x7 x8 (wrap64 (x9 + 1)))) else (none)) else (spec_l3Wants.l1 k x0 x5 x6 (wrap64 (x7 + 1)))
def spec_l3Wants.l3 : Nat → List (List (S52)) → List ByteArray → List ByteArray → Int → Option (List ByteArray)
  | 0, _, _, _, _ => none
  | k + 1, x0, x5, x10, x11 => if x11 < (x5.length : Int) then (if 0 ≤ x11 then ((spec_l3At.f k x0 (rdOf ByteArray.empty x5 x11)).bind fun bt203 => (if bt203.2.2 = true then (spec_l3Wants.l3 k x0 x5 x10 (wrap64 (x11 + 1))) else (if x10.length < 8796093022208 then (spec_l3Wants.l3 k x0 x5 (x10 ++ [rdOf ByteArray.empty x5 x11]) (wrap64 (x11 + 1))) else (none)))) else (none)) else (some x10)
end
def spec_l3Wants.f (k : Nat) (l0 : List (List (S52))) (a1 : ByteArray) : Option (List ByteArray) := (some (([] : List ByteArray) : List ByteArray)).bind fun y183 => (if a1.toList = ([] : List UInt8) then (spec_l3Wants.j0 k l0 y183) else ((spec_l2Put.f k y183 a1).bind fun t186 => (spec_l3Wants.j0 k l0 t186)))
set_option maxHeartbeats 8000000 in
set_option maxRecDepth 100000 in
theorem spec_l3Wants.calls (k : Nat) (A0 : Option Addr) (c0 : Nat) (l0 : List (List (S52))) (a1 : ByteArray) (r : List ByteArray) (w : World) (hr0 : Kd.C (Kd.slice 52 k52) w A0 l0.length l0) (hc0 : l0.length ≤ c0) (h : spec_l3Wants.f k l0 a1 = some r) :
    Calls Try.prog 58 #[.slice A0 l0.length c0, .string a1] w fun e w' => ∃ v0_ : Value, e = .returned (v0_) ∧ Kd.R Kd.string 9 w' w.heap.size (fun _ => True) v0_ r ∧ Below w.heap.size w w' := by
 have HR0 := aM hr0; have HC0 := aM hc0; clear hr0 hc0
 have HB := aM (Below.refl w.heap.size w)
 have H : ((some (([] : List ByteArray) : List ByteArray)).bind fun y183 => (if a1.toList = ([] : List UInt8) then (spec_l3Wants.j0 k l0 y183) else ((spec_l2Put.f k y183 a1).bind fun t186 => (spec_l3Wants.j0 k l0 t186)))) = some r := h
 clear h
 obtain ⟨y183, hy183⟩ : ∃ y_ : List ByteArray, y_ = (([] : List ByteArray)) := ⟨_, rfl⟩
 replace H : (if a1.toList = ([] : List UInt8) then (spec_l3Wants.j0 k l0 y183) else ((spec_l2Put.f k y183 a1).bind fun t186 => (spec_l3Wants.j0 k l0 t186))) = some r := by first | (rw [hy183]; with_reducible exact H) | (have H2_ := (Option.bind_some _ _).symm.trans H; rw [hy183]; with_reducible exact H2_) | (have H2_ := (Option.bind_some _ _).symm.trans H; with_reducible exact H2_) | with_reducible exact H | (rw [hy183]; exact H) | exact H
 have Ny183 := aM hy183; clear hy183; have HC3 := aM H; clear H
 go_enter Try.func58, Try.ntmps58
 go_upto_if 17 with (first | ((with_reducible refine gate_dst (N := 15) rfl ?_); refine Kd.R_lit Kd.string _ 9 ?hg (N := 15) ?hd (xs := ([] : List ByteArray)) (inner := []) (ok := fun _ => True) (okp := fun _ => True) ?hr ?hp (fun _ hk => hk) trivial (Below.refl _ _) (Nat.le_refl _) (by simp) ?_; (case hd => rfl); (case hg => rfl); (case hr => first | (go_simp; done) | (go_simp; rfl)); (case hp => exact (Reps.none _ _)); intro v184 w4 ho5 hb hg_ hnew_; clear hg_ hnew_; (first | rw [← Ny183.out] at ho5 | (simp only [Int.reduceToNat] at ho5; rw [← Ny183.out] at ho5)); have n0_ := aM (Kd.R_lower ho5 (below_size (by repeat (with_reducible first | exact HB.out | apply bA | apply bN | apply bD)))); have n1_ := aM (below_step (by repeat (with_reducible first | exact HB.out | apply bA | apply bN | apply bD)) hb); clear HB; have HO185 := n0_; have HB := n1_; clear n0_ n1_ hb ho5))
 (try simp only [Act.put, List.setIfInBounds_toArray, List.set_cons_zero, List.set_cons_succ])
 go_cut [5] (fun v5 wc => ∃ (kq : Nat) (x5_2 : List ByteArray), Aside0 (spec_l3Wants.j0 kq l0 x5_2 = some r) ∧ Aside0 (kq ≤ k) ∧ Aside0 (Kd.R Kd.string 9 wc w.heap.size (fun _ => True) v5 x5_2) ∧ Aside0 (Below w.heap.size w wc))
 case first =>
  have H := HC3.out
  clear HC3
  by_cases c6 : a1.toList = ([] : List UInt8)
  · rw [if_pos c6] at H
    have c6b0 : (a1.toList == ([] : List UInt8)) = true := beq_iff_eq.mpr c6
    have c6b1 : (a1.toList != ([] : List UInt8)) = false := bne_eq_false_iff_eq.mpr c6
    clear c6
    (first | rw [show a1.toList.isEmpty = true from List.isEmpty_iff.mpr (beq_iff_eq.mp c6b0)] | rw [c6b0] | (simp only [i64_w, i32_w]; rw [c6b0]) | (have cn_ := c6b0; simp only [bne] at cn_; rw [cn_]; clear cn_) | skip)
    have H' := aM H
    clear H
    go_wp2
    go_meet
    case rel => exact ⟨_, (y183), H', ⟨by first | omega | exact Nat.le_refl _⟩, ⟨by (with_reducible repeat (first | apply Ra | apply Rn | apply Rd)); exact HO185.out⟩, ⟨by repeat (with_reducible first | exact HB.out | apply bA | apply bN | apply bD)⟩⟩
  rw [if_neg c6] at H
  have c6b0 : (a1.toList == ([] : List UInt8)) = false := beq_eq_false_iff_ne.mpr c6
  have c6b1 : (a1.toList != ([] : List UInt8)) = true := bne_iff_ne.mpr c6
  (first | rw [show a1.toList.isEmpty = false from Bool.eq_false_iff.mpr (fun h_ => absurd (List.isEmpty_iff.mp h_) (beq_eq_false_iff_ne.mp c6b0))] | rw [c6b0] | (simp only [i64_w, i32_w]; rw [c6b0]) | (have cn_ := c6b0; simp only [bne] at cn_; rw [cn_]; clear cn_) | skip)
  replace H := Option.bind_eq_some_iff.mp H
  obtain ⟨t186, A70, H⟩ := H
  replace H : (spec_l3Wants.j0 k l0 t186) = some r := H
  have A7 := aM A70; clear A70
  have H' := aM H
  clear H
  obtain ⟨Ao8, co8, eo8⟩ := Kd.R_slice HO185.out
  subst eo8
  go_wp2_with (first | ((with_reducible refine gate_callee (f := 84) rfl ?_); refine goesL_ (some 20) rfl rfl Try.func84 (by kernel_rfl) rfl #[.slice Ao8 y183.length co8, .string a1] rfl (by (try simp only [List.map_toArray, List.map_cons, List.map_nil]); first | done | rfl) ?_; (with_reducible refine (spec_l2Put.calls k (fun k_ => some k_ = (.slice Ao8 y183.length co8 : Value).ownBlock) (.slice Ao8 y183.length co8) y183 a1 t186 w _ ?side1 ?side2 A7.out).mono ?_); (case side1 => repeat (with_reducible first | exact HB.out | apply bA | apply bN | apply bD)); (case side2 => exact Kd.R_tight rfl HO185.out); rintro e w9 ⟨v187, rfl, ho0, hb, hkp⟩; refine ⟨_, rfl, ?_⟩; have n0_ := aM (Kd.R_mono (ok' := fun k_ => True) ho0 (fun k_ hk_ => trivial)); have n1_ := aM (hb); clear HB HO185; have HO188 := n0_; have HB := n1_; clear n0_ n1_; (try clear hkp); (try clear ho0)))
  go_meet
  case rel => exact ⟨_, (t186), H', ⟨by first | omega | exact Nat.le_refl _⟩, ⟨by (with_reducible repeat (first | apply Ra | apply Rn | apply Rd)); exact HO188.out⟩, ⟨by repeat (with_reducible first | exact HB.out | apply bA | apply bN | apply bD)⟩⟩
 clear HC3; try clear p2; try clear c5; try clear c6; try clear c6b0; try clear c6b1; try clear c8
 obtain ⟨kq, x5_2, HA, HJ2, HO_5, HB⟩ := hcut
 obtain _ | kj2 := kq
 · exact absurd HA.out (by simp [spec_l3Wants.j0])
 have H := HA.out
 clear HA
 simp only [spec_l3Wants.j0] at H
 have H' := aM H
 clear H
 go_wp2
 go_loopg [5, 6] kj2 (fun kq v5 v6 w' => ∃ (x5_2 : List ByteArray) (x6_2 : Int), v6 = .int .i64 x6_2 ∧ Aside0 (spec_l3Wants.l0 kq l0 x5_2 x6_2 = some r) ∧ Aside0 (kq ≤ kj2) ∧ Aside0 (Kd.R Kd.string 9 w' w.heap.size (fun _ => True) v5 x5_2) ∧ Aside0 (Below w.heap.size w w'))
 case atStart => exact ⟨(x5_2), (0), (by first | rfl | (simp; done) | (simp [*]; done)), H', ⟨Nat.le_refl _⟩, ⟨by (with_reducible repeat (first | apply Ra | apply Rn | apply Rd)); exact HO_5.out⟩, ⟨by repeat (with_reducible first | exact HB.out | apply bA | apply bN | apply bD)⟩⟩
 clear H'
 try clear p2; try clear c5; try clear c6; try clear c6b0; try clear c6b1; try clear c8; try clear p2
 obtain ⟨x5_2, x6_2, rfl, HA, HK2, HO_5, HB⟩ := hrel
 obtain _ | k2 := gk
 · exact absurd HA.out (by simp [spec_l3Wants.l0])
 have H := HA.out
 clear HA
 simp only [spec_l3Wants.l0] at H
 by_cases c10 : x6_2 < (l0.length : Int)
 · rw [if_pos c10] at H
   have c10b0 : decide (x6_2 < (l0.length : Int)) = true := decide_eq_true c10
   clear c10
   have H' := aM H
   clear H
   go_wp2
   go_loopg [5, 7] k2 (fun kq v5 v7 w' => ∃ (x5_3 : List ByteArray) (x7_3 : Int), v7 = .int .i64 x7_3 ∧ Aside0 (spec_l3Wants.l1 kq l0 x5_3 x6_2 x7_3 = some r) ∧ Aside0 (kq ≤ k2) ∧ Aside0 (Kd.R Kd.string 9 w' w.heap.size (fun _ => True) v5 x5_3) ∧ Aside0 (Below w.heap.size w w'))
   case atStart => exact ⟨(x5_2), (0), (by first | rfl | (simp; done) | (simp [*]; done)), H', ⟨Nat.le_refl _⟩, ⟨by (with_reducible repeat (first | apply Ra | apply Rn | apply Rd)); exact HO_5.out⟩, ⟨by repeat (with_reducible first | exact HB.out | apply bA | apply bN | apply bD)⟩⟩
   clear H'
   try clear c1; try clear p2; try clear c5; try clear c6; try clear c6b0; try clear c6b1; try clear c8; try clear c10; try clear c10b0; try clear p2
   obtain ⟨x5_3, x7_3, rfl, HA, HK3, HO_5, HB⟩ := hrel
   obtain _ | k3 := gk
   · exact absurd HA.out (by simp [spec_l3Wants.l1])
   have H := HA.out
   clear HA
   simp only [spec_l3Wants.l1] at H
   by_cases c11 : 0 ≤ x6_2
   · rw [if_pos c11] at H
     have c11b0 : decide (0 ≤ x6_2) = true := decide_eq_true c11
     clear c11
     by_cases c12 : x6_2 < (l0.length : Int)
     · rw [if_pos c12] at H
       have c12b0 : decide (x6_2 < (l0.length : Int)) = true := decide_eq_true c12
       clear c12
       by_cases c13 : x7_3 < ((rd_L20 l0 x6_2).length : Int)
       · rw [if_pos c13] at H
         have c13b0 : decide (x7_3 < ((rd_L20 l0 x6_2).length : Int)) = true := decide_eq_true c13
         clear c13
         by_cases c14 : 0 ≤ x7_3
         · rw [if_pos c14] at H
           have c14b0 : decide (0 ≤ x7_3) = true := decide_eq_true c14
           clear c14
           replace H := Option.bind_eq_some_iff.mp H
           obtain ⟨t192, A150, H⟩ := H
           replace H : (spec_l3Wants.l2 k3 l0 x5_3 x6_2 x7_3 t192 0) = some r := H
           have A15 := aM A150; clear A150
           have H' := aM H
           clear H
           have p189 : 0 ≤ (x6_2 : Int) := oD (by first | with_reducible assumption | assumption)
           have q189 : x6_2 < (l0.length : Int) := oD (by first | with_reducible assumption | assumption)
           obtain ⟨ad189, A189_0, c189_0, e189, hx189_0, hl189_0, hi189_0⟩ := at_L20 HR0.out x6_2 p189 q189
           cases e189
           replace hx189_0 := (HB.out.cell (World.block_lt_of_cell? w _ hx189_0)).trans hx189_0
           have HR189_0 := aM hi189_0; have HC189_0 := aM hl189_0; clear hi189_0 hl189_0; replace p189 := eq_true p189; replace q189 := eq_true q189
           have p190 : 0 ≤ (x6_2 : Int) := oD (by first | with_reducible assumption | assumption)
           have q190 : x6_2 < (l0.length : Int) := oD (by first | with_reducible assumption | assumption)
           obtain ⟨ad190, A190_0, c190_0, e190, hx190_0, hl190_0, hi190_0⟩ := at_L20 HR0.out x6_2 p190 q190
           obtain rfl : ad189 = ad190 := (by injection e190)
           replace hx190_0 := (HB.out.cell (World.block_lt_of_cell? w _ hx190_0)).trans hx190_0
           have HR190_0 := aM hi190_0; have HC190_0 := aM hl190_0; clear hi190_0 hl190_0; replace p190 := eq_true p190; replace q190 := eq_true q190
           have ea_ := Option.some.inj (hx189_0.symm.trans hx190_0)
           injection ea_ with ea_ en_ ec_
           subst ea_; subst ec_; clear en_
           have p191 : 0 ≤ (x7_3 : Int) := oD (by first | with_reducible assumption | assumption)
           have q191 : x7_3 < ((rd_L20 l0 x6_2).length : Int) := oD (by first | with_reducible assumption | assumption)
           obtain ⟨ad191, A191_2, c191_2, e191, hx191_0, hx191_1, hx191_2, hl191_2, hi191_2⟩ := at_T52 HR190_0.out x7_3 p191 q191
           cases e191
           replace hx191_0 := (HB.out.cell (World.block_lt_of_cell? w _ hx191_0)).trans hx191_0
           replace hx191_1 := (HB.out.cell (World.block_lt_of_cell? w _ hx191_1)).trans hx191_1
           replace hx191_2 := (HB.out.cell (World.block_lt_of_cell? w _ hx191_2)).trans hx191_2
           have HR191_2 := aM hi191_2; have HC191_2 := aM hl191_2; clear hi191_2 hl191_2; replace p191 := eq_true p191; replace q191 := eq_true q191
           go_wp2_with (first | ((with_reducible refine gate_callee (f := 73) rfl ?_); refine goesL_ (some 44) rfl rfl Try.func73 (by kernel_rfl) rfl #[.slice A191_2 ((rd_T52 (rd_L20 l0 x6_2) x7_3).f2).length c191_2] rfl (by (try simp only [List.map_toArray, List.map_cons, List.map_nil]); first | done | rfl) ?_; (with_reducible refine (spec_l2Refs.calls k3 _ _ ((rd_T52 (rd_L20 l0 x6_2) x7_3).f2) t192 _ ?side1 ?side2 A15.out).mono ?_); (case side1 => repeat (first | exact (Kd.C_below HR191_2.out HB.out) | (with_reducible first | refine Ca ?_ _ | refine Cn ?_ _ | refine Cd ?_))); (case side2 => exact HC191_2.out); rintro e w16 ⟨v193, rfl, ho0, hb⟩; refine ⟨_, rfl, ?_⟩; have n0_ := aM (Kd.R_elder' (by (with_reducible repeat (first | apply Ra | apply Rn | apply Rd)); exact HO_5.out) (Kd.R_base ho0) hb); have n1_ := aM (Kd.R_lower (Kd.R_new' ho0 (Kd.R_lt (by (with_reducible repeat (first | apply Ra | apply Rn | apply Rd)); exact HO_5.out))) (below_size (by repeat (with_reducible first | exact HB.out | apply bA | apply bN | apply bD)))); have n2_ := aM (below_step (by repeat (with_reducible first | exact HB.out | apply bA | apply bN | apply bD)) hb); clear HO_5 HB; have HO_5 := n0_; have HO194 := n1_; have HB := n2_; clear n0_ n1_ n2_; (try clear ho0)))
           go_loopg [5, 9] k3 (fun kq v5 v9 w' => ∃ (x5_4 : List ByteArray) (x9_4 : Int), v9 = .int .i64 x9_4 ∧ Aside0 (spec_l3Wants.l2 kq l0 x5_4 x6_2 x7_3 t192 x9_4 = some r) ∧ Aside0 (kq ≤ k3) ∧ Aside0 (Kd.R Kd.string 9 w' w.heap.size (fun k_ => some k_ ≠ (v193 : Value).ownBlock) v5 x5_4) ∧ Aside0 (Kd.R Kd.string 9 w' w.heap.size (fun k_ => some k_ ≠ (v5 : Value).ownBlock) v193 t192) ∧ Aside0 (Below w.heap.size w w'))
           case atStart => exact ⟨(x5_3), (0), (by first | rfl | (simp; done) | (simp [*]; done)), H', ⟨Nat.le_refl _⟩, ⟨by (with_reducible repeat (first | apply Ra | apply Rn | apply Rd)); exact Kd.R_mono HO_5.out (fun _ hk => hk.2)⟩, ⟨by (with_reducible repeat (first | apply Ra | apply Rn | apply Rd)); exact Kd.R_mono HO194.out (fun _ hk => hk.2)⟩, ⟨by repeat (with_reducible first | exact HB.out | apply bA | apply bN | apply bD)⟩⟩
           clear H'
           try clear c1; try clear p1; try clear q1; try clear hx1; try clear p2; try clear c5; try clear c6; try clear c6b0; try clear c6b1; try clear c7; try clear c8; try clear c10; try clear c10b0; try clear c11; try clear c11b0; try clear c12; try clear c12b0; try clear c13; try clear c13b0; try clear c14; try clear c14b0; try clear hx189_0; try clear hx190_0; try clear hx191_0; try clear hx191_1; try clear hx191_2; try clear p189; try clear p190; try clear p191; try clear p2; try clear q189; try clear q190; try clear q191
           obtain ⟨x5_4, x9_4, rfl, HA, HK4, HO_5, HO_8, HB⟩ := hrel
           obtain _ | k4 := gk
           · exact absurd HA.out (by simp [spec_l3Wants.l2])
           have H := HA.out
           clear HA
           simp only [spec_l3Wants.l2] at H
           by_cases c17 : x9_4 < (t192.length : Int)
           · rw [if_pos c17] at H
             have c17b0 : decide (x9_4 < (t192.length : Int)) = true := decide_eq_true c17
             clear c17
             by_cases c18 : 0 ≤ x9_4
             · rw [if_pos c18] at H
               have c18b0 : decide (0 ≤ x9_4) = true := decide_eq_true c18
               clear c18
               replace H := Option.bind_eq_some_iff.mp H
               obtain ⟨t196, A190, H⟩ := H
               replace H : (spec_l3Wants.l2 k4 l0 t196 x6_2 x7_3 t192 (wrap64 (x9_4 + 1))) = some r := H
               have A19 := aM A190; clear A190
               have H' := aM H
               clear H
               obtain ⟨Ao20, co20, eo20⟩ := Kd.R_slice HO_8.out
               subst eo20
               have p195 : 0 ≤ (x9_4 : Int) := oD (by first | with_reducible assumption | assumption)
               have q195 : x9_4 < (t192.length : Int) := oD (by first | with_reducible assumption | assumption)
               obtain ⟨ad195, e195, hx195_0⟩ := Kd.at_string (Kd.R_reads' HO_8.out).2.2 x9_4 p195 q195
               cases e195
               replace p195 := eq_true p195; replace q195 := eq_true q195
               obtain ⟨Ao21, co21, eo21⟩ := Kd.R_slice HO_5.out
               subst eo21
               go_wp2_with (first | ((with_reducible refine gate_callee (f := 84) rfl ?_); refine goesL_ (some 56) rfl rfl Try.func84 (by kernel_rfl) rfl #[.slice Ao21 x5_4.length co21, .string (rdOf ByteArray.empty t192 x9_4)] rfl (by (try simp only [List.map_toArray, List.map_cons, List.map_nil]); first | done | rfl) ?_; (with_reducible refine (spec_l2Put.calls k4 (fun k_ => some k_ = (.slice Ao21 x5_4.length co21 : Value).ownBlock) (.slice Ao21 x5_4.length co21) x5_4 (rdOf ByteArray.empty t192 x9_4) t196 w _ ?side1 ?side2 A19.out).mono ?_); (case side1 => repeat (with_reducible first | exact HB.out | apply bA | apply bN | apply bD)); (case side2 => exact Kd.R_tight rfl HO_5.out); rintro e w22 ⟨v197, rfl, ho0, hb, hkp⟩; refine ⟨_, rfl, ?_⟩; have n0_ := aM (Kd.R_mono (ok' := fun k_ => some k_ ≠ (v197 : Value).ownBlock) (Kd.R_keptB (HO_8.out) hkp (fun k_ hk_ hs_ => (hk_) hs_)) (fun k_ hk_ => fun e_ => Or.elim (ho0.1 k_ e_.symm) (fun hs_ => hk_.2.1 hs_) (fun hn_ => Nat.not_le.2 hk_.2.2 hn_))); have n1_ := aM (Kd.R_mono (ok' := fun k_ => some k_ ≠ (.slice (some ad195) t192.length co20 : Value).ownBlock) ho0 (fun k_ hk_ => Or.elim hk_ (fun hs_ => fun e_ => (((HO_8.out).1 k_ e_.symm)) hs_) (fun hn_ => (Kd.fresh' (Kd.R_lt (by (with_reducible repeat (first | apply Ra | apply Rn | apply Rd)); exact HO_8.out)) k_ hn_)))); have n2_ := aM (hb); clear HO_8 HB HO_5; have HO_8 := n0_; have HO198 := n1_; have HB := n2_; clear n0_ n1_ n2_; (try clear hkp); (try clear ho0)))
               go_roundg k4
               case measure => have := HJ2.out; have := HK2.out; have := HK3.out; have := HK4.out; omega
               case rel => exact ⟨(t196), (wrap64 (x9_4 + 1)), (by first | rfl | (simp; done) | (simp [*]; done)), H', ⟨by have := HJ2.out; have := HK2.out; have := HK3.out; have := HK4.out; omega⟩, ⟨by (with_reducible repeat (first | apply Ra | apply Rn | apply Rd)); exact HO198.out⟩, ⟨by (with_reducible repeat (first | apply Ra | apply Rn | apply Rd)); exact HO_8.out⟩, ⟨by repeat (with_reducible first | exact HB.out | apply bA | apply bN | apply bD)⟩⟩
             rw [if_neg c18] at H
             exact absurd H (by simp)
           rw [if_neg c17] at H
           have c17b0 : decide (x9_4 < (t192.length : Int)) = false := decide_eq_false c17
           clear c17
           have H' := aM H
           clear H
           obtain ⟨Ao23, co23, eo23⟩ := Kd.R_slice HO_8.out
           subst eo23
           go_wp2
           go_roundg k4
           case measure => have := HJ2.out; have := HK2.out; have := HK3.out; have := HK4.out; omega
           case rel => exact ⟨(x5_4), (wrap64 (x7_3 + 1)), (by first | rfl | (simp; done) | (simp [*]; done)), H', ⟨by have := HJ2.out; have := HK2.out; have := HK3.out; have := HK4.out; omega⟩, ⟨by (with_reducible repeat (first | apply Ra | apply Rn | apply Rd)); exact Kd.R_mono HO_5.out (fun _ hk => trivial)⟩, ⟨by repeat (with_reducible first | exact HB.out | apply bA | apply bN | apply bD)⟩⟩
         rw [if_neg c14] at H
         exact absurd H (by simp)
       rw [if_neg c13] at H
       have c13b0 : decide (x7_3 < ((rd_L20 l0 x6_2).length : Int)) = false := decide_eq_false c13
       clear c13
       have H' := aM H
       clear H
       have p189 : 0 ≤ (x6_2 : Int) := oD (by first | with_reducible assumption | assumption)
       have q189 : x6_2 < (l0.length : Int) := oD (by first | with_reducible assumption | assumption)
       obtain ⟨ad189, A189_0, c189_0, e189, hx189_0, hl189_0, hi189_0⟩ := at_L20 HR0.out x6_2 p189 q189
       cases e189
       replace hx189_0 := (HB.out.cell (World.block_lt_of_cell? w _ hx189_0)).trans hx189_0
       have HR189_0 := aM hi189_0; have HC189_0 := aM hl189_0; clear hi189_0 hl189_0; replace p189 := eq_true p189; replace q189 := eq_true q189
       go_wp2
       go_roundg k3
       case measure => have := HJ2.out; have := HK2.out; have := HK3.out; omega
       case rel => exact ⟨(x5_3), (wrap64 (x6_2 + 1)), (by first | rfl | (simp; done) | (simp [*]; done)), H', ⟨by have := HJ2.out; have := HK2.out; have := HK3.out; omega⟩, ⟨by (with_reducible repeat (first | apply Ra | apply Rn | apply Rd)); exact HO_5.out⟩, ⟨by repeat (with_reducible first | exact HB.out | apply bA | apply bN | apply bD)⟩⟩
     rw [if_neg c12] at H
     exact absurd H (by simp)
   rw [if_neg c11] at H
   exact absurd H (by simp)
 rw [if_neg c10] at H
 have c10b0 : decide (x6_2 < (l0.length : Int)) = false := decide_eq_false c10
 clear c10
 obtain ⟨y199, hy199⟩ : ∃ y_ : List ByteArray, y_ = (([] : List ByteArray)) := ⟨_, rfl⟩
 replace H : (spec_l3Wants.l3 k2 l0 x5_2 y199 0) = some r := by first | (rw [hy199]; with_reducible exact H) | (have H2_ := (Option.bind_some _ _).symm.trans H; rw [hy199]; with_reducible exact H2_) | (have H2_ := (Option.bind_some _ _).symm.trans H; with_reducible exact H2_) | with_reducible exact H | (rw [hy199]; exact H) | exact H
 have Ny199 := aM hy199; clear hy199
 have H' := aM H
 clear H
 go_wp2_with (first | ((with_reducible refine gate_dst (N := 57) rfl ?_); refine Kd.R_lit Kd.string _ 9 ?hg (N := 57) ?hd (xs := ([] : List ByteArray)) (inner := []) (ok := fun _ => True) (okp := fun _ => True) ?hr ?hp (fun _ hk => hk) trivial (Below.refl _ _) (Nat.le_refl _) (by simp) ?_; (case hd => rfl); (case hg => rfl); (case hr => first | (go_simp; done) | (go_simp; rfl)); (case hp => exact (Reps.none _ _)); intro v200 w24 ho25 hb hg_ hnew_; clear hg_ hnew_; (first | rw [← Ny199.out] at ho25 | (simp only [Int.reduceToNat] at ho25; rw [← Ny199.out] at ho25)); have n0_ := aM (Kd.R_elder' (by (with_reducible repeat (first | apply Ra | apply Rn | apply Rd)); exact HO_5.out) (Kd.R_base ho25) hb); have n1_ := aM (Kd.R_lower (Kd.R_new' ho25 (Kd.R_lt (by (with_reducible repeat (first | apply Ra | apply Rn | apply Rd)); exact HO_5.out))) (below_size (by repeat (with_reducible first | exact HB.out | apply bA | apply bN | apply bD)))); have n2_ := aM (below_step (by repeat (with_reducible first | exact HB.out | apply bA | apply bN | apply bD)) hb); clear HO_5 HB; have HO_5 := n0_; have HO201 := n1_; have HB := n2_; clear n0_ n1_ n2_ hb ho25))
 go_loopg [10, 11] k2 (fun kq v10 v11 w' => ∃ (x10_3 : List ByteArray) (x11_3 : Int), v11 = .int .i64 x11_3 ∧ Aside0 (spec_l3Wants.l3 kq l0 x5_2 x10_3 x11_3 = some r) ∧ Aside0 (kq ≤ k2) ∧ Aside0 (Kd.R Kd.string 9 w' w.heap.size (fun k_ => some k_ ≠ (v10 : Value).ownBlock) u5 x5_2) ∧ Aside0 (Kd.R Kd.string 9 w' w.heap.size (fun k_ => some k_ ≠ (u5 : Value).ownBlock) v10 x10_3) ∧ Aside0 (Below w.heap.size w w'))
 case atStart => exact ⟨(y199), (0), (by first | rfl | (simp; done) | (simp [*]; done)), H', ⟨Nat.le_refl _⟩, ⟨by (with_reducible repeat (first | apply Ra | apply Rn | apply Rd)); exact Kd.R_mono HO_5.out (fun _ hk => hk.2)⟩, ⟨by (with_reducible repeat (first | apply Ra | apply Rn | apply Rd)); exact Kd.R_mono HO201.out (fun _ hk => hk.2)⟩, ⟨by repeat (with_reducible first | exact HB.out | apply bA | apply bN | apply bD)⟩⟩
 clear H'
 try clear c1; try clear p1; try clear q1; try clear hx1; try clear p2; try clear c5; try clear c6; try clear c6b0; try clear c6b1; try clear p6; try clear c7; try clear c8; try clear c10; try clear c10b0; try clear c11; try clear c11b0; try clear c12; try clear c12b0; try clear c13; try clear c13b0; try clear c14; try clear c14b0; try clear c17; try clear c17b0; try clear c18; try clear c18b0; try clear p18; try clear q18; try clear hx18; try clear c19; try clear p19; try clear q19; try clear hx19; try clear hx189_0; try clear hx190_0; try clear hx191_0; try clear hx191_1; try clear hx191_2; try clear hx195_0; try clear p1; try clear p189; try clear p190; try clear p191; try clear p195; try clear p2; try clear q1; try clear q189; try clear q190; try clear q191; try clear q195
 obtain ⟨x10_3, x11_3, rfl, HA, HK3, HO_5, HO_10, HB⟩ := hrel
 obtain _ | k3 := gk
 · exact absurd HA.out (by simp [spec_l3Wants.l3])
 have H := HA.out
 clear HA
 simp only [spec_l3Wants.l3] at H
 by_cases c26 : x11_3 < (x5_2.length : Int)
 · rw [if_pos c26] at H
   have c26b0 : decide (x11_3 < (x5_2.length : Int)) = true := decide_eq_true c26
   clear c26
   by_cases c27 : 0 ≤ x11_3
   · rw [if_pos c27] at H
     have c27b0 : decide (0 ≤ x11_3) = true := decide_eq_true c27
     clear c27
     replace H := Option.bind_eq_some_iff.mp H
     obtain ⟨⟨t203, t204, t205⟩, A280, H⟩ := H
     replace H : (if t205 = true then (spec_l3Wants.l3 k3 l0 x5_2 x10_3 (wrap64 (x11_3 + 1))) else (if x10_3.length < 8796093022208 then (spec_l3Wants.l3 k3 l0 x5_2 (x10_3 ++ [rdOf ByteArray.empty x5_2 x11_3]) (wrap64 (x11_3 + 1))) else (none))) = some r := H
     have A28 := aM A280; clear A280
     by_cases c29 : t205 = true
     · subst c29
       have H1 : (spec_l3Wants.l3 k3 l0 x5_2 x10_3 (wrap64 (x11_3 + 1))) = some r := by rw [if_pos rfl] at H; exact H
       clear H
       have H := H1
       clear H1
       have H' := aM H
       clear H
       obtain ⟨Ao30, co30, eo30⟩ := Kd.R_slice HO_5.out
       subst eo30
       have p202 : 0 ≤ (x11_3 : Int) := oD (by first | with_reducible assumption | assumption)
       have q202 : x11_3 < (x5_2.length : Int) := oD (by first | with_reducible assumption | assumption)
       obtain ⟨ad202, e202, hx202_0⟩ := Kd.at_string (Kd.R_reads' HO_5.out).2.2 x11_3 p202 q202
       cases e202
       replace p202 := eq_true p202; replace q202 := eq_true q202
       go_wp2_with (first | ((with_reducible refine gate_callee (f := 115) rfl ?_); refine goesL_ (some 70) rfl rfl Try.func115 (by kernel_rfl) rfl #[.slice A0 l0.length c0, .string (rdOf ByteArray.empty x5_2 x11_3)] rfl (by (try simp only [List.map_toArray, List.map_cons, List.map_nil]); first | done | rfl) ?_; (with_reducible refine (spec_l3At.calls k3 _ _ l0 (rdOf ByteArray.empty x5_2 x11_3) t203 t204 true _ ?side1 ?side2 A28.out).mono ?_); (case side1 => repeat (first | exact (Kd.C_below HR0.out HB.out) | (with_reducible first | refine Ca ?_ _ | refine Cn ?_ _ | refine Cd ?_))); (case side2 => exact HC0.out); rintro e w' ⟨rfl, ⟨nd, rfl⟩⟩; refine ⟨_, rfl, ?_⟩))
       go_roundg k3
       case measure => have := HJ2.out; have := HK2.out; have := HK3.out; omega
       case rel => exact ⟨(x10_3), (wrap64 (x11_3 + 1)), (by first | rfl | (simp; done) | (simp [*]; done)), H', ⟨by have := HJ2.out; have := HK2.out; have := HK3.out; omega⟩, ⟨by (with_reducible repeat (first | apply Ra | apply Rn | apply Rd)); exact HO_5.out⟩, ⟨by (with_reducible repeat (first | apply Ra | apply Rn | apply Rd)); exact HO_10.out⟩, ⟨by repeat (with_reducible first | exact HB.out | apply bA | apply bN | apply bD)⟩⟩
     replace c29 := Bool.eq_false_iff.mpr c29
     subst c29
     have H1 : (if x10_3.length < 8796093022208 then (spec_l3Wants.l3 k3 l0 x5_2 (x10_3 ++ [rdOf ByteArray.empty x5_2 x11_3]) (wrap64 (x11_3 + 1))) else (none)) = some r := by rw [if_neg (show ¬ (false = true) by decide)] at H; exact H
     clear H
     have H := H1
     clear H1
     by_cases c31 : x10_3.length < 8796093022208
     · rw [if_pos c31] at H; have LMc31 := aM c31; clear c31
       obtain ⟨y207, hy207⟩ : ∃ y_ : List ByteArray, y_ = (x10_3 ++ [rdOf ByteArray.empty x5_2 x11_3]) := ⟨_, rfl⟩
       replace H : (spec_l3Wants.l3 k3 l0 x5_2 y207 (wrap64 (x11_3 + 1))) = some r := by first | (rw [hy207]; with_reducible exact H) | (have H2_ := (Option.bind_some _ _).symm.trans H; rw [hy207]; with_reducible exact H2_) | (have H2_ := (Option.bind_some _ _).symm.trans H; with_reducible exact H2_) | with_reducible exact H | (rw [hy207]; exact H) | exact H
       have Ny207 := aM hy207; clear hy207
       have H' := aM H
       clear H
       obtain ⟨Ao32, co32, eo32⟩ := Kd.R_slice HO_5.out
       subst eo32
       have p202 : 0 ≤ (x11_3 : Int) := oD (by first | with_reducible assumption | assumption)
       have q202 : x11_3 < (x5_2.length : Int) := oD (by first | with_reducible assumption | assumption)
       obtain ⟨ad202, e202, hx202_0⟩ := Kd.at_string (Kd.R_reads' HO_5.out).2.2 x11_3 p202 q202
       cases e202
       replace p202 := eq_true p202; replace q202 := eq_true q202
       go_wp2_with (first | ((with_reducible refine gate_callee (f := 115) rfl ?_); refine goesL_ (some 70) rfl rfl Try.func115 (by kernel_rfl) rfl #[.slice A0 l0.length c0, .string (rdOf ByteArray.empty x5_2 x11_3)] rfl (by (try simp only [List.map_toArray, List.map_cons, List.map_nil]); first | done | rfl) ?_; (with_reducible refine (spec_l3At.calls k3 _ _ l0 (rdOf ByteArray.empty x5_2 x11_3) t203 t204 false _ ?side1 ?side2 A28.out).mono ?_); (case side1 => repeat (first | exact (Kd.C_below HR0.out HB.out) | (with_reducible first | refine Ca ?_ _ | refine Cn ?_ _ | refine Cd ?_))); (case side2 => exact HC0.out); rintro e w' ⟨rfl, ⟨nd, rfl⟩⟩; refine ⟨_, rfl, ?_⟩; have p206 : 0 ≤ (x11_3 : Int) := oD (by first | with_reducible assumption | assumption); have q206 : x11_3 < (x5_2.length : Int) := oD (by first | with_reducible assumption | assumption); obtain ⟨ad206, e206, hx206_0⟩ := Kd.at_string (Kd.R_reads' HO_5.out).2.2 x11_3 p206 q206; obtain rfl : ad202 = ad206 := (by injection e206); replace p206 := eq_true p206; replace q206 := eq_true q206) | ((with_reducible refine gate_builtin (b := .append) (xs := #[.tmp 76, .tmp 81]) rfl ?_); at_builtin; refine Kd.R_append Kd.string (w0 := w) w.heap.size rfl (.tmp 76) (.tmp 81) 24 9 (.string ⟨#[]⟩) 16 rfl Try.underlying24 info9 rfl (by decide) (by omega) u10 x10_3 (rdOf ByteArray.empty x5_2 x11_3) [.string (rdOf ByteArray.empty x5_2 x11_3)] (fun k_ => some k_ ≠ (.slice (some ad202) x5_2.length co32 : Value).ownBlock) (fun _ => False) rfl rfl ?aP (fun _ hk => hk.elim) ?aF ?aO ?aB ?aS ?aL ?_; (case aP => exact rfl); (case aB => exact (by repeat (with_reducible first | exact HB.out | apply bA | apply bN | apply bD))); (case aF => exact (fun k_ hk => Kd.fresh' (Kd.R_lt (by (with_reducible repeat (first | apply Ra | apply Rn | apply Rd)); exact HO_5.out)) k_ hk)); (case aO => exact (by (with_reducible repeat (first | apply Ra | apply Rn | apply Rd)); exact HO_10.out)); (case aS => exact (below_size (by repeat (with_reducible first | exact HB.out | apply bA | apply bN | apply bD)))); (case aL => have := LMc31.out; omega); intro v208 w33 ho hb hg hat; rw [← Ny207.out] at ho; have n0_ := aM (Kd.R_after (ok := (fun _ => True)) (by (with_reducible repeat (first | apply Ra | apply Rn | apply Rd)); exact Kd.R_mono HO_5.out (fun _ hk => ⟨trivial, hk⟩)) hg hat); have n1_ := aM (hb); have n2_ := aM (ho); clear HO_5 HB HO_10; have HO_5 := n0_; have HB := n1_; have HO209 := n2_; clear n0_ n1_ n2_ ho hb hg hat))
       go_roundg k3
       case measure => have := HJ2.out; have := HK2.out; have := HK3.out; omega
       case rel => exact ⟨(y207), (wrap64 (x11_3 + 1)), (by first | rfl | (simp; done) | (simp [*]; done)), H', ⟨by have := HJ2.out; have := HK2.out; have := HK3.out; omega⟩, ⟨by (with_reducible repeat (first | apply Ra | apply Rn | apply Rd)); exact Kd.R_mono HO_5.out (fun _ hk => hk.2)⟩, ⟨by (with_reducible repeat (first | apply Ra | apply Rn | apply Rd)); exact HO209.out⟩, ⟨by repeat (with_reducible first | exact HB.out | apply bA | apply bN | apply bD)⟩⟩
     rw [if_neg c31] at H
     exact absurd H (by simp)
   rw [if_neg c27] at H
   exact absurd H (by simp)
 rw [if_neg c26] at H
 have c26b0 : decide (x11_3 < (x5_2.length : Int)) = false := decide_eq_false c26
 clear c26
 obtain rfl := Option.some.inj H
 obtain ⟨Ao34, co34, eo34⟩ := Kd.R_slice HO_5.out
 subst eo34
 go_wp2
 go_ret
 exact ⟨_, by first | rfl | (simp [*, errW_none, errW_some] <;> rfl), by (with_reducible repeat (first | apply Ra | apply Rn | apply Rd)); exact Kd.R_mono HO_10.out (fun _ hk => trivial), by repeat (with_reducible first | exact HB.out | apply bA | apply bN | apply bD)⟩
def spec_l3Units.l0 : Nat → List (List (S52)) → Int → List Int → Int → Option ((List (List (S52))) × Int)
  | 0, _, _, _, _ => none
  | k + 1, x5, x6, x1000, x1001 => if x6 > 0 then ((spec_l2Unit.f k x1000 x1001).bind fun bt588 => (if x5.length < 5864062014805 then (spec_l3Units.l0 k (x5 ++ [bt588.1]) (wrap64 (x6 - 1)) x1000 bt588.2) else (none))) else (some (x5, x1001))
def spec_l3Units.f (k : Nat) (s0_0 : List Int) (s0_1 : Int) (a1 : Int) : Option ((List (List (S52))) × Int) := (spec_l13Rd_pick.f k s0_0 s0_1 (wrap64 (a1 + 1))).bind fun bt586 => (spec_l3Units.l0 k (([] : List (List (S52)))) bt586.1 s0_0 bt586.2)
set_option maxHeartbeats 8000000 in
set_option maxRecDepth 100000 in
theorem spec_l3Units.calls (k : Nat) (g : Nat) (s0_0 : List Int) (s0_1 : Int) (a1 : Int) (r1 : List (List (S52))) (r2 : Int) (w0 w : World) (hI : IsS134 w0 w g s0_0 s0_1) (hB : Below w0.heap.size w0 w) (h : spec_l3Units.f k s0_0 s0_1 a1 = some (r1, r2)) :
    Calls Try.prog 120 #[.pointer (some ⟨g, 0, none⟩), .int .i64 a1] w fun e w' => ∃ v0_ : Value, e = .returned (v0_) ∧ Kd.R (Kd.slice 52 k52) 40 w' w.heap.size (fun _ => True) v0_ r1 ∧ IsS134 w0 w' g s0_0 r2 ∧ Below w0.heap.size w0 w' ∧ KeepBut w w' g none := by
 have HI0 := aM hI
 have HK := aM (KeepBut.refl w g none)
 have HL := aM hB.size
 clear hI
 have HW0 := aM hB.size
 have HB := aM hB; clear hB
 have H : ((spec_l13Rd_pick.f k s0_0 s0_1 (wrap64 (a1 + 1))).bind fun bt586 => (spec_l3Units.l0 k (([] : List (List (S52)))) bt586.1 s0_0 bt586.2)) = some (r1, r2) := h
 clear h
 obtain ⟨y583, hy583⟩ : ∃ y_ : List (List (S52)), y_ = (([] : List (List (S52)))) := ⟨_, rfl⟩
 replace H : ((spec_l13Rd_pick.f k s0_0 s0_1 (wrap64 (a1 + 1))).bind fun bt586 => (spec_l3Units.l0 k y583 bt586.1 s0_0 bt586.2)) = some (r1, r2) := by first | (rw [hy583]; with_reducible exact H) | (have H2_ := (Option.bind_some _ _).symm.trans H; rw [hy583]; with_reducible exact H2_) | (have H2_ := (Option.bind_some _ _).symm.trans H; with_reducible exact H2_) | with_reducible exact H | (rw [hy583]; exact H) | exact H
 have Ny583 := aM hy583; clear hy583
 replace H := Option.bind_eq_some_iff.mp H
 obtain ⟨⟨t586, t587⟩, A30, H⟩ := H
 replace H : (spec_l3Units.l0 k y583 t586 s0_0 t587) = some (r1, r2) := H
 have A3 := aM A30; clear A30
 have H' := aM H
 clear H
 go_enter Try.func120, Try.ntmps120
 go_wp2_with (first | ((with_reducible refine gate_dst (N := 7) rfl ?_); refine Kd.R_lit (Kd.slice 52 k52) _ 40 ?hg (N := 7) ?hd (xs := ([] : List (List (S52)))) (inner := []) (ok := fun _ => True) (okp := fun _ => True) ?hr ?hp (fun _ hk => hk) trivial (Below.refl _ _) (Nat.le_refl _) (by simp) ?_; (case hd => rfl); (case hg => rfl); (case hr => first | (go_simp; done) | (go_simp; rfl)); (case hp => exact (Reps.none _ _)); intro v584 w4 ho5 hb hg_ hnew_; clear hg_ hnew_; (first | rw [← Ny583.out] at ho5 | (simp only [Int.reduceToNat] at ho5; rw [← Ny583.out] at ho5)); have n0_ := aM (Kd.R_lower ho5 (keep_size (w := w) (g := g) (row := none) (by repeat (with_reducible first | exact HK.out | apply KeepBut.set_ | apply kN | apply kD | apply kA)))); have n1_ := aM (IsS134.below (by repeat (with_reducible first | exact HI0.out | apply IsS134.alloc | apply IsS134.drewN | apply IsS134.drew | apply IsS134.set_1)) hb); have n2_ := aM (KeepBut.trans (by repeat (with_reducible first | exact HK.out | apply KeepBut.set_ | apply kN | apply kD | apply kA)) (KeepBut.of_below hb g none) (.inl rfl)); have n3_ := aM (below_step (by repeat (with_reducible first | exact HB.out | apply bA | apply bN | apply bD | refine below_set ?_ (IsS134.ge HI0.out))) hb); clear HI0 HK HB; have HO585 := n0_; have HI0 := n1_; have HK := n2_; have HB := n3_; clear n0_ n1_ n2_ n3_ hb ho5) | ((with_reducible refine gate_callee (f := 121) rfl ?_); refine goesL_ (some 11) rfl rfl Try.func121 (by kernel_rfl) rfl #[.pointer (some ⟨g, 0, none⟩), .int .i64 (wrap64 (a1 + 1))] rfl (by (try simp only [List.map_toArray, List.map_cons, List.map_nil]); first | done | rfl) ?_; (with_reducible refine (spec_l13Rd_pick.calls k g s0_0 s0_1 (wrap64 (a1 + 1)) t586 t587 w0 _ ?side1 ?side2 A3.out).mono ?_); (case side1 => repeat (with_reducible first | exact HI0.out | apply IsS134.alloc | apply IsS134.drewN | apply IsS134.drew | apply IsS134.set_1)); (case side2 => repeat (with_reducible first | exact HB.out | apply bA | apply bN | apply bD | refine below_set ?_ (IsS134.ge HI0.out))); rintro e w6 ⟨rfl, hi, hb, hk⟩; refine ⟨_, rfl, ?_⟩; have n0_ := aM (Kd.R_mono (Kd.R_keep (IsS134.apart (show IsS134 w0 _ g s0_0 s0_1 from by repeat (with_reducible first | exact HI0.out | apply IsS134.alloc | apply IsS134.drewN | apply IsS134.drew | apply IsS134.set_1)) (by (with_reducible repeat (first | apply Ra | apply Rn | apply Rd)); exact HO585.out) (by decide)) hk (fun _ h => h.2)) (fun _ h => h.1)); have n1_ := aM (KeepBut.trans (by repeat (with_reducible first | exact HK.out | apply KeepBut.set_ | apply kN | apply kD | apply kA)) hk (.inl rfl)); have n2_ := aM (hb); have n3_ := aM (hi); clear HO585 HK HB HI0; have HO585 := n0_; have HK := n1_; have HB := n2_; have HI0 := n3_; clear n0_ n1_ n2_ n3_))
 go_loopg [5, 6] k (fun kq v5 v6 w' => ∃ (x5_1 : List (List (S52))) (x6_1 : Int) (x1001_1 : Int), v6 = .int .i64 x6_1 ∧ Aside0 (spec_l3Units.l0 kq x5_1 x6_1 s0_0 x1001_1 = some (r1, r2)) ∧ Aside0 (kq ≤ k) ∧ Aside0 (Kd.R (Kd.slice 52 k52) 40 w' w.heap.size (fun _ => True) v5 x5_1) ∧ Aside0 (IsS134 w0 w' g s0_0 x1001_1) ∧ Aside0 (KeepBut w w' g none) ∧ Aside0 (Below w0.heap.size w0 w'))
 case atStart => exact ⟨(y583), (t586), (t587), (by first | rfl | (simp; done) | (simp [*]; done)), H', ⟨Nat.le_refl _⟩, ⟨by (with_reducible repeat (first | apply Ra | apply Rn | apply Rd)); exact HO585.out⟩, ⟨by repeat (with_reducible first | exact HI0.out | apply IsS134.alloc | apply IsS134.drewN | apply IsS134.drew | apply IsS134.set_1)⟩, ⟨by repeat (with_reducible first | exact HK.out | apply KeepBut.set_ | apply kN | apply kD | apply kA)⟩, ⟨by repeat (with_reducible first | exact HB.out | apply bA | apply bN | apply bD | refine below_set ?_ (IsS134.ge HI0.out))⟩⟩
 clear H'
 try clear c1; try clear p2; try clear p6
 obtain ⟨x5_1, x6_1, x1001_1, rfl, HA, HK1, HO_5, HI0, HK, HB⟩ := hrel
 obtain _ | k1 := gk
 · exact absurd HA.out (by simp [spec_l3Units.l0])
 have H := HA.out
 clear HA
 simp only [spec_l3Units.l0] at H
 by_cases c7 : x6_1 > 0
 · rw [if_pos c7] at H
   have c7b0 : decide (0 < x6_1) = true := decide_eq_true c7
   clear c7
   replace H := Option.bind_eq_some_iff.mp H
   obtain ⟨⟨t588, t591⟩, A80, H⟩ := H
   replace H : (if x5_1.length < 5864062014805 then (spec_l3Units.l0 k1 (x5_1 ++ [t588]) (wrap64 (x6_1 - 1)) s0_0 t591) else (none)) = some (r1, r2) := H
   have A8 := aM A80; clear A80
   by_cases c9 : x5_1.length < 5864062014805
   · rw [if_pos c9] at H; have LMc9 := aM c9; clear c9
     obtain ⟨y592, hy592⟩ : ∃ y_ : List (List (S52)), y_ = (x5_1 ++ [t588]) := ⟨_, rfl⟩
     replace H : (spec_l3Units.l0 k1 y592 (wrap64 (x6_1 - 1)) s0_0 t591) = some (r1, r2) := by first | (rw [hy592]; with_reducible exact H) | (have H2_ := (Option.bind_some _ _).symm.trans H; rw [hy592]; with_reducible exact H2_) | (have H2_ := (Option.bind_some _ _).symm.trans H; with_reducible exact H2_) | with_reducible exact H | (rw [hy592]; exact H) | exact H
     have Ny592 := aM hy592; clear hy592
     have H' := aM H
     clear H
     go_wp2_with (first | ((with_reducible refine gate_callee (f := 133) rfl ?_); refine goesL_ (some 18) rfl rfl Try.func133 (by kernel_rfl) rfl #[.pointer (some ⟨g, 0, none⟩)] rfl (by (try simp only [List.map_toArray, List.map_cons, List.map_nil]); first | done | rfl) ?_; (with_reducible refine (spec_l2Unit.calls k1 g s0_0 x1001_1 t588 t591 w0 _ ?side1 ?side2 A8.out).mono ?_); (case side1 => repeat (with_reducible first | exact HI0.out | apply IsS134.alloc | apply IsS134.drewN | apply IsS134.drew | apply IsS134.set_1)); (case side2 => repeat (with_reducible first | exact HB.out | apply bA | apply bN | apply bD | refine below_set ?_ (IsS134.ge HI0.out))); rintro e w10 ⟨v589, rfl, ho0, hi, hb, hk⟩; refine ⟨_, rfl, ?_⟩; have n0_ := aM (Kd.R_mono (Kd.R_told (Kd.R_oldK (IsS134.apart (show IsS134 w0 _ g s0_0 x1001_1 from by repeat (with_reducible first | exact HI0.out | apply IsS134.alloc | apply IsS134.drewN | apply IsS134.drew | apply IsS134.set_1)) (by (with_reducible repeat (first | apply Ra | apply Rn | apply Rd)); exact HO_5.out) (by decide)) hk) (Kd.R_base ho0)) (fun _ h_ => h_.1)); have n1_ := aM (Kd.R_lower ho0 (keep_size (w := w) (g := g) (row := none) (by repeat (with_reducible first | exact HK.out | apply KeepBut.set_ | apply kN | apply kD | apply kA)))); have n2_ := aM (KeepBut.trans (by repeat (with_reducible first | exact HK.out | apply KeepBut.set_ | apply kN | apply kD | apply kA)) hk (.inl rfl)); have n3_ := aM (hb); have n4_ := aM (hi); clear HO_5 HK HB HI0; have HO_5 := n0_; have HO590 := n1_; have HK := n2_; have HB := n3_; have HI0 := n4_; clear n0_ n1_ n2_ n3_ n4_; (try clear ho0); obtain ⟨Ao12, co12, eo12⟩ := Kd.R_slice HO590.out; subst eo12) | ((with_reducible refine gate_builtin (b := .append) (xs := #[.tmp 16, .tmp 19]) rfl ?_); at_builtin; refine Kd.R_append (Kd.slice 52 k52) w.heap.size rfl (.tmp 16) (.tmp 19) 26 40 (.slice none 0 0) 24 rfl Try.underlying26 info40 rfl (by decide) (by omega) u5 x5_1 t588 [.slice Ao12 t588.length co12] (fun _ => True) (fun k_ => ((fun _ => True)) k_ ∧ some k_ ≠ (u5 : Value).ownBlock) rfl rfl ?aP (fun _ hk => hk) ?aF ?aO (Below.refl _ _) ?aS ?aL ?_; (case aP => exact Kd.M_row (Kd.R_mono (Kd.R_apart' (HO590.out) (Kd.R_typed HO_5.out) (by decide)) (fun k_ hk => ⟨trivial, hk.2⟩))); (case aF => exact (fun _ _ => trivial)); (case aO => exact (by (with_reducible repeat (first | apply Ra | apply Rn | apply Rd)); exact Kd.R_mono HO_5.out (fun _ hk => trivial))); (case aS => exact (keep_size (w := w) (g := g) (row := none) (by repeat (with_reducible first | exact HK.out | apply KeepBut.set_ | apply kN | apply kD | apply kA)))); (case aL => have := LMc9.out; omega); intro v593 w11 ho hb hg hat; rw [← Ny592.out] at ho; have n0_ := aM (IsS134.grown (by repeat (with_reducible first | exact HI0.out | apply IsS134.alloc | apply IsS134.drewN | apply IsS134.drew | apply IsS134.set_1)) hg (IsS134.own_ne HI0.out HO_5.out (by decide))); have n1_ := aM (below_weaken (by repeat (with_reducible first | exact HB.out | apply bA | apply bN | apply bD | refine below_set ?_ (IsS134.ge HI0.out))) HL.out hb); have n2_ := aM (KeepBut.trans (by repeat (with_reducible first | exact HK.out | apply KeepBut.set_ | apply kN | apply kD | apply kA)) (KeepBut.of_grown hg g) (Kd.R_base2 HO_5.out)); have n3_ := aM (ho); clear HI0 HB HK HO_5 HO590; have HI0 := n0_; have HB := n1_; have HK := n2_; have HO594 := n3_; clear n0_ n1_ n2_ n3_ ho hb hg hat))
     go_roundg k1
     case measure => have := HK1.out; omega
     case rel => exact ⟨(y592), (wrap64 (x6_1 - 1)), (t591), (by first | rfl | (simp; done) | (simp [*]; done)), H', ⟨by have := HK1.out; omega⟩, ⟨by (with_reducible repeat (first | apply Ra | apply Rn | apply Rd)); exact HO594.out⟩, ⟨by repeat (with_reducible first | exact HI0.out | apply IsS134.alloc | apply IsS134.drewN | apply IsS134.drew | apply IsS134.set_1)⟩, ⟨by repeat (with_reducible first | exact HK.out | apply KeepBut.set_ | apply kN | apply kD | apply kA)⟩, ⟨by repeat (with_reducible first | exact HB.out | apply bA | apply bN | apply bD | refine below_set ?_ (IsS134.ge HI0.out))⟩⟩
   rw [if_neg c9] at H
   exact absurd H (by simp)
 rw [if_neg c7] at H
 have c7b0 : decide (0 < x6_1) = false := decide_eq_false c7
 clear c7
 simp only [Option.some.injEq, Prod.mk.injEq] at H
 obtain ⟨rfl, rfl⟩ := H
 go_wp2
 go_ret
 exact ⟨_, by first | rfl | (simp [*, errW_none, errW_some] <;> rfl), by (with_reducible repeat (first | apply Ra | apply Rn | apply Rd)); exact HO_5.out, by repeat (with_reducible first | exact HI0.out | apply IsS134.alloc | apply IsS134.drewN | apply IsS134.drew | apply IsS134.set_1), by repeat (with_reducible first | exact HB.out | apply bA | apply bN | apply bD | refine below_set ?_ (IsS134.ge HI0.out)), by repeat (with_reducible first | exact HK.out | apply KeepBut.set_ | apply kN | apply kD | apply kA)⟩
theorem spec_l3Thin_dn_cell (wr : World) (nd : Nat) (c : Array Value) (t : TypeId) (i : Nat) : ((wr.drewN nd).alloc (.cells c t)).cell? ⟨wr.heap.size, i, none⟩ = c[i]? := World.cell?_alloc_new (wr.drewN nd) c t i
theorem spec_l3Thin_dn_frozen (wr : World) (nd : Nat) (c : Array Value) (t : TypeId) (i : Nat) : ((wr.drewN nd).alloc (.cells c t)).frozen? ⟨wr.heap.size, i, none⟩ = false := World.frozen?_alloc_new (wr.drewN nd) c t i
attribute [local go_sem] spec_l3Thin_dn_cell spec_l3Thin_dn_frozen
mutual
def spec_l3Thin.l0 : Nat → List (List (S52)) → List (List (S52)) → List ByteArray → Int → Option ((List (List (S52))))
  | 0, _, _, _, _ => none
  | k + 1, x0, x3, x4, x5 => if x5 < (x0.length : Int) then (spec_l3Thin.l1 k x0 x3 x4 x5 (([] : List (S52))) 0) else (some x3)
def spec_l3Thin.l1 : Nat → List (List (S52)) → List (List (S52)) → List ByteArray → Int → List (S52) → Int → Option ((List (List (S52))))
  | 0, _, _, _, _, _, _ => none
  | k + 1, x0, x3, x4, x5, x6, x7 => if 0 ≤ x5 then (if x5 < (x0.length : Int) then (if x7 < ((rd_L20 x0 x5).length : Int) then (if 0 ≤ x7 then (if (rd_T52 (rd_L20 x0 x5) x7).f1 = true then (if x6.length < 2932031007402 then (if x4.length < 8796093022208 then (spec_l3Thin.l1 k x0 x3 (x4 ++ [(rd_T52 (rd_L20 x0 x5) x7).f0]) x5 (x6 ++ [(⟨(rd_T52 (rd_L20 x0 x5) x7).f0, (rd_T52 (rd_L20 x0 x5) x7).f1, (rd_T52 (rd_L20 x0 x5) x7).f2⟩ : S52)]) (wrap64 (x7 + 1))) else (none)) else (none)) else ((spec_l2Has.f k x4 ((rd_T52 (rd_L20 x0 x5) x7).f0)).bind fun t622 => (if t622 = true then (spec_l3Thin.l1 k x0 x3 x4 x5 x6 (wrap64 (x7 + 1))) else (if x6.length < 2932031007402 then (if x4.length < 8796093022208 then (spec_l3Thin.l1 k x0 x3 (x4 ++ [(rd_T52 (rd_L20 x0 x5) x7).f0]) x5 (x6 ++ [(⟨(rd_T52 (rd_L20 x0 x5) x7).f0, (rd_T52 (rd_L20 x0 x5) x7).f1, (rd_T52 (rd_L20 x0 x5) x7).f2⟩ : S52)]) (wrap64 (x7 + 1))) else (none)) else (none))))) else (none)) else (if x3.length < 5864062014805 then (spec_l3Thin.l0 k x0 (x3 ++ [x6]) x4 (wrap64 (x5 + 1))) else (none))) else (none)) else (none)
end
def spec_l3Thin.f (k : Nat) (l0 : List (List (S52))) : Option ((List (List (S52)))) := spec_l3Thin.l0 k l0 (([] : List (List (S52)))) (([] : List ByteArray)) 0
set_option maxHeartbeats 8000000 in
set_option maxRecDepth 100000 in
theorem spec_l3Thin.calls (k : Nat) (P0_ : Nat → Prop) (A0 : Option Addr) (c0 : Nat) (l0 : List (List (S52))) (r : List (List (S52))) (w : World) (hs0 : Kd.V (Kd.slice 52 k52) 40 w w.heap.size (fun k_ => P0_ k_) (.slice A0 l0.length c0) l0) (h : spec_l3Thin.f k l0 = some r) :
    Calls Try.prog 122 #[.slice A0 l0.length c0] w fun e w' => ∃ v0_ : Value, e = .returned (v0_) ∧ Kd.N (Kd.slice 52 k52) 40 w' w.heap.size (fun k_ => (P0_ k_ ∨ w.heap.size ≤ k_)) v0_ r ∧ Below w.heap.size w w' := by
 have hu52 := Try.underlying52
 have HO0 := aM (show Kd.V (Kd.slice 52 k52) 40 w w.heap.size (fun k_ => (P0_ k_ ∨ w.heap.size ≤ k_)) (.slice A0 l0.length c0) l0 from Kd.V_mono hs0 (fun k_ hk => .inl hk))
 have HB := aM (Below.refl w.heap.size w)
 have H : (spec_l3Thin.l0 k l0 (([] : List (List (S52)))) (([] : List ByteArray)) 0) = some r := h
 clear h
 obtain ⟨y595, hy595⟩ : ∃ y_ : List (List (S52)), y_ = (([] : List (List (S52)))) := ⟨_, rfl⟩
 replace H : (spec_l3Thin.l0 k l0 y595 (([] : List ByteArray)) 0) = some r := by first | (rw [hy595]; with_reducible exact H) | (have H2_ := (Option.bind_some _ _).symm.trans H; rw [hy595]; with_reducible exact H2_) | (have H2_ := (Option.bind_some _ _).symm.trans H; with_reducible exact H2_) | with_reducible exact H | (rw [hy595]; exact H) | exact H
 have Ny595 := aM hy595; clear hy595
 obtain ⟨y598, hy598⟩ : ∃ y_ : List ByteArray, y_ = (([] : List ByteArray)) := ⟨_, rfl⟩
 replace H : (spec_l3Thin.l0 k l0 y595 y598 0) = some r := by first | (rw [hy598]; with_reducible exact H) | (have H2_ := (Option.bind_some _ _).symm.trans H; rw [hy598]; with_reducible exact H2_) | (have H2_ := (Option.bind_some _ _).symm.trans H; with_reducible exact H2_) | with_reducible exact H | (rw [hy598]; exact H) | exact H
 have Ny598 := aM hy598; clear hy598
 have H' := aM H
 clear H
 go_enter Try.func122, Try.ntmps122
 go_wp2_with (first | ((with_reducible refine gate_dst (N := 8) rfl ?_); refine Kd.N_lit (Kd.slice 52 k52) _ 40 ?hg (N' := 8) ?hd (xs := ([] : List (List (S52)))) (inner := []) (ok := (fun k_ => (P0_ k_ ∨ w.heap.size ≤ k_))) (okp := (fun k_ => (P0_ k_ ∨ w.heap.size ≤ k_))) ?hr ?hp (fun _ hk => hk) ((show ∀ k_, w.heap.size ≤ k_ → (fun k_ => (P0_ k_ ∨ w.heap.size ≤ k_)) k_ from fun k_ hk => (.inr (Nat.le_trans (below_size (by repeat (with_reducible first | exact HB.out | apply bA | apply bN | apply bD))) hk))) _ (Nat.le_refl _)) (Below.refl _ _) (Nat.le_refl _) (by simp) ?_; (case hd => rfl); (case hg => rfl); (case hr => first | (go_simp; done) | (go_simp; rfl)); (case hp => exact (Reps.none _ _)); intro v596 w2 ho3 hb hg_ hnew_; clear hg_ hnew_; (first | rw [← Ny595.out] at ho3 | (simp only [Int.reduceToNat] at ho3; rw [← Ny595.out] at ho3)); have n0_ := aM (Kd.V_elder' (by (with_reducible repeat (first | apply Va | apply Vn | apply Vd)); exact HO0.out) (Kd.N_base ho3) hb); have n1_ := aM (Kd.N_lower ho3 (below_size (by repeat (with_reducible first | exact HB.out | apply bA | apply bN | apply bD)))); have n2_ := aM (below_step (by repeat (with_reducible first | exact HB.out | apply bA | apply bN | apply bD)) hb); clear HO0 HB; have HO0 := n0_; have HO597 := n1_; have HB := n2_; clear n0_ n1_ n2_ hb ho3) | ((with_reducible refine gate_dst (N := 9) rfl ?_); refine Kd.R_lit Kd.string _ 9 ?hg (N := 9) ?hd (xs := ([] : List ByteArray)) (inner := []) (ok := fun _ => True) (okp := fun _ => True) ?hr ?hp (fun _ hk => hk) trivial (Below.refl _ _) (Nat.le_refl _) (by simp) ?_; (case hd => rfl); (case hg => rfl); (case hr => first | (go_simp; done) | (go_simp; rfl)); (case hp => exact (Reps.none _ _)); intro v599 w4 ho5 hb hg_ hnew_; clear hg_ hnew_; (first | rw [← Ny598.out] at ho5 | (simp only [Int.reduceToNat] at ho5; rw [← Ny598.out] at ho5)); have n0_ := aM (Kd.V_elder' (by (with_reducible repeat (first | apply Va | apply Vn | apply Vd)); exact HO0.out) (Kd.R_base ho5) hb); have n1_ := aM (Kd.N_elder' (by (with_reducible repeat (first | apply Na | apply Nn | apply Nd)); exact HO597.out) (Kd.R_base ho5) hb); have n2_ := aM (Kd.R_lower (Kd.R_newM (M := fun k_ => (w.heap.size ≤ k_)) ho5 (below_size (by repeat (with_reducible first | exact HB.out | apply bA | apply bN | apply bD))) (fun k_ h_ => h_)) (below_size (by repeat (with_reducible first | exact HB.out | apply bA | apply bN | apply bD)))); have n3_ := aM (below_step (by repeat (with_reducible first | exact HB.out | apply bA | apply bN | apply bD)) hb); clear HO0 HO597 HB; have HO0 := n0_; have HO597 := n1_; have HO600 := n2_; have HB := n3_; clear n0_ n1_ n2_ n3_ hb ho5))
 go_loopg [3, 4, 5] k (fun kq v3 v4 v5 w' => ∃ (x3_1 : List (List (S52))) (x4_1 : List ByteArray) (x5_1 : Int), v5 = .int .i64 x5_1 ∧ Aside0 (spec_l3Thin.l0 kq l0 x3_1 x4_1 x5_1 = some r) ∧ Aside0 (kq ≤ k) ∧ Aside0 (Kd.V (Kd.slice 52 k52) 40 w' w.heap.size (fun k_ => (P0_ k_ ∨ w.heap.size ≤ k_) ∧ some k_ ≠ (v3 : Value).ownBlock ∧ some k_ ≠ (v4 : Value).ownBlock) (.slice A0 l0.length c0) l0) ∧ Aside0 (Kd.N (Kd.slice 52 k52) 40 w' w.heap.size (fun k_ => (P0_ k_ ∨ w.heap.size ≤ k_) ∧ some k_ ≠ (v4 : Value).ownBlock) v3 x3_1) ∧ Aside0 (Kd.R Kd.string 9 w' w.heap.size (fun k_ => (w.heap.size ≤ k_)) v4 x4_1) ∧ Aside0 (Below w.heap.size w w'))
 case atStart => exact ⟨(y595), (y598), (0), (by first | rfl | (simp; done) | (simp [*]; done)), H', ⟨Nat.le_refl _⟩, ⟨by (with_reducible repeat (first | apply Va | apply Vn | apply Vd)); exact Kd.V_mono HO0.out (fun _ hk => ⟨hk.1.1, ⟨hk.1.2, hk.2⟩⟩)⟩, ⟨by (with_reducible repeat (first | apply Na | apply Nn | apply Nd)); exact HO597.out⟩, ⟨by (with_reducible repeat (first | apply Ra | apply Rn | apply Rd)); exact Kd.R_mono HO600.out (fun _ hk => hk.1)⟩, ⟨by repeat (with_reducible first | exact HB.out | apply bA | apply bN | apply bD)⟩⟩
 clear H'
 try clear c1; try clear p2
 obtain ⟨x3_1, x4_1, x5_1, rfl, HA, HK1, HO_0, HO_3, HO_4, HB⟩ := hrel
 obtain _ | k1 := gk
 · exact absurd HA.out (by simp [spec_l3Thin.l0])
 have H := HA.out
 clear HA
 simp only [spec_l3Thin.l0] at H
 by_cases c6 : x5_1 < (l0.length : Int)
 · rw [if_pos c6] at H
   have c6b0 : decide (x5_1 < (l0.length : Int)) = true := decide_eq_true c6
   clear c6
   obtain ⟨y601, hy601⟩ : ∃ y_ : List (S52), y_ = (([] : List (S52))) := ⟨_, rfl⟩
   replace H : (spec_l3Thin.l1 k1 l0 x3_1 x4_1 x5_1 y601 0) = some r := by first | (rw [hy601]; with_reducible exact H) | (have H2_ := (Option.bind_some _ _).symm.trans H; rw [hy601]; with_reducible exact H2_) | (have H2_ := (Option.bind_some _ _).symm.trans H; with_reducible exact H2_) | with_reducible exact H | (rw [hy601]; exact H) | exact H
   have Ny601 := aM hy601; clear hy601
   have H' := aM H
   clear H
   go_wp2_with (first | ((with_reducible refine gate_dst (N := 16) rfl ?_); refine Kd.N_lit k52 _ 52 ?hg (N' := 16) ?hd (xs := ([] : List (S52))) (inner := []) (ok := (fun k_ => (P0_ k_ ∨ w.heap.size ≤ k_) ∧ some k_ ≠ (u3 : Value).ownBlock ∧ some k_ ≠ (u4 : Value).ownBlock)) (okp := (fun k_ => (P0_ k_ ∨ w.heap.size ≤ k_) ∧ some k_ ≠ (u3 : Value).ownBlock ∧ some k_ ≠ (u4 : Value).ownBlock)) ?hr ?hp (fun _ hk => hk) ((show ∀ k_, wr.heap.size ≤ k_ → (fun k_ => (P0_ k_ ∨ w.heap.size ≤ k_) ∧ some k_ ≠ (u3 : Value).ownBlock ∧ some k_ ≠ (u4 : Value).ownBlock) k_ from fun k_ hk => ⟨(.inr (Nat.le_trans (below_size (by repeat (with_reducible first | exact HB.out | apply bA | apply bN | apply bD))) hk)), Kd.fresh' (Kd.N_lt (by (with_reducible repeat (first | apply Na | apply Nn | apply Nd)); exact HO_3.out)) k_ hk, Kd.fresh' (Kd.R_lt (by (with_reducible repeat (first | apply Ra | apply Rn | apply Rd)); exact HO_4.out)) k_ hk⟩) _ (Nat.le_refl _)) (Below.refl _ _) (Nat.le_refl _) (by simp) ?_; (case hd => rfl); (case hg => rfl); (case hr => first | (go_simp; done) | (go_simp; rfl)); (case hp => exact (Reps.none _ _)); intro v602 w7 ho8 hb hg_ hnew_; clear hg_ hnew_; (first | rw [← Ny601.out] at ho8 | (simp only [Int.reduceToNat] at ho8; rw [← Ny601.out] at ho8)); have n0_ := aM (Kd.V_elder' (by (with_reducible repeat (first | apply Va | apply Vn | apply Vd)); exact HO_0.out) (Kd.N_base ho8) hb); have n1_ := aM (Kd.N_elder' (by (with_reducible repeat (first | apply Na | apply Nn | apply Nd)); exact HO_3.out) (Kd.N_base ho8) hb); have n2_ := aM (Kd.R_below (by (with_reducible repeat (first | apply Ra | apply Rn | apply Rd)); exact HO_4.out) hb); have n3_ := aM (Kd.N_lower ho8 (below_size (by repeat (with_reducible first | exact HB.out | apply bA | apply bN | apply bD)))); have n4_ := aM (below_step (by repeat (with_reducible first | exact HB.out | apply bA | apply bN | apply bD)) hb); clear HO_0 HO_3 HO_4 HB; have HO_0 := n0_; have HO_3 := n1_; have HO_4 := n2_; have HO603 := n3_; have HB := n4_; clear n0_ n1_ n2_ n3_ n4_ hb ho8))
   go_loopg [4, 6, 7] k1 (fun kq v4 v6 v7 w' => ∃ (x4_2 : List ByteArray) (x6_2 : List (S52)) (x7_2 : Int), v7 = .int .i64 x7_2 ∧ Aside0 (spec_l3Thin.l1 kq l0 x3_1 x4_2 x5_1 x6_2 x7_2 = some r) ∧ Aside0 (kq ≤ k1) ∧ Aside0 (Kd.V (Kd.slice 52 k52) 40 w' w.heap.size (fun k_ => (P0_ k_ ∨ w.heap.size ≤ k_) ∧ some k_ ≠ (u3 : Value).ownBlock ∧ some k_ ≠ (v4 : Value).ownBlock ∧ some k_ ≠ (v6 : Value).ownBlock) (.slice A0 l0.length c0) l0) ∧ Aside0 (Kd.N (Kd.slice 52 k52) 40 w' w.heap.size (fun k_ => (P0_ k_ ∨ w.heap.size ≤ k_) ∧ some k_ ≠ (v4 : Value).ownBlock ∧ some k_ ≠ (v6 : Value).ownBlock) u3 x3_1) ∧ Aside0 (Kd.R Kd.string 9 w' w.heap.size (fun k_ => (w.heap.size ≤ k_)) v4 x4_2) ∧ Aside0 (Kd.N k52 52 w' w.heap.size (fun k_ => (P0_ k_ ∨ w.heap.size ≤ k_) ∧ some k_ ≠ (u3 : Value).ownBlock ∧ some k_ ≠ (v4 : Value).ownBlock) v6 x6_2) ∧ Aside0 (Below w.heap.size w w'))
   case atStart => exact ⟨(x4_1), (y601), (0), (by first | rfl | (simp; done) | (simp [*]; done)), H', ⟨Nat.le_refl _⟩, ⟨by (with_reducible repeat (first | apply Va | apply Vn | apply Vd)); exact Kd.V_mono HO_0.out (fun _ hk => ⟨hk.1.1, ⟨hk.1.2.1, ⟨hk.1.2.2, hk.2⟩⟩⟩)⟩, ⟨by (with_reducible repeat (first | apply Na | apply Nn | apply Nd)); exact Kd.N_mono HO_3.out (fun _ hk => ⟨hk.1.1, ⟨hk.1.2, hk.2⟩⟩)⟩, ⟨by (with_reducible repeat (first | apply Ra | apply Rn | apply Rd)); exact HO_4.out⟩, ⟨by (with_reducible repeat (first | apply Na | apply Nn | apply Nd)); exact HO603.out⟩, ⟨by repeat (with_reducible first | exact HB.out | apply bA | apply bN | apply bD)⟩⟩
   clear H'
   try clear c1; try clear p2; try clear c6; try clear c6b0; try clear p2
   obtain ⟨x4_2, x6_2, x7_2, rfl, HA, HK2, HO_0, HO_3, HO_4, HO_6, HB⟩ := hrel
   obtain _ | k2 := gk
   · exact absurd HA.out (by simp [spec_l3Thin.l1])
   have H := HA.out
   clear HA
   simp only [spec_l3Thin.l1] at H
   by_cases c9 : 0 ≤ x5_1
   · rw [if_pos c9] at H
     have c9b0 : decide (0 ≤ x5_1) = true := decide_eq_true c9
     clear c9
     by_cases c10 : x5_1 < (l0.length : Int)
     · rw [if_pos c10] at H
       have c10b0 : decide (x5_1 < (l0.length : Int)) = true := decide_eq_true c10
       clear c10
       by_cases c11 : x7_2 < ((rd_L20 l0 x5_1).length : Int)
       · rw [if_pos c11] at H
         have c11b0 : decide (x7_2 < ((rd_L20 l0 x5_1).length : Int)) = true := decide_eq_true c11
         clear c11
         by_cases c12 : 0 ≤ x7_2
         · rw [if_pos c12] at H
           have c12b0 : decide (0 ≤ x7_2) = true := decide_eq_true c12
           clear c12
           obtain ⟨bq13, hbq13⟩ : ∃ b_ : Bool, b_ = ((rd_T52 (rd_L20 l0 x5_1) x7_2).f1) := ⟨_, rfl⟩
           replace H : (if bq13 = true then (if x6_2.length < 2932031007402 then (if x4_2.length < 8796093022208 then (spec_l3Thin.l1 k2 l0 x3_1 (x4_2 ++ [(rd_T52 (rd_L20 l0 x5_1) x7_2).f0]) x5_1 (x6_2 ++ [(⟨(rd_T52 (rd_L20 l0 x5_1) x7_2).f0, bq13, (rd_T52 (rd_L20 l0 x5_1) x7_2).f2⟩ : S52)]) (wrap64 (x7_2 + 1))) else (none)) else (none)) else ((spec_l2Has.f k2 x4_2 ((rd_T52 (rd_L20 l0 x5_1) x7_2).f0)).bind fun t622 => (if t622 = true then (spec_l3Thin.l1 k2 l0 x3_1 x4_2 x5_1 x6_2 (wrap64 (x7_2 + 1))) else (if x6_2.length < 2932031007402 then (if x4_2.length < 8796093022208 then (spec_l3Thin.l1 k2 l0 x3_1 (x4_2 ++ [(rd_T52 (rd_L20 l0 x5_1) x7_2).f0]) x5_1 (x6_2 ++ [(⟨(rd_T52 (rd_L20 l0 x5_1) x7_2).f0, bq13, (rd_T52 (rd_L20 l0 x5_1) x7_2).f2⟩ : S52)]) (wrap64 (x7_2 + 1))) else (none)) else (none))))) = some r := by rw [← hbq13] at H; exact H
           have Nbq13 := aM hbq13; clear hbq13
           by_cases c14 : bq13 = true
           · subst c14
             have H1 : (if x6_2.length < 2932031007402 then (if x4_2.length < 8796093022208 then (spec_l3Thin.l1 k2 l0 x3_1 (x4_2 ++ [(rd_T52 (rd_L20 l0 x5_1) x7_2).f0]) x5_1 (x6_2 ++ [(⟨(rd_T52 (rd_L20 l0 x5_1) x7_2).f0, true, (rd_T52 (rd_L20 l0 x5_1) x7_2).f2⟩ : S52)]) (wrap64 (x7_2 + 1))) else (none)) else (none)) = some r := by rw [if_pos rfl] at H; exact H
             clear H
             have H := H1
             clear H1
             by_cases c15 : x6_2.length < 2932031007402
             · rw [if_pos c15] at H; have LMc15 := aM c15; clear c15
               obtain ⟨y612, hy612⟩ : ∃ y_ : List (S52), y_ = (x6_2 ++ [(⟨(rd_T52 (rd_L20 l0 x5_1) x7_2).f0, true, (rd_T52 (rd_L20 l0 x5_1) x7_2).f2⟩ : S52)]) := ⟨_, rfl⟩
               replace H : (if x4_2.length < 8796093022208 then (spec_l3Thin.l1 k2 l0 x3_1 (x4_2 ++ [(rd_T52 (rd_L20 l0 x5_1) x7_2).f0]) x5_1 y612 (wrap64 (x7_2 + 1))) else (none)) = some r := by first | (rw [hy612]; with_reducible exact H) | (have H2_ := (Option.bind_some _ _).symm.trans H; rw [hy612]; with_reducible exact H2_) | (have H2_ := (Option.bind_some _ _).symm.trans H; with_reducible exact H2_) | with_reducible exact H | (rw [hy612]; exact H) | exact H
               have Ny612 := aM hy612; clear hy612
               by_cases c16 : x4_2.length < 8796093022208
               · rw [if_pos c16] at H; have LMc16 := aM c16; clear c16
                 obtain ⟨y617, hy617⟩ : ∃ y_ : List ByteArray, y_ = (x4_2 ++ [(rd_T52 (rd_L20 l0 x5_1) x7_2).f0]) := ⟨_, rfl⟩
                 replace H : (spec_l3Thin.l1 k2 l0 x3_1 y617 x5_1 y612 (wrap64 (x7_2 + 1))) = some r := by first | (rw [hy617]; with_reducible exact H) | (have H2_ := (Option.bind_some _ _).symm.trans H; rw [hy617]; with_reducible exact H2_) | (have H2_ := (Option.bind_some _ _).symm.trans H; with_reducible exact H2_) | with_reducible exact H | (rw [hy617]; exact H) | exact H
                 have Ny617 := aM hy617; clear hy617
                 have H' := aM H
                 clear H
                 have p604 : 0 ≤ (x5_1 : Int) := oD (by first | with_reducible assumption | assumption)
                 have q604 : x5_1 < (l0.length : Int) := oD (by first | with_reducible assumption | assumption)
                 obtain ⟨ad604, A604_0, c604_0, e604, hx604_0, hl604_0, hi604_0⟩ := at_L20 (Kd.V_reads' HO_0.out).2.2 x5_1 p604 q604
                 cases e604
                 obtain ⟨ce604, hce604, hMe604, hcc604⟩ := Kd.V_get HO_0.out [] x5_1 p604 (by first | exact q604 | exact oD (by first | with_reducible assumption | assumption) | (have e_ := (Kd.V_reads' HO_0.out).1; omega))
                 obtain ⟨ua604_0, uc604_0, rfl, ul604_0, ge604_0⟩ := Kd.FK_slice_open hMe604
                 have hv604_0 := hcc604 0 _ rfl
                 rw [Nat.add_zero, show ((Kd.slice 52 k52)).sz = 1 from rfl, Nat.mul_one] at hv604_0
                 replace hv604_0 := Option.some.inj (hv604_0.symm.trans hx604_0)
                 injection hv604_0 with hva_ hvn_ hvc_
                 rw [hva_] at ge604_0
                 rw [hvc_] at ul604_0
                 have HL604_0 := aM (show Kd.V k52 52 _ w.heap.size _ _ (rd_L20 l0 x5_1) from Kd.V_mk ul604_0 ge604_0)
                 clear hva_ hvn_ hvc_ ge604_0 ul604_0 hcc604 hce604; have HR604_0 := aM hi604_0; have HC604_0 := aM hl604_0; clear hi604_0 hl604_0; replace p604 := eq_true p604; replace q604 := eq_true q604
                 have p608 : 0 ≤ (x5_1 : Int) := oD (by first | with_reducible assumption | assumption)
                 have q608 : x5_1 < (l0.length : Int) := oD (by first | with_reducible assumption | assumption)
                 obtain ⟨ad608, A608_0, c608_0, e608, hx608_0, hl608_0, hi608_0⟩ := at_L20 (Kd.V_reads' HO_0.out).2.2 x5_1 p608 q608
                 obtain rfl : ad604 = ad608 := (by injection e608)
                 obtain ⟨ce608, hce608, hMe608, hcc608⟩ := Kd.V_get HO_0.out [] x5_1 p608 (by first | exact q608 | exact oD (by first | with_reducible assumption | assumption) | (have e_ := (Kd.V_reads' HO_0.out).1; omega))
                 obtain ⟨ua608_0, uc608_0, rfl, ul608_0, ge608_0⟩ := Kd.FK_slice_open hMe608
                 have hv608_0 := hcc608 0 _ rfl
                 rw [Nat.add_zero, show ((Kd.slice 52 k52)).sz = 1 from rfl, Nat.mul_one] at hv608_0
                 replace hv608_0 := Option.some.inj (hv608_0.symm.trans hx608_0)
                 injection hv608_0 with hva_ hvn_ hvc_
                 rw [hva_] at ge608_0
                 rw [hvc_] at ul608_0
                 have HL608_0 := aM (show Kd.V k52 52 _ w.heap.size _ _ (rd_L20 l0 x5_1) from Kd.V_mk ul608_0 ge608_0)
                 clear hva_ hvn_ hvc_ ge608_0 ul608_0 hcc608 hce608; have HR608_0 := aM hi608_0; have HC608_0 := aM hl608_0; clear hi608_0 hl608_0; replace p608 := eq_true p608; replace q608 := eq_true q608
                 have ea_ := Option.some.inj (hx604_0.symm.trans hx608_0)
                 injection ea_ with ea_ en_ ec_
                 subst ea_; subst ec_; clear en_
                 have p609 : 0 ≤ (x7_2 : Int) := oD (by first | with_reducible assumption | assumption)
                 have q609 : x7_2 < ((rd_L20 l0 x5_1).length : Int) := oD (by first | with_reducible assumption | assumption)
                 obtain ⟨ad609, A609_2, c609_2, e609, hx609_0, hx609_1, hx609_2, hl609_2, hi609_2⟩ := at_T52 (by repeat (first | (with_reducible exact HR608_0.out) | (with_reducible first | refine Ca ?_ _ | refine Cn ?_ _ | refine Cd ?_) | exact HR608_0.out)) x7_2 p609 q609
                 (try rw [← Nbq13.out] at hx609_1)
                 cases e609
                 obtain ⟨ce609, hce609, hMe609, hcc609⟩ := Kd.V_get HL608_0.out z52 x7_2 p609 (by first | exact q609 | exact oD (by first | with_reducible assumption | assumption) | (have e_ := (Kd.V_reads' HL608_0.out).1; omega))
                 obtain ⟨ua609_2, uc609_2, rfl, ul609_2, ge609_2⟩ := k52_openF hMe609
                 have hv609_2 := hcc609 2 _ rfl
                 rw [add_field _ _ 2 (by omega)] at hv609_2
                 replace hv609_2 := Option.some.inj (hv609_2.symm.trans hx609_2)
                 injection hv609_2 with hva_ hvn_ hvc_
                 rw [hva_] at ge609_2
                 rw [hvc_] at ul609_2
                 have HL609_2 := aM (show Kd.V k110 110 _ w.heap.size _ _ ((rd_T52 (rd_L20 l0 x5_1) x7_2).f2) from Kd.V_mk ul609_2 ge609_2)
                 clear hva_ hvn_ hvc_ ge609_2 ul609_2 hcc609 hce609; have HR609_2 := aM hi609_2; have HC609_2 := aM hl609_2; clear hi609_2 hl609_2; replace p609 := eq_true p609; replace q609 := eq_true q609
                 have p610 : 0 ≤ (x5_1 : Int) := oD (by first | with_reducible assumption | assumption)
                 have q610 : x5_1 < (l0.length : Int) := oD (by first | with_reducible assumption | assumption)
                 obtain ⟨ad610, A610_0, c610_0, e610, hx610_0, hl610_0, hi610_0⟩ := at_L20 (Kd.V_reads' HO_0.out).2.2 x5_1 p610 q610
                 obtain rfl : ad604 = ad610 := (by injection e610)
                 obtain ⟨ce610, hce610, hMe610, hcc610⟩ := Kd.V_get HO_0.out [] x5_1 p610 (by first | exact q610 | exact oD (by first | with_reducible assumption | assumption) | (have e_ := (Kd.V_reads' HO_0.out).1; omega))
                 obtain ⟨ua610_0, uc610_0, rfl, ul610_0, ge610_0⟩ := Kd.FK_slice_open hMe610
                 have hv610_0 := hcc610 0 _ rfl
                 rw [Nat.add_zero, show ((Kd.slice 52 k52)).sz = 1 from rfl, Nat.mul_one] at hv610_0
                 replace hv610_0 := Option.some.inj (hv610_0.symm.trans hx610_0)
                 injection hv610_0 with hva_ hvn_ hvc_
                 rw [hva_] at ge610_0
                 rw [hvc_] at ul610_0
                 have HL610_0 := aM (show Kd.V k52 52 _ w.heap.size _ _ (rd_L20 l0 x5_1) from Kd.V_mk ul610_0 ge610_0)
                 clear hva_ hvn_ hvc_ ge610_0 ul610_0 hcc610 hce610; have HR610_0 := aM hi610_0; have HC610_0 := aM hl610_0; clear hi610_0 hl610_0; replace p610 := eq_true p610; replace q610 := eq_true q610
                 have ea_ := Option.some.inj (hx604_0.symm.trans hx610_0)
                 injection ea_ with ea_ en_ ec_
                 subst ea_; subst ec_; clear en_
                 have p611 : 0 ≤ (x7_2 : Int) := oD (by first | with_reducible assumption | assumption)
                 have q611 : x7_2 < ((rd_L20 l0 x5_1).length : Int) := oD (by first | with_reducible assumption | assumption)
                 obtain ⟨ad611, A611_2, c611_2, e611, hx611_0, hx611_1, hx611_2, hl611_2, hi611_2⟩ := at_T52 (by repeat (first | (with_reducible exact HR610_0.out) | (with_reducible first | refine Ca ?_ _ | refine Cn ?_ _ | refine Cd ?_) | exact HR610_0.out)) x7_2 p611 q611
                 (try rw [← Nbq13.out] at hx611_1)
                 cases e611
                 obtain ⟨ce611, hce611, hMe611, hcc611⟩ := Kd.V_get HL610_0.out z52 x7_2 p611 (by first | exact q611 | exact oD (by first | with_reducible assumption | assumption) | (have e_ := (Kd.V_reads' HL610_0.out).1; omega))
                 obtain ⟨ua611_2, uc611_2, rfl, ul611_2, ge611_2⟩ := k52_openF hMe611
                 have hv611_2 := hcc611 2 _ rfl
                 rw [add_field _ _ 2 (by omega)] at hv611_2
                 replace hv611_2 := Option.some.inj (hv611_2.symm.trans hx611_2)
                 injection hv611_2 with hva_ hvn_ hvc_
                 rw [hva_] at ge611_2
                 rw [hvc_] at ul611_2
                 have HL611_2 := aM (show Kd.V k110 110 _ w.heap.size _ _ ((rd_T52 (rd_L20 l0 x5_1) x7_2).f2) from Kd.V_mk ul611_2 ge611_2)
                 clear hva_ hvn_ hvc_ ge611_2 ul611_2 hcc611 hce611; have HR611_2 := aM hi611_2; have HC611_2 := aM hl611_2; clear hi611_2 hl611_2; replace p611 := eq_true p611; replace q611 := eq_true q611
                 have ea_ := Option.some.inj (hx609_2.symm.trans hx611_2)
                 injection ea_ with ea_ en_ ec_
                 subst ea_; subst ec_; clear en_
                 go_wp2_with (first | ((with_reducible refine gate_builtin (b := .append) (xs := #[.tmp 47, .tmp 55]) rfl ?_); at_builtin; refine Kd.N_append k52 (w0 := w) w.heap.size rfl (.tmp 47) (.tmp 55) 40 52 (.agg #[(.string ⟨#[]⟩), (.bool false), (.slice none 0 0)]) 48 rfl Try.underlying40 info52 rfl (by decide) (by omega) u6 x6_2 (⟨(rd_T52 (rd_L20 l0 x5_1) x7_2).f0, true, (rd_T52 (rd_L20 l0 x5_1) x7_2).f2⟩ : S52) [.string ((rd_T52 (rd_L20 l0 x5_1) x7_2).f0), .bool true, .slice A609_2 ((rd_T52 (rd_L20 l0 x5_1) x7_2).f2).length c609_2] (fun k_ => (P0_ k_ ∨ w.heap.size ≤ k_) ∧ some k_ ≠ (u3 : Value).ownBlock ∧ some k_ ≠ (u4 : Value).ownBlock) (fun k_ => ((fun k_ => (P0_ k_ ∨ w.heap.size ≤ k_) ∧ some k_ ≠ (u3 : Value).ownBlock ∧ some k_ ≠ (u4 : Value).ownBlock)) k_ ∧ some k_ ≠ (u6 : Value).ownBlock) rfl rfl ?aP (fun _ hk => hk) ?aF ?aO ?aB ?aS ?aL ?_; (case aP => exact (k52_mkF _ _ (⟨(rd_T52 (rd_L20 l0 x5_1) x7_2).f0, true, (rd_T52 (rd_L20 l0 x5_1) x7_2).f2⟩ : S52) (Kd.V_reads' (Kd.V_mono (ok' := (fun k_ => ((fun k_ => (P0_ k_ ∨ w.heap.size ≤ k_) ∧ some k_ ≠ (u3 : Value).ownBlock ∧ some k_ ≠ (u4 : Value).ownBlock)) k_ ∧ some k_ ≠ (u6 : Value).ownBlock)) (HL611_2.out) (fun k_ hk => ⟨⟨hk.1, ⟨hk.2.1, hk.2.2.1⟩⟩, hk.2.2.2⟩))).2.1 (Kd.V_F (Kd.V_mono (ok' := (fun k_ => ((fun k_ => (P0_ k_ ∨ w.heap.size ≤ k_) ∧ some k_ ≠ (u3 : Value).ownBlock ∧ some k_ ≠ (u4 : Value).ownBlock)) k_ ∧ some k_ ≠ (u6 : Value).ownBlock)) (HL611_2.out) (fun k_ hk => ⟨⟨hk.1, ⟨hk.2.1, hk.2.2.1⟩⟩, hk.2.2.2⟩))))); (case aB => exact (by repeat (with_reducible first | exact HB.out | apply bA | apply bN | apply bD))); (case aF => exact (fun k_ hk => ⟨(.inr (Nat.le_trans (below_size (by repeat (with_reducible first | exact HB.out | apply bA | apply bN | apply bD))) hk)), Kd.fresh' (Kd.N_lt (by (with_reducible repeat (first | apply Na | apply Nn | apply Nd)); exact HO_3.out)) k_ hk, Kd.fresh' (Kd.R_lt (by (with_reducible repeat (first | apply Ra | apply Rn | apply Rd)); exact HO_4.out)) k_ hk⟩)); (case aO => exact (by (with_reducible repeat (first | apply Na | apply Nn | apply Nd)); exact HO_6.out)); (case aS => exact (below_size (by repeat (with_reducible first | exact HB.out | apply bA | apply bN | apply bD)))); (case aL => have := LMc15.out; omega); intro v613 w17 ho hb hg hat; rw [← Ny612.out] at ho; have n0_ := aM (Kd.V_afterv (ok := (fun k_ => (P0_ k_ ∨ w.heap.size ≤ k_) ∧ some k_ ≠ (u3 : Value).ownBlock ∧ some k_ ≠ (u4 : Value).ownBlock)) (by (with_reducible repeat (first | apply Va | apply Vn | apply Vd)); exact Kd.V_mono HO_0.out (fun _ hk => ⟨⟨hk.1, ⟨hk.2.1, hk.2.2.1⟩⟩, hk.2.2.2⟩)) hg hat); have n1_ := aM (Kd.N_afterv (ok := (fun k_ => (P0_ k_ ∨ w.heap.size ≤ k_) ∧ some k_ ≠ (u4 : Value).ownBlock)) (by (with_reducible repeat (first | apply Na | apply Nn | apply Nd)); exact Kd.N_mono HO_3.out (fun _ hk => ⟨⟨hk.1, hk.2.1⟩, hk.2.2⟩)) hg hat); have n2_ := aM (Kd.R_over' (by (with_reducible repeat (first | apply Ra | apply Rn | apply Rd)); exact HO_4.out) (Kd.N_typed (by (with_reducible repeat (first | apply Na | apply Nn | apply Nd)); exact HO_6.out)) (by decide) hg); have n3_ := aM (Kd.V_afterv (ok := (fun k_ => (P0_ k_ ∨ w.heap.size ≤ k_) ∧ some k_ ≠ (u3 : Value).ownBlock ∧ some k_ ≠ (u4 : Value).ownBlock)) (by (with_reducible repeat (first | apply Va | apply Vn | apply Vd)); exact Kd.V_mono HL604_0.out (fun _ hk => ⟨⟨hk.1, ⟨hk.2.1, hk.2.2.1⟩⟩, hk.2.2.2⟩)) hg hat); have n4_ := aM (Kd.V_afterv (ok := (fun k_ => (P0_ k_ ∨ w.heap.size ≤ k_) ∧ some k_ ≠ (u3 : Value).ownBlock ∧ some k_ ≠ (u4 : Value).ownBlock)) (by (with_reducible repeat (first | apply Va | apply Vn | apply Vd)); exact Kd.V_mono HL608_0.out (fun _ hk => ⟨⟨hk.1, ⟨hk.2.1, hk.2.2.1⟩⟩, hk.2.2.2⟩)) hg hat); have n5_ := aM (Kd.V_afterv (ok := (fun k_ => (P0_ k_ ∨ w.heap.size ≤ k_) ∧ some k_ ≠ (u3 : Value).ownBlock ∧ some k_ ≠ (u4 : Value).ownBlock)) (by (with_reducible repeat (first | apply Va | apply Vn | apply Vd)); exact Kd.V_mono HL609_2.out (fun _ hk => ⟨⟨hk.1, ⟨hk.2.1, hk.2.2.1⟩⟩, hk.2.2.2⟩)) hg hat); have n6_ := aM (Kd.V_afterv (ok := (fun k_ => (P0_ k_ ∨ w.heap.size ≤ k_) ∧ some k_ ≠ (u3 : Value).ownBlock ∧ some k_ ≠ (u4 : Value).ownBlock)) (by (with_reducible repeat (first | apply Va | apply Vn | apply Vd)); exact Kd.V_mono HL610_0.out (fun _ hk => ⟨⟨hk.1, ⟨hk.2.1, hk.2.2.1⟩⟩, hk.2.2.2⟩)) hg hat); have n7_ := aM (Kd.V_afterv (ok := (fun k_ => (P0_ k_ ∨ w.heap.size ≤ k_) ∧ some k_ ≠ (u3 : Value).ownBlock ∧ some k_ ≠ (u4 : Value).ownBlock)) (by (with_reducible repeat (first | apply Va | apply Vn | apply Vd)); exact Kd.V_mono HL611_2.out (fun _ hk => ⟨⟨hk.1, ⟨hk.2.1, hk.2.2.1⟩⟩, hk.2.2.2⟩)) hg hat); have n8_ := aM (hb); have n9_ := aM (ho); clear HO_0 HO_3 HO_4 HL604_0 HL608_0 HL609_2 HL610_0 HL611_2 HB HO_6; have HO_0 := n0_; have HO_3 := n1_; have HO_4 := n2_; have HL604_0 := n3_; have HL608_0 := n4_; have HL609_2 := n5_; have HL610_0 := n6_; have HL611_2 := n7_; have HB := n8_; have HO614 := n9_; clear n0_ n1_ n2_ n3_ n4_ n5_ n6_ n7_ n8_ n9_ ho hb hg hat; have p615 : 0 ≤ (x5_1 : Int) := oD (by first | with_reducible assumption | assumption); have q615 : x5_1 < (l0.length : Int) := oD (by first | with_reducible assumption | assumption); obtain ⟨ad615, A615_0, c615_0, e615, hx615_0, hl615_0, hi615_0⟩ := at_L20 (Kd.V_reads' HO_0.out).2.2 x5_1 p615 q615; obtain rfl : ad604 = ad615 := (by injection e615); obtain ⟨ce615, hce615, hMe615, hcc615⟩ := Kd.V_get HO_0.out [] x5_1 p615 (by first | exact q615 | exact oD (by first | with_reducible assumption | assumption) | (have e_ := (Kd.V_reads' HO_0.out).1; omega)); obtain ⟨ua615_0, uc615_0, rfl, ul615_0, ge615_0⟩ := Kd.FK_slice_open hMe615; have hv615_0 := hcc615 0 _ rfl; rw [Nat.add_zero, show ((Kd.slice 52 k52)).sz = 1 from rfl, Nat.mul_one] at hv615_0; replace hv615_0 := Option.some.inj (hv615_0.symm.trans hx615_0); injection hv615_0 with hva_ hvn_ hvc_; rw [hva_] at ge615_0; rw [hvc_] at ul615_0; have HL615_0 := aM (show Kd.V k52 52 _ w.heap.size _ _ (rd_L20 l0 x5_1) from Kd.V_mk ul615_0 ge615_0); clear hva_ hvn_ hvc_ ge615_0 ul615_0 hcc615 hce615; have HR615_0 := aM hi615_0; have HC615_0 := aM hl615_0; clear hi615_0 hl615_0; replace p615 := eq_true p615; replace q615 := eq_true q615; have p616 : 0 ≤ (x7_2 : Int) := oD (by first | with_reducible assumption | assumption); have q616 : x7_2 < ((rd_L20 l0 x5_1).length : Int) := oD (by first | with_reducible assumption | assumption); obtain ⟨ad616, A616_2, c616_2, e616, hx616_0, hx616_1, hx616_2, hl616_2, hi616_2⟩ := at_T52 (by repeat (first | (with_reducible exact HR615_0.out) | (with_reducible first | refine Ca ?_ _ | refine Cn ?_ _ | refine Cd ?_) | exact HR615_0.out)) x7_2 p616 q616; (try rw [← Nbq13.out] at hx616_1); cases e616; obtain ⟨ce616, hce616, hMe616, hcc616⟩ := Kd.V_get HL615_0.out z52 x7_2 p616 (by first | exact q616 | exact oD (by first | with_reducible assumption | assumption) | (have e_ := (Kd.V_reads' HL615_0.out).1; omega)); obtain ⟨ua616_2, uc616_2, rfl, ul616_2, ge616_2⟩ := k52_openF hMe616; have hv616_2 := hcc616 2 _ rfl; rw [add_field _ _ 2 (by omega)] at hv616_2; replace hv616_2 := Option.some.inj (hv616_2.symm.trans hx616_2); injection hv616_2 with hva_ hvn_ hvc_; rw [hva_] at ge616_2; rw [hvc_] at ul616_2; have HL616_2 := aM (show Kd.V k110 110 _ w.heap.size _ _ ((rd_T52 (rd_L20 l0 x5_1) x7_2).f2) from Kd.V_mk ul616_2 ge616_2); clear hva_ hvn_ hvc_ ge616_2 ul616_2 hcc616 hce616; have HR616_2 := aM hi616_2; have HC616_2 := aM hl616_2; clear hi616_2 hl616_2; replace p616 := eq_true p616; replace q616 := eq_true q616) | ((with_reducible refine gate_builtin (b := .append) (xs := #[.tmp 57, .tmp 66]) rfl ?_); at_builtin; refine Kd.R_append Kd.string (w0 := w) w.heap.size rfl (.tmp 57) (.tmp 66) 24 9 (.string ⟨#[]⟩) 16 rfl Try.underlying24 info9 rfl (by decide) (by omega) u4 x4_2 ((rd_T52 (rd_L20 l0 x5_1) x7_2).f0) [.string ((rd_T52 (rd_L20 l0 x5_1) x7_2).f0)] (fun k_ => (w.heap.size ≤ k_)) (fun _ => False) rfl rfl ?aP (fun _ hk => hk.elim) ?aF ?aO ?aB ?aS ?aL ?_; (case aP => exact rfl); (case aB => exact (by repeat (with_reducible first | exact HB.out | apply bA | apply bN | apply bD))); (case aF => exact (fun k_ hk => (Nat.le_trans (below_size (by repeat (with_reducible first | exact HB.out | apply bA | apply bN | apply bD))) hk))); (case aO => exact (by (with_reducible repeat (first | apply Ra | apply Rn | apply Rd)); exact HO_4.out)); (case aS => exact (below_size (by repeat (with_reducible first | exact HB.out | apply bA | apply bN | apply bD)))); (case aL => have := LMc16.out; omega); intro v618 w18 ho hb hg hat; rw [← Ny617.out] at ho; have n0_ := aM (Kd.V_afterv (ok := (fun k_ => (P0_ k_ ∨ w.heap.size ≤ k_) ∧ some k_ ≠ (u3 : Value).ownBlock ∧ some k_ ≠ (v613 : Value).ownBlock)) (by (with_reducible repeat (first | apply Va | apply Vn | apply Vd)); exact Kd.V_mono HO_0.out (fun _ hk => ⟨⟨hk.1.1, ⟨hk.1.2.1, hk.2⟩⟩, hk.1.2.2⟩)) hg hat); have n1_ := aM (Kd.N_afterv (ok := (fun k_ => (P0_ k_ ∨ w.heap.size ≤ k_) ∧ some k_ ≠ (v613 : Value).ownBlock)) (by (with_reducible repeat (first | apply Na | apply Nn | apply Nd)); exact Kd.N_mono HO_3.out (fun _ hk => ⟨⟨hk.1.1, hk.2⟩, hk.1.2⟩)) hg hat); have n2_ := aM (Kd.V_afterv (ok := (fun k_ => (P0_ k_ ∨ w.heap.size ≤ k_) ∧ some k_ ≠ (u3 : Value).ownBlock ∧ some k_ ≠ (v613 : Value).ownBlock)) (by (with_reducible repeat (first | apply Va | apply Vn | apply Vd)); exact Kd.V_mono HL604_0.out (fun _ hk => ⟨⟨hk.1.1, ⟨hk.1.2.1, hk.2⟩⟩, hk.1.2.2⟩)) hg hat); have n3_ := aM (Kd.V_afterv (ok := (fun k_ => (P0_ k_ ∨ w.heap.size ≤ k_) ∧ some k_ ≠ (u3 : Value).ownBlock ∧ some k_ ≠ (v613 : Value).ownBlock)) (by (with_reducible repeat (first | apply Va | apply Vn | apply Vd)); exact Kd.V_mono HL608_0.out (fun _ hk => ⟨⟨hk.1.1, ⟨hk.1.2.1, hk.2⟩⟩, hk.1.2.2⟩)) hg hat); have n4_ := aM (Kd.V_afterv (ok := (fun k_ => (P0_ k_ ∨ w.heap.size ≤ k_) ∧ some k_ ≠ (u3 : Value).ownBlock ∧ some k_ ≠ (v613 : Value).ownBlock)) (by (with_reducible repeat (first | apply Va | apply Vn | apply Vd)); exact Kd.V_mono HL609_2.out (fun _ hk => ⟨⟨hk.1.1, ⟨hk.1.2.1, hk.2⟩⟩, hk.1.2.2⟩)) hg hat); have n5_ := aM (Kd.V_afterv (ok := (fun k_ => (P0_ k_ ∨ w.heap.size ≤ k_) ∧ some k_ ≠ (u3 : Value).ownBlock ∧ some k_ ≠ (v613 : Value).ownBlock)) (by (with_reducible repeat (first | apply Va | apply Vn | apply Vd)); exact Kd.V_mono HL610_0.out (fun _ hk => ⟨⟨hk.1.1, ⟨hk.1.2.1, hk.2⟩⟩, hk.1.2.2⟩)) hg hat); have n6_ := aM (Kd.V_afterv (ok := (fun k_ => (P0_ k_ ∨ w.heap.size ≤ k_) ∧ some k_ ≠ (u3 : Value).ownBlock ∧ some k_ ≠ (v613 : Value).ownBlock)) (by (with_reducible repeat (first | apply Va | apply Vn | apply Vd)); exact Kd.V_mono HL611_2.out (fun _ hk => ⟨⟨hk.1.1, ⟨hk.1.2.1, hk.2⟩⟩, hk.1.2.2⟩)) hg hat); have n7_ := aM (Kd.N_afterv (ok := (fun k_ => (P0_ k_ ∨ w.heap.size ≤ k_) ∧ some k_ ≠ (u3 : Value).ownBlock)) (by (with_reducible repeat (first | apply Na | apply Nn | apply Nd)); exact Kd.N_mono HO614.out (fun _ hk => ⟨⟨hk.1, hk.2.1⟩, hk.2.2⟩)) hg hat); have n8_ := aM (Kd.V_afterv (ok := (fun k_ => (P0_ k_ ∨ w.heap.size ≤ k_) ∧ some k_ ≠ (u3 : Value).ownBlock ∧ some k_ ≠ (v613 : Value).ownBlock)) (by (with_reducible repeat (first | apply Va | apply Vn | apply Vd)); exact Kd.V_mono HL615_0.out (fun _ hk => ⟨⟨hk.1.1, ⟨hk.1.2.1, hk.2⟩⟩, hk.1.2.2⟩)) hg hat); have n9_ := aM (Kd.V_afterv (ok := (fun k_ => (P0_ k_ ∨ w.heap.size ≤ k_) ∧ some k_ ≠ (u3 : Value).ownBlock ∧ some k_ ≠ (v613 : Value).ownBlock)) (by (with_reducible repeat (first | apply Va | apply Vn | apply Vd)); exact Kd.V_mono HL616_2.out (fun _ hk => ⟨⟨hk.1.1, ⟨hk.1.2.1, hk.2⟩⟩, hk.1.2.2⟩)) hg hat); have n10_ := aM (hb); have n11_ := aM (ho); clear HO_0 HO_3 HL604_0 HL608_0 HL609_2 HL610_0 HL611_2 HO614 HL615_0 HL616_2 HB HO_4; have HO_0 := n0_; have HO_3 := n1_; have HL604_0 := n2_; have HL608_0 := n3_; have HL609_2 := n4_; have HL610_0 := n5_; have HL611_2 := n6_; have HO614 := n7_; have HL615_0 := n8_; have HL616_2 := n9_; have HB := n10_; have HO619 := n11_; clear n0_ n1_ n2_ n3_ n4_ n5_ n6_ n7_ n8_ n9_ n10_ n11_ ho hb hg hat))
                 go_roundg k2
                 case measure => have := HK1.out; have := HK2.out; omega
                 case rel => exact ⟨(y617), (y612), (wrap64 (x7_2 + 1)), (by first | rfl | (simp; done) | (simp [*]; done)), H', ⟨by have := HK1.out; have := HK2.out; omega⟩, ⟨by (with_reducible repeat (first | apply Va | apply Vn | apply Vd)); exact Kd.V_mono HO_0.out (fun _ hk => ⟨hk.1.1, ⟨hk.1.2.1, ⟨hk.2, hk.1.2.2⟩⟩⟩)⟩, ⟨by (with_reducible repeat (first | apply Na | apply Nn | apply Nd)); exact Kd.N_mono HO_3.out (fun _ hk => ⟨hk.1.1, ⟨hk.2, hk.1.2⟩⟩)⟩, ⟨by (with_reducible repeat (first | apply Ra | apply Rn | apply Rd)); exact HO619.out⟩, ⟨by (with_reducible repeat (first | apply Na | apply Nn | apply Nd)); exact Kd.N_mono HO614.out (fun _ hk => ⟨hk.1.1, ⟨hk.1.2, hk.2⟩⟩)⟩, ⟨by repeat (with_reducible first | exact HB.out | apply bA | apply bN | apply bD)⟩⟩
               rw [if_neg c16] at H
               exact absurd H (by simp)
             rw [if_neg c15] at H
             exact absurd H (by simp)
           replace c14 := Bool.eq_false_iff.mpr c14
           subst c14
           have H1 : ((spec_l2Has.f k2 x4_2 ((rd_T52 (rd_L20 l0 x5_1) x7_2).f0)).bind fun t622 => (if t622 = true then (spec_l3Thin.l1 k2 l0 x3_1 x4_2 x5_1 x6_2 (wrap64 (x7_2 + 1))) else (if x6_2.length < 2932031007402 then (if x4_2.length < 8796093022208 then (spec_l3Thin.l1 k2 l0 x3_1 (x4_2 ++ [(rd_T52 (rd_L20 l0 x5_1) x7_2).f0]) x5_1 (x6_2 ++ [(⟨(rd_T52 (rd_L20 l0 x5_1) x7_2).f0, false, (rd_T52 (rd_L20 l0 x5_1) x7_2).f2⟩ : S52)]) (wrap64 (x7_2 + 1))) else (none)) else (none)))) = some r := by rw [if_neg (show ¬ (false = true) by decide)] at H; exact H
           clear H
           have H := H1
           clear H1
           replace H := Option.bind_eq_some_iff.mp H
           obtain ⟨t622, A190, H⟩ := H
           replace H : (if t622 = true then (spec_l3Thin.l1 k2 l0 x3_1 x4_2 x5_1 x6_2 (wrap64 (x7_2 + 1))) else (if x6_2.length < 2932031007402 then (if x4_2.length < 8796093022208 then (spec_l3Thin.l1 k2 l0 x3_1 (x4_2 ++ [(rd_T52 (rd_L20 l0 x5_1) x7_2).f0]) x5_1 (x6_2 ++ [(⟨(rd_T52 (rd_L20 l0 x5_1) x7_2).f0, false, (rd_T52 (rd_L20 l0 x5_1) x7_2).f2⟩ : S52)]) (wrap64 (x7_2 + 1))) else (none)) else (none))) = some r := H
           have A19 := aM A190; clear A190
           by_cases c20 : t622 = true
           · subst c20
             have H1 : (spec_l3Thin.l1 k2 l0 x3_1 x4_2 x5_1 x6_2 (wrap64 (x7_2 + 1))) = some r := by rw [if_pos rfl] at H; exact H
             clear H
             have H := H1
             clear H1
             have H' := aM H
             clear H
             have p604 : 0 ≤ (x5_1 : Int) := oD (by first | with_reducible assumption | assumption)
             have q604 : x5_1 < (l0.length : Int) := oD (by first | with_reducible assumption | assumption)
             obtain ⟨ad604, A604_0, c604_0, e604, hx604_0, hl604_0, hi604_0⟩ := at_L20 (Kd.V_reads' HO_0.out).2.2 x5_1 p604 q604
             cases e604
             obtain ⟨ce604, hce604, hMe604, hcc604⟩ := Kd.V_get HO_0.out [] x5_1 p604 (by first | exact q604 | exact oD (by first | with_reducible assumption | assumption) | (have e_ := (Kd.V_reads' HO_0.out).1; omega))
             obtain ⟨ua604_0, uc604_0, rfl, ul604_0, ge604_0⟩ := Kd.FK_slice_open hMe604
             have hv604_0 := hcc604 0 _ rfl
             rw [Nat.add_zero, show ((Kd.slice 52 k52)).sz = 1 from rfl, Nat.mul_one] at hv604_0
             replace hv604_0 := Option.some.inj (hv604_0.symm.trans hx604_0)
             injection hv604_0 with hva_ hvn_ hvc_
             rw [hva_] at ge604_0
             rw [hvc_] at ul604_0
             have HL604_0 := aM (show Kd.V k52 52 _ w.heap.size _ _ (rd_L20 l0 x5_1) from Kd.V_mk ul604_0 ge604_0)
             clear hva_ hvn_ hvc_ ge604_0 ul604_0 hcc604 hce604; have HR604_0 := aM hi604_0; have HC604_0 := aM hl604_0; clear hi604_0 hl604_0; replace p604 := eq_true p604; replace q604 := eq_true q604
             have p608 : 0 ≤ (x5_1 : Int) := oD (by first | with_reducible assumption | assumption)
             have q608 : x5_1 < (l0.length : Int) := oD (by first | with_reducible assumption | assumption)
             obtain ⟨ad608, A608_0, c608_0, e608, hx608_0, hl608_0, hi608_0⟩ := at_L20 (Kd.V_reads' HO_0.out).2.2 x5_1 p608 q608
             obtain rfl : ad604 = ad608 := (by injection e608)
             obtain ⟨ce608, hce608, hMe608, hcc608⟩ := Kd.V_get HO_0.out [] x5_1 p608 (by first | exact q608 | exact oD (by first | with_reducible assumption | assumption) | (have e_ := (Kd.V_reads' HO_0.out).1; omega))
             obtain ⟨ua608_0, uc608_0, rfl, ul608_0, ge608_0⟩ := Kd.FK_slice_open hMe608
             have hv608_0 := hcc608 0 _ rfl
             rw [Nat.add_zero, show ((Kd.slice 52 k52)).sz = 1 from rfl, Nat.mul_one] at hv608_0
             replace hv608_0 := Option.some.inj (hv608_0.symm.trans hx608_0)
             injection hv608_0 with hva_ hvn_ hvc_
             rw [hva_] at ge608_0
             rw [hvc_] at ul608_0
             have HL608_0 := aM (show Kd.V k52 52 _ w.heap.size _ _ (rd_L20 l0 x5_1) from Kd.V_mk ul608_0 ge608_0)
             clear hva_ hvn_ hvc_ ge608_0 ul608_0 hcc608 hce608; have HR608_0 := aM hi608_0; have HC608_0 := aM hl608_0; clear hi608_0 hl608_0; replace p608 := eq_true p608; replace q608 := eq_true q608
             have ea_ := Option.some.inj (hx604_0.symm.trans hx608_0)
             injection ea_ with ea_ en_ ec_
             subst ea_; subst ec_; clear en_
             have p609 : 0 ≤ (x7_2 : Int) := oD (by first | with_reducible assumption | assumption)
             have q609 : x7_2 < ((rd_L20 l0 x5_1).length : Int) := oD (by first | with_reducible assumption | assumption)
             obtain ⟨ad609, A609_2, c609_2, e609, hx609_0, hx609_1, hx609_2, hl609_2, hi609_2⟩ := at_T52 (by repeat (first | (with_reducible exact HR608_0.out) | (with_reducible first | refine Ca ?_ _ | refine Cn ?_ _ | refine Cd ?_) | exact HR608_0.out)) x7_2 p609 q609
             (try rw [← Nbq13.out] at hx609_1)
             cases e609
             obtain ⟨ce609, hce609, hMe609, hcc609⟩ := Kd.V_get HL608_0.out z52 x7_2 p609 (by first | exact q609 | exact oD (by first | with_reducible assumption | assumption) | (have e_ := (Kd.V_reads' HL608_0.out).1; omega))
             obtain ⟨ua609_2, uc609_2, rfl, ul609_2, ge609_2⟩ := k52_openF hMe609
             have hv609_2 := hcc609 2 _ rfl
             rw [add_field _ _ 2 (by omega)] at hv609_2
             replace hv609_2 := Option.some.inj (hv609_2.symm.trans hx609_2)
             injection hv609_2 with hva_ hvn_ hvc_
             rw [hva_] at ge609_2
             rw [hvc_] at ul609_2
             have HL609_2 := aM (show Kd.V k110 110 _ w.heap.size _ _ ((rd_T52 (rd_L20 l0 x5_1) x7_2).f2) from Kd.V_mk ul609_2 ge609_2)
             clear hva_ hvn_ hvc_ ge609_2 ul609_2 hcc609 hce609; have HR609_2 := aM hi609_2; have HC609_2 := aM hl609_2; clear hi609_2 hl609_2; replace p609 := eq_true p609; replace q609 := eq_true q609
             have p620 : 0 ≤ (x5_1 : Int) := oD (by first | with_reducible assumption | assumption)
             have q620 : x5_1 < (l0.length : Int) := oD (by first | with_reducible assumption | assumption)
             obtain ⟨ad620, A620_0, c620_0, e620, hx620_0, hl620_0, hi620_0⟩ := at_L20 (Kd.V_reads' HO_0.out).2.2 x5_1 p620 q620
             obtain rfl : ad604 = ad620 := (by injection e620)
             obtain ⟨ce620, hce620, hMe620, hcc620⟩ := Kd.V_get HO_0.out [] x5_1 p620 (by first | exact q620 | exact oD (by first | with_reducible assumption | assumption) | (have e_ := (Kd.V_reads' HO_0.out).1; omega))
             obtain ⟨ua620_0, uc620_0, rfl, ul620_0, ge620_0⟩ := Kd.FK_slice_open hMe620
             have hv620_0 := hcc620 0 _ rfl
             rw [Nat.add_zero, show ((Kd.slice 52 k52)).sz = 1 from rfl, Nat.mul_one] at hv620_0
             replace hv620_0 := Option.some.inj (hv620_0.symm.trans hx620_0)
             injection hv620_0 with hva_ hvn_ hvc_
             rw [hva_] at ge620_0
             rw [hvc_] at ul620_0
             have HL620_0 := aM (show Kd.V k52 52 _ w.heap.size _ _ (rd_L20 l0 x5_1) from Kd.V_mk ul620_0 ge620_0)
             clear hva_ hvn_ hvc_ ge620_0 ul620_0 hcc620 hce620; have HR620_0 := aM hi620_0; have HC620_0 := aM hl620_0; clear hi620_0 hl620_0; replace p620 := eq_true p620; replace q620 := eq_true q620
             have ea_ := Option.some.inj (hx604_0.symm.trans hx620_0)
             injection ea_ with ea_ en_ ec_
             subst ea_; subst ec_; clear en_
             have p621 : 0 ≤ (x7_2 : Int) := oD (by first | with_reducible assumption | assumption)
             have q621 : x7_2 < ((rd_L20 l0 x5_1).length : Int) := oD (by first | with_reducible assumption | assumption)
             obtain ⟨ad621, A621_2, c621_2, e621, hx621_0, hx621_1, hx621_2, hl621_2, hi621_2⟩ := at_T52 (by repeat (first | (with_reducible exact HR620_0.out) | (with_reducible first | refine Ca ?_ _ | refine Cn ?_ _ | refine Cd ?_) | exact HR620_0.out)) x7_2 p621 q621
             (try rw [← Nbq13.out] at hx621_1)
             cases e621
             obtain ⟨ce621, hce621, hMe621, hcc621⟩ := Kd.V_get HL620_0.out z52 x7_2 p621 (by first | exact q621 | exact oD (by first | with_reducible assumption | assumption) | (have e_ := (Kd.V_reads' HL620_0.out).1; omega))
             obtain ⟨ua621_2, uc621_2, rfl, ul621_2, ge621_2⟩ := k52_openF hMe621
             have hv621_2 := hcc621 2 _ rfl
             rw [add_field _ _ 2 (by omega)] at hv621_2
             replace hv621_2 := Option.some.inj (hv621_2.symm.trans hx621_2)
             injection hv621_2 with hva_ hvn_ hvc_
             rw [hva_] at ge621_2
             rw [hvc_] at ul621_2
             have HL621_2 := aM (show Kd.V k110 110 _ w.heap.size _ _ ((rd_T52 (rd_L20 l0 x5_1) x7_2).f2) from Kd.V_mk ul621_2 ge621_2)
             clear hva_ hvn_ hvc_ ge621_2 ul621_2 hcc621 hce621; have HR621_2 := aM hi621_2; have HC621_2 := aM hl621_2; clear hi621_2 hl621_2; replace p621 := eq_true p621; replace q621 := eq_true q621
             have ea_ := Option.some.inj (hx609_2.symm.trans hx621_2)
             injection ea_ with ea_ en_ ec_
             subst ea_; subst ec_; clear en_
             obtain ⟨Ao21, co21, eo21⟩ := Kd.R_slice HO_4.out
             subst eo21
             go_wp2_with (first | (go_at_call 87; (with_reducible refine (spec_l2Has.calls k2 _ _ x4_2 ((rd_T52 (rd_L20 l0 x5_1) x7_2).f0) true _ ?side1 ?side2 A19.out).mono ?_); (case side1 => repeat (first | exact (Kd.R_reads' HO_4.out).2.2 | (with_reducible first | refine Ca ?_ _ | refine Cn ?_ _ | refine Cd ?_))); (case side2 => exact (Kd.R_reads' HO_4.out).2.1); rintro e w' ⟨rfl, ⟨nd, rfl⟩⟩))
             go_roundg k2
             case measure => have := HK1.out; have := HK2.out; omega
             case rel => exact ⟨(x4_2), (x6_2), (wrap64 (x7_2 + 1)), (by first | rfl | (simp; done) | (simp [*]; done)), H', ⟨by have := HK1.out; have := HK2.out; omega⟩, ⟨by (with_reducible repeat (first | apply Va | apply Vn | apply Vd)); exact HO_0.out⟩, ⟨by (with_reducible repeat (first | apply Na | apply Nn | apply Nd)); exact HO_3.out⟩, ⟨by (with_reducible repeat (first | apply Ra | apply Rn | apply Rd)); exact HO_4.out⟩, ⟨by (with_reducible repeat (first | apply Na | apply Nn | apply Nd)); exact HO_6.out⟩, ⟨by repeat (with_reducible first | exact HB.out | apply bA | apply bN | apply bD)⟩⟩
           replace c20 := Bool.eq_false_iff.mpr c20
           subst c20
           have H1 : (if x6_2.length < 2932031007402 then (if x4_2.length < 8796093022208 then (spec_l3Thin.l1 k2 l0 x3_1 (x4_2 ++ [(rd_T52 (rd_L20 l0 x5_1) x7_2).f0]) x5_1 (x6_2 ++ [(⟨(rd_T52 (rd_L20 l0 x5_1) x7_2).f0, false, (rd_T52 (rd_L20 l0 x5_1) x7_2).f2⟩ : S52)]) (wrap64 (x7_2 + 1))) else (none)) else (none)) = some r := by rw [if_neg (show ¬ (false = true) by decide)] at H; exact H
           clear H
           have H := H1
           clear H1
           by_cases c22 : x6_2.length < 2932031007402
           · rw [if_pos c22] at H; have LMc22 := aM c22; clear c22
             obtain ⟨y625, hy625⟩ : ∃ y_ : List (S52), y_ = (x6_2 ++ [(⟨(rd_T52 (rd_L20 l0 x5_1) x7_2).f0, false, (rd_T52 (rd_L20 l0 x5_1) x7_2).f2⟩ : S52)]) := ⟨_, rfl⟩
             replace H : (if x4_2.length < 8796093022208 then (spec_l3Thin.l1 k2 l0 x3_1 (x4_2 ++ [(rd_T52 (rd_L20 l0 x5_1) x7_2).f0]) x5_1 y625 (wrap64 (x7_2 + 1))) else (none)) = some r := by first | (rw [hy625]; with_reducible exact H) | (have H2_ := (Option.bind_some _ _).symm.trans H; rw [hy625]; with_reducible exact H2_) | (have H2_ := (Option.bind_some _ _).symm.trans H; with_reducible exact H2_) | with_reducible exact H | (rw [hy625]; exact H) | exact H
             have Ny625 := aM hy625; clear hy625
             by_cases c23 : x4_2.length < 8796093022208
             · rw [if_pos c23] at H; have LMc23 := aM c23; clear c23
               obtain ⟨y630, hy630⟩ : ∃ y_ : List ByteArray, y_ = (x4_2 ++ [(rd_T52 (rd_L20 l0 x5_1) x7_2).f0]) := ⟨_, rfl⟩
               replace H : (spec_l3Thin.l1 k2 l0 x3_1 y630 x5_1 y625 (wrap64 (x7_2 + 1))) = some r := by first | (rw [hy630]; with_reducible exact H) | (have H2_ := (Option.bind_some _ _).symm.trans H; rw [hy630]; with_reducible exact H2_) | (have H2_ := (Option.bind_some _ _).symm.trans H; with_reducible exact H2_) | with_reducible exact H | (rw [hy630]; exact H) | exact H
               have Ny630 := aM hy630; clear hy630
               have H' := aM H
               clear H
               have p604 : 0 ≤ (x5_1 : Int) := oD (by first | with_reducible assumption | assumption)
               have q604 : x5_1 < (l0.length : Int) := oD (by first | with_reducible assumption | assumption)
               obtain ⟨ad604, A604_0, c604_0, e604, hx604_0, hl604_0, hi604_0⟩ := at_L20 (Kd.V_reads' HO_0.out).2.2 x5_1 p604 q604
               cases e604
               obtain ⟨ce604, hce604, hMe604, hcc604⟩ := Kd.V_get HO_0.out [] x5_1 p604 (by first | exact q604 | exact oD (by first | with_reducible assumption | assumption) | (have e_ := (Kd.V_reads' HO_0.out).1; omega))
               obtain ⟨ua604_0, uc604_0, rfl, ul604_0, ge604_0⟩ := Kd.FK_slice_open hMe604
               have hv604_0 := hcc604 0 _ rfl
               rw [Nat.add_zero, show ((Kd.slice 52 k52)).sz = 1 from rfl, Nat.mul_one] at hv604_0
               replace hv604_0 := Option.some.inj (hv604_0.symm.trans hx604_0)
               injection hv604_0 with hva_ hvn_ hvc_
               rw [hva_] at ge604_0
               rw [hvc_] at ul604_0
               have HL604_0 := aM (show Kd.V k52 52 _ w.heap.size _ _ (rd_L20 l0 x5_1) from Kd.V_mk ul604_0 ge604_0)
               clear hva_ hvn_ hvc_ ge604_0 ul604_0 hcc604 hce604; have HR604_0 := aM hi604_0; have HC604_0 := aM hl604_0; clear hi604_0 hl604_0; replace p604 := eq_true p604; replace q604 := eq_true q604
               have p608 : 0 ≤ (x5_1 : Int) := oD (by first | with_reducible assumption | assumption)
               have q608 : x5_1 < (l0.length : Int) := oD (by first | with_reducible assumption | assumption)
               obtain ⟨ad608, A608_0, c608_0, e608, hx608_0, hl608_0, hi608_0⟩ := at_L20 (Kd.V_reads' HO_0.out).2.2 x5_1 p608 q608
               obtain rfl : ad604 = ad608 := (by injection e608)
               obtain ⟨ce608, hce608, hMe608, hcc608⟩ := Kd.V_get HO_0.out [] x5_1 p608 (by first | exact q608 | exact oD (by first | with_reducible assumption | assumption) | (have e_ := (Kd.V_reads' HO_0.out).1; omega))
               obtain ⟨ua608_0, uc608_0, rfl, ul608_0, ge608_0⟩ := Kd.FK_slice_open hMe608
               have hv608_0 := hcc608 0 _ rfl
               rw [Nat.add_zero, show ((Kd.slice 52 k52)).sz = 1 from rfl, Nat.mul_one] at hv608_0
               replace hv608_0 := Option.some.inj (hv608_0.symm.trans hx608_0)
               injection hv608_0 with hva_ hvn_ hvc_
               rw [hva_] at ge608_0
               rw [hvc_] at ul608_0
               have HL608_0 := aM (show Kd.V k52 52 _ w.heap.size _ _ (rd_L20 l0 x5_1) from Kd.V_mk ul608_0 ge608_0)
               clear hva_ hvn_ hvc_ ge608_0 ul608_0 hcc608 hce608; have HR608_0 := aM hi608_0; have HC608_0 := aM hl608_0; clear hi608_0 hl608_0; replace p608 := eq_true p608; replace q608 := eq_true q608
               have ea_ := Option.some.inj (hx604_0.symm.trans hx608_0)
               injection ea_ with ea_ en_ ec_
               subst ea_; subst ec_; clear en_
               have p609 : 0 ≤ (x7_2 : Int) := oD (by first | with_reducible assumption | assumption)
               have q609 : x7_2 < ((rd_L20 l0 x5_1).length : Int) := oD (by first | with_reducible assumption | assumption)
               obtain ⟨ad609, A609_2, c609_2, e609, hx609_0, hx609_1, hx609_2, hl609_2, hi609_2⟩ := at_T52 (by repeat (first | (with_reducible exact HR608_0.out) | (with_reducible first | refine Ca ?_ _ | refine Cn ?_ _ | refine Cd ?_) | exact HR608_0.out)) x7_2 p609 q609
               (try rw [← Nbq13.out] at hx609_1)
               cases e609
               obtain ⟨ce609, hce609, hMe609, hcc609⟩ := Kd.V_get HL608_0.out z52 x7_2 p609 (by first | exact q609 | exact oD (by first | with_reducible assumption | assumption) | (have e_ := (Kd.V_reads' HL608_0.out).1; omega))
               obtain ⟨ua609_2, uc609_2, rfl, ul609_2, ge609_2⟩ := k52_openF hMe609
               have hv609_2 := hcc609 2 _ rfl
               rw [add_field _ _ 2 (by omega)] at hv609_2
               replace hv609_2 := Option.some.inj (hv609_2.symm.trans hx609_2)
               injection hv609_2 with hva_ hvn_ hvc_
               rw [hva_] at ge609_2
               rw [hvc_] at ul609_2
               have HL609_2 := aM (show Kd.V k110 110 _ w.heap.size _ _ ((rd_T52 (rd_L20 l0 x5_1) x7_2).f2) from Kd.V_mk ul609_2 ge609_2)
               clear hva_ hvn_ hvc_ ge609_2 ul609_2 hcc609 hce609; have HR609_2 := aM hi609_2; have HC609_2 := aM hl609_2; clear hi609_2 hl609_2; replace p609 := eq_true p609; replace q609 := eq_true q609
               have p620 : 0 ≤ (x5_1 : Int) := oD (by first | with_reducible assumption | assumption)
               have q620 : x5_1 < (l0.length : Int) := oD (by first | with_reducible assumption | assumption)
               obtain ⟨ad620, A620_0, c620_0, e620, hx620_0, hl620_0, hi620_0⟩ := at_L20 (Kd.V_reads' HO_0.out).2.2 x5_1 p620 q620
               obtain rfl : ad604 = ad620 := (by injection e620)
               obtain ⟨ce620, hce620, hMe620, hcc620⟩ := Kd.V_get HO_0.out [] x5_1 p620 (by first | exact q620 | exact oD (by first | with_reducible assumption | assumption) | (have e_ := (Kd.V_reads' HO_0.out).1; omega))
               obtain ⟨ua620_0, uc620_0, rfl, ul620_0, ge620_0⟩ := Kd.FK_slice_open hMe620
               have hv620_0 := hcc620 0 _ rfl
               rw [Nat.add_zero, show ((Kd.slice 52 k52)).sz = 1 from rfl, Nat.mul_one] at hv620_0
               replace hv620_0 := Option.some.inj (hv620_0.symm.trans hx620_0)
               injection hv620_0 with hva_ hvn_ hvc_
               rw [hva_] at ge620_0
               rw [hvc_] at ul620_0
               have HL620_0 := aM (show Kd.V k52 52 _ w.heap.size _ _ (rd_L20 l0 x5_1) from Kd.V_mk ul620_0 ge620_0)
               clear hva_ hvn_ hvc_ ge620_0 ul620_0 hcc620 hce620; have HR620_0 := aM hi620_0; have HC620_0 := aM hl620_0; clear hi620_0 hl620_0; replace p620 := eq_true p620; replace q620 := eq_true q620
               have ea_ := Option.some.inj (hx604_0.symm.trans hx620_0)
               injection ea_ with ea_ en_ ec_
               subst ea_; subst ec_; clear en_
               have p621 : 0 ≤ (x7_2 : Int) := oD (by first | with_reducible assumption | assumption)
               have q621 : x7_2 < ((rd_L20 l0 x5_1).length : Int) := oD (by first | with_reducible assumption | assumption)
               obtain ⟨ad621, A621_2, c621_2, e621, hx621_0, hx621_1, hx621_2, hl621_2, hi621_2⟩ := at_T52 (by repeat (first | (with_reducible exact HR620_0.out) | (with_reducible first | refine Ca ?_ _ | refine Cn ?_ _ | refine Cd ?_) | exact HR620_0.out)) x7_2 p621 q621
               (try rw [← Nbq13.out] at hx621_1)
               cases e621
               obtain ⟨ce621, hce621, hMe621, hcc621⟩ := Kd.V_get HL620_0.out z52 x7_2 p621 (by first | exact q621 | exact oD (by first | with_reducible assumption | assumption) | (have e_ := (Kd.V_reads' HL620_0.out).1; omega))
               obtain ⟨ua621_2, uc621_2, rfl, ul621_2, ge621_2⟩ := k52_openF hMe621
               have hv621_2 := hcc621 2 _ rfl
               rw [add_field _ _ 2 (by omega)] at hv621_2
               replace hv621_2 := Option.some.inj (hv621_2.symm.trans hx621_2)
               injection hv621_2 with hva_ hvn_ hvc_
               rw [hva_] at ge621_2
               rw [hvc_] at ul621_2
               have HL621_2 := aM (show Kd.V k110 110 _ w.heap.size _ _ ((rd_T52 (rd_L20 l0 x5_1) x7_2).f2) from Kd.V_mk ul621_2 ge621_2)
               clear hva_ hvn_ hvc_ ge621_2 ul621_2 hcc621 hce621; have HR621_2 := aM hi621_2; have HC621_2 := aM hl621_2; clear hi621_2 hl621_2; replace p621 := eq_true p621; replace q621 := eq_true q621
               have ea_ := Option.some.inj (hx609_2.symm.trans hx621_2)
               injection ea_ with ea_ en_ ec_
               subst ea_; subst ec_; clear en_
               obtain ⟨Ao24, co24, eo24⟩ := Kd.R_slice HO_4.out
               subst eo24
               go_wp2_with (first | (go_at_call 87; (with_reducible refine (spec_l2Has.calls k2 _ _ x4_2 ((rd_T52 (rd_L20 l0 x5_1) x7_2).f0) false _ ?side1 ?side2 A19.out).mono ?_); (case side1 => repeat (first | exact (Kd.R_reads' HO_4.out).2.2 | (with_reducible first | refine Ca ?_ _ | refine Cn ?_ _ | refine Cd ?_))); (case side2 => exact (Kd.R_reads' HO_4.out).2.1); rintro e w' ⟨rfl, ⟨nd, rfl⟩⟩; have p623 : 0 ≤ (x5_1 : Int) := oD (by first | with_reducible assumption | assumption); have q623 : x5_1 < (l0.length : Int) := oD (by first | with_reducible assumption | assumption); obtain ⟨ad623, A623_0, c623_0, e623, hx623_0, hl623_0, hi623_0⟩ := at_L20 (Kd.V_reads' HO_0.out).2.2 x5_1 p623 q623; obtain rfl : ad604 = ad623 := (by injection e623); obtain ⟨ce623, hce623, hMe623, hcc623⟩ := Kd.V_get HO_0.out [] x5_1 p623 (by first | exact q623 | exact oD (by first | with_reducible assumption | assumption) | (have e_ := (Kd.V_reads' HO_0.out).1; omega)); obtain ⟨ua623_0, uc623_0, rfl, ul623_0, ge623_0⟩ := Kd.FK_slice_open hMe623; have hv623_0 := hcc623 0 _ rfl; rw [Nat.add_zero, show ((Kd.slice 52 k52)).sz = 1 from rfl, Nat.mul_one] at hv623_0; replace hv623_0 := Option.some.inj (hv623_0.symm.trans hx623_0); injection hv623_0 with hva_ hvn_ hvc_; rw [hva_] at ge623_0; rw [hvc_] at ul623_0; have HL623_0 := aM (show Kd.V k52 52 _ w.heap.size _ _ (rd_L20 l0 x5_1) from Kd.V_mk ul623_0 ge623_0); clear hva_ hvn_ hvc_ ge623_0 ul623_0 hcc623 hce623; have HR623_0 := aM hi623_0; have HC623_0 := aM hl623_0; clear hi623_0 hl623_0; replace p623 := eq_true p623; replace q623 := eq_true q623; have ea_ := Option.some.inj (hx604_0.symm.trans hx623_0); injection ea_ with ea_ en_ ec_; subst ea_; subst ec_; clear en_; have p624 : 0 ≤ (x7_2 : Int) := oD (by first | with_reducible assumption | assumption); have q624 : x7_2 < ((rd_L20 l0 x5_1).length : Int) := oD (by first | with_reducible assumption | assumption); obtain ⟨ad624, A624_2, c624_2, e624, hx624_0, hx624_1, hx624_2, hl624_2, hi624_2⟩ := at_T52 (by repeat (first | (with_reducible exact HR623_0.out) | (with_reducible first | refine Ca ?_ _ | refine Cn ?_ _ | refine Cd ?_) | exact HR623_0.out)) x7_2 p624 q624; (try rw [← Nbq13.out] at hx624_1); cases e624; obtain ⟨ce624, hce624, hMe624, hcc624⟩ := Kd.V_get HL623_0.out z52 x7_2 p624 (by first | exact q624 | exact oD (by first | with_reducible assumption | assumption) | (have e_ := (Kd.V_reads' HL623_0.out).1; omega)); obtain ⟨ua624_2, uc624_2, rfl, ul624_2, ge624_2⟩ := k52_openF hMe624; have hv624_2 := hcc624 2 _ rfl; rw [add_field _ _ 2 (by omega)] at hv624_2; replace hv624_2 := Option.some.inj (hv624_2.symm.trans hx624_2); injection hv624_2 with hva_ hvn_ hvc_; rw [hva_] at ge624_2; rw [hvc_] at ul624_2; have HL624_2 := aM (show Kd.V k110 110 _ w.heap.size _ _ ((rd_T52 (rd_L20 l0 x5_1) x7_2).f2) from Kd.V_mk ul624_2 ge624_2); clear hva_ hvn_ hvc_ ge624_2 ul624_2 hcc624 hce624; have HR624_2 := aM hi624_2; have HC624_2 := aM hl624_2; clear hi624_2 hl624_2; replace p624 := eq_true p624; replace q624 := eq_true q624; have ea_ := Option.some.inj (hx609_2.symm.trans hx624_2); injection ea_ with ea_ en_ ec_; subst ea_; subst ec_; clear en_) | ((with_reducible refine gate_builtin (b := .append) (xs := #[.tmp 47, .tmp 55]) rfl ?_); at_builtin; refine Kd.N_append k52 (w0 := w) (W := wr.drewN nd) w.heap.size rfl (.tmp 47) (.tmp 55) 40 52 (.agg #[(.string ⟨#[]⟩), (.bool false), (.slice none 0 0)]) 48 rfl Try.underlying40 info52 rfl (by decide) (by omega) u6 x6_2 (⟨(rd_T52 (rd_L20 l0 x5_1) x7_2).f0, false, (rd_T52 (rd_L20 l0 x5_1) x7_2).f2⟩ : S52) [.string ((rd_T52 (rd_L20 l0 x5_1) x7_2).f0), .bool false, .slice A609_2 ((rd_T52 (rd_L20 l0 x5_1) x7_2).f2).length c609_2] (fun k_ => (P0_ k_ ∨ w.heap.size ≤ k_) ∧ some k_ ≠ (u3 : Value).ownBlock ∧ some k_ ≠ (.slice Ao24 x4_2.length co24 : Value).ownBlock) (fun k_ => ((fun k_ => (P0_ k_ ∨ w.heap.size ≤ k_) ∧ some k_ ≠ (u3 : Value).ownBlock ∧ some k_ ≠ (.slice Ao24 x4_2.length co24 : Value).ownBlock)) k_ ∧ some k_ ≠ (u6 : Value).ownBlock) rfl rfl ?aP (fun _ hk => hk) ?aF ?aO ?aB ?aS ?aL ?_; (case aP => exact (k52_mkF _ _ (⟨(rd_T52 (rd_L20 l0 x5_1) x7_2).f0, false, (rd_T52 (rd_L20 l0 x5_1) x7_2).f2⟩ : S52) (Kd.V_reads' (Kd.V_mono (ok' := (fun k_ => ((fun k_ => (P0_ k_ ∨ w.heap.size ≤ k_) ∧ some k_ ≠ (u3 : Value).ownBlock ∧ some k_ ≠ (.slice Ao24 x4_2.length co24 : Value).ownBlock)) k_ ∧ some k_ ≠ (u6 : Value).ownBlock)) (Kd.V_drewN HL624_2.out nd) (fun k_ hk => ⟨⟨hk.1, ⟨hk.2.1, hk.2.2.1⟩⟩, hk.2.2.2⟩))).2.1 (Kd.V_F (Kd.V_mono (ok' := (fun k_ => ((fun k_ => (P0_ k_ ∨ w.heap.size ≤ k_) ∧ some k_ ≠ (u3 : Value).ownBlock ∧ some k_ ≠ (.slice Ao24 x4_2.length co24 : Value).ownBlock)) k_ ∧ some k_ ≠ (u6 : Value).ownBlock)) (Kd.V_drewN HL624_2.out nd) (fun k_ hk => ⟨⟨hk.1, ⟨hk.2.1, hk.2.2.1⟩⟩, hk.2.2.2⟩))))); (case aB => exact (by repeat (with_reducible first | exact HB.out | apply bA | apply bN | apply bD))); (case aF => exact (fun k_ hk => ⟨(.inr (Nat.le_trans (below_size (by repeat (with_reducible first | exact HB.out | apply bA | apply bN | apply bD))) hk)), Kd.fresh' (Kd.N_lt (by (with_reducible repeat (first | apply Na | apply Nn | apply Nd)); exact HO_3.out)) k_ hk, Kd.fresh' (Kd.R_lt (by (with_reducible repeat (first | apply Ra | apply Rn | apply Rd)); exact HO_4.out)) k_ hk⟩)); (case aO => exact (by (with_reducible repeat (first | apply Na | apply Nn | apply Nd)); exact HO_6.out)); (case aS => exact (below_size (by repeat (with_reducible first | exact HB.out | apply bA | apply bN | apply bD)))); (case aL => have := LMc22.out; omega); intro v626 w25 ho hb hg hat; rw [← Ny625.out] at ho; have n0_ := aM (Kd.V_afterv (ok := (fun k_ => (P0_ k_ ∨ w.heap.size ≤ k_) ∧ some k_ ≠ (u3 : Value).ownBlock ∧ some k_ ≠ (.slice Ao24 x4_2.length co24 : Value).ownBlock)) (by (with_reducible repeat (first | apply Va | apply Vn | apply Vd)); exact Kd.V_mono HO_0.out (fun _ hk => ⟨⟨hk.1, ⟨hk.2.1, hk.2.2.1⟩⟩, hk.2.2.2⟩)) hg hat); have n1_ := aM (Kd.N_afterv (ok := (fun k_ => (P0_ k_ ∨ w.heap.size ≤ k_) ∧ some k_ ≠ (.slice Ao24 x4_2.length co24 : Value).ownBlock)) (by (with_reducible repeat (first | apply Na | apply Nn | apply Nd)); exact Kd.N_mono HO_3.out (fun _ hk => ⟨⟨hk.1, hk.2.1⟩, hk.2.2⟩)) hg hat); have n2_ := aM (Kd.R_over' (by (with_reducible repeat (first | apply Ra | apply Rn | apply Rd)); exact HO_4.out) (Kd.N_typed (by (with_reducible repeat (first | apply Na | apply Nn | apply Nd)); exact HO_6.out)) (by decide) hg); have n3_ := aM (Kd.V_afterv (ok := (fun k_ => (P0_ k_ ∨ w.heap.size ≤ k_) ∧ some k_ ≠ (u3 : Value).ownBlock ∧ some k_ ≠ (.slice Ao24 x4_2.length co24 : Value).ownBlock)) (by (with_reducible repeat (first | apply Va | apply Vn | apply Vd)); exact Kd.V_mono HL604_0.out (fun _ hk => ⟨⟨hk.1, ⟨hk.2.1, hk.2.2.1⟩⟩, hk.2.2.2⟩)) hg hat); have n4_ := aM (Kd.V_afterv (ok := (fun k_ => (P0_ k_ ∨ w.heap.size ≤ k_) ∧ some k_ ≠ (u3 : Value).ownBlock ∧ some k_ ≠ (.slice Ao24 x4_2.length co24 : Value).ownBlock)) (by (with_reducible repeat (first | apply Va | apply Vn | apply Vd)); exact Kd.V_mono HL608_0.out (fun _ hk => ⟨⟨hk.1, ⟨hk.2.1, hk.2.2.1⟩⟩, hk.2.2.2⟩)) hg hat); have n5_ := aM (Kd.V_afterv (ok := (fun k_ => (P0_ k_ ∨ w.heap.size ≤ k_) ∧ some k_ ≠ (u3 : Value).ownBlock ∧ some k_ ≠ (.slice Ao24 x4_2.length co24 : Value).ownBlock)) (by (with_reducible repeat (first | apply Va | apply Vn | apply Vd)); exact Kd.V_mono HL609_2.out (fun _ hk => ⟨⟨hk.1, ⟨hk.2.1, hk.2.2.1⟩⟩, hk.2.2.2⟩)) hg hat); have n6_ := aM (Kd.V_afterv (ok := (fun k_ => (P0_ k_ ∨ w.heap.size ≤ k_) ∧ some k_ ≠ (u3 : Value).ownBlock ∧ some k_ ≠ (.slice Ao24 x4_2.length co24 : Value).ownBlock)) (by (with_reducible repeat (first | apply Va | apply Vn | apply Vd)); exact Kd.V_mono HL620_0.out (fun _ hk => ⟨⟨hk.1, ⟨hk.2.1, hk.2.2.1⟩⟩, hk.2.2.2⟩)) hg hat); have n7_ := aM (Kd.V_afterv (ok := (fun k_ => (P0_ k_ ∨ w.heap.size ≤ k_) ∧ some k_ ≠ (u3 : Value).ownBlock ∧ some k_ ≠ (.slice Ao24 x4_2.length co24 : Value).ownBlock)) (by (with_reducible repeat (first | apply Va | apply Vn | apply Vd)); exact Kd.V_mono HL621_2.out (fun _ hk => ⟨⟨hk.1, ⟨hk.2.1, hk.2.2.1⟩⟩, hk.2.2.2⟩)) hg hat); have n8_ := aM (Kd.V_afterv (ok := (fun k_ => (P0_ k_ ∨ w.heap.size ≤ k_) ∧ some k_ ≠ (u3 : Value).ownBlock ∧ some k_ ≠ (.slice Ao24 x4_2.length co24 : Value).ownBlock)) (by (with_reducible repeat (first | apply Va | apply Vn | apply Vd)); exact Kd.V_mono HL623_0.out (fun _ hk => ⟨⟨hk.1, ⟨hk.2.1, hk.2.2.1⟩⟩, hk.2.2.2⟩)) hg hat); have n9_ := aM (Kd.V_afterv (ok := (fun k_ => (P0_ k_ ∨ w.heap.size ≤ k_) ∧ some k_ ≠ (u3 : Value).ownBlock ∧ some k_ ≠ (.slice Ao24 x4_2.length co24 : Value).ownBlock)) (by (with_reducible repeat (first | apply Va | apply Vn | apply Vd)); exact Kd.V_mono HL624_2.out (fun _ hk => ⟨⟨hk.1, ⟨hk.2.1, hk.2.2.1⟩⟩, hk.2.2.2⟩)) hg hat); have n10_ := aM (hb); have n11_ := aM (ho); clear HO_0 HO_3 HO_4 HL604_0 HL608_0 HL609_2 HL620_0 HL621_2 HL623_0 HL624_2 HB HO_6; have HO_0 := n0_; have HO_3 := n1_; have HO_4 := n2_; have HL604_0 := n3_; have HL608_0 := n4_; have HL609_2 := n5_; have HL620_0 := n6_; have HL621_2 := n7_; have HL623_0 := n8_; have HL624_2 := n9_; have HB := n10_; have HO627 := n11_; clear n0_ n1_ n2_ n3_ n4_ n5_ n6_ n7_ n8_ n9_ n10_ n11_ ho hb hg hat; have p628 : 0 ≤ (x5_1 : Int) := oD (by first | with_reducible assumption | assumption); have q628 : x5_1 < (l0.length : Int) := oD (by first | with_reducible assumption | assumption); obtain ⟨ad628, A628_0, c628_0, e628, hx628_0, hl628_0, hi628_0⟩ := at_L20 (Kd.V_reads' HO_0.out).2.2 x5_1 p628 q628; obtain rfl : ad604 = ad628 := (by injection e628); obtain ⟨ce628, hce628, hMe628, hcc628⟩ := Kd.V_get HO_0.out [] x5_1 p628 (by first | exact q628 | exact oD (by first | with_reducible assumption | assumption) | (have e_ := (Kd.V_reads' HO_0.out).1; omega)); obtain ⟨ua628_0, uc628_0, rfl, ul628_0, ge628_0⟩ := Kd.FK_slice_open hMe628; have hv628_0 := hcc628 0 _ rfl; rw [Nat.add_zero, show ((Kd.slice 52 k52)).sz = 1 from rfl, Nat.mul_one] at hv628_0; replace hv628_0 := Option.some.inj (hv628_0.symm.trans hx628_0); injection hv628_0 with hva_ hvn_ hvc_; rw [hva_] at ge628_0; rw [hvc_] at ul628_0; have HL628_0 := aM (show Kd.V k52 52 _ w.heap.size _ _ (rd_L20 l0 x5_1) from Kd.V_mk ul628_0 ge628_0); clear hva_ hvn_ hvc_ ge628_0 ul628_0 hcc628 hce628; have HR628_0 := aM hi628_0; have HC628_0 := aM hl628_0; clear hi628_0 hl628_0; replace p628 := eq_true p628; replace q628 := eq_true q628; have p629 : 0 ≤ (x7_2 : Int) := oD (by first | with_reducible assumption | assumption); have q629 : x7_2 < ((rd_L20 l0 x5_1).length : Int) := oD (by first | with_reducible assumption | assumption); obtain ⟨ad629, A629_2, c629_2, e629, hx629_0, hx629_1, hx629_2, hl629_2, hi629_2⟩ := at_T52 (by repeat (first | (with_reducible exact HR628_0.out) | (with_reducible first | refine Ca ?_ _ | refine Cn ?_ _ | refine Cd ?_) | exact HR628_0.out)) x7_2 p629 q629; (try rw [← Nbq13.out] at hx629_1); cases e629; obtain ⟨ce629, hce629, hMe629, hcc629⟩ := Kd.V_get HL628_0.out z52 x7_2 p629 (by first | exact q629 | exact oD (by first | with_reducible assumption | assumption) | (have e_ := (Kd.V_reads' HL628_0.out).1; omega)); obtain ⟨ua629_2, uc629_2, rfl, ul629_2, ge629_2⟩ := k52_openF hMe629; have hv629_2 := hcc629 2 _ rfl; rw [add_field _ _ 2 (by omega)] at hv629_2; replace hv629_2 := Option.some.inj (hv629_2.symm.trans hx629_2); injection hv629_2 with hva_ hvn_ hvc_; rw [hva_] at ge629_2; rw [hvc_] at ul629_2; have HL629_2 := aM (show Kd.V k110 110 _ w.heap.size _ _ ((rd_T52 (rd_L20 l0 x5_1) x7_2).f2) from Kd.V_mk ul629_2 ge629_2); clear hva_ hvn_ hvc_ ge629_2 ul629_2 hcc629 hce629; have HR629_2 := aM hi629_2; have HC629_2 := aM hl629_2; clear hi629_2 hl629_2; replace p629 := eq_true p629; replace q629 := eq_true q629) | ((with_reducible refine gate_builtin (b := .append) (xs := #[.tmp 57, .tmp 66]) rfl ?_); at_builtin; refine Kd.R_append Kd.string (w0 := w) w.heap.size rfl (.tmp 57) (.tmp 66) 24 9 (.string ⟨#[]⟩) 16 rfl Try.underlying24 info9 rfl (by decide) (by omega) (.slice Ao24 x4_2.length co24) x4_2 ((rd_T52 (rd_L20 l0 x5_1) x7_2).f0) [.string ((rd_T52 (rd_L20 l0 x5_1) x7_2).f0)] (fun k_ => (w.heap.size ≤ k_)) (fun _ => False) rfl rfl ?aP (fun _ hk => hk.elim) ?aF ?aO ?aB ?aS ?aL ?_; (case aP => exact rfl); (case aB => exact (by repeat (with_reducible first | exact HB.out | apply bA | apply bN | apply bD))); (case aF => exact (fun k_ hk => (Nat.le_trans (below_size (by repeat (with_reducible first | exact HB.out | apply bA | apply bN | apply bD))) hk))); (case aO => exact (by (with_reducible repeat (first | apply Ra | apply Rn | apply Rd)); exact HO_4.out)); (case aS => exact (below_size (by repeat (with_reducible first | exact HB.out | apply bA | apply bN | apply bD)))); (case aL => have := LMc23.out; omega); intro v631 w26 ho hb hg hat; rw [← Ny630.out] at ho; have n0_ := aM (Kd.V_afterv (ok := (fun k_ => (P0_ k_ ∨ w.heap.size ≤ k_) ∧ some k_ ≠ (u3 : Value).ownBlock ∧ some k_ ≠ (v626 : Value).ownBlock)) (by (with_reducible repeat (first | apply Va | apply Vn | apply Vd)); exact Kd.V_mono HO_0.out (fun _ hk => ⟨⟨hk.1.1, ⟨hk.1.2.1, hk.2⟩⟩, hk.1.2.2⟩)) hg hat); have n1_ := aM (Kd.N_afterv (ok := (fun k_ => (P0_ k_ ∨ w.heap.size ≤ k_) ∧ some k_ ≠ (v626 : Value).ownBlock)) (by (with_reducible repeat (first | apply Na | apply Nn | apply Nd)); exact Kd.N_mono HO_3.out (fun _ hk => ⟨⟨hk.1.1, hk.2⟩, hk.1.2⟩)) hg hat); have n2_ := aM (Kd.V_afterv (ok := (fun k_ => (P0_ k_ ∨ w.heap.size ≤ k_) ∧ some k_ ≠ (u3 : Value).ownBlock ∧ some k_ ≠ (v626 : Value).ownBlock)) (by (with_reducible repeat (first | apply Va | apply Vn | apply Vd)); exact Kd.V_mono HL604_0.out (fun _ hk => ⟨⟨hk.1.1, ⟨hk.1.2.1, hk.2⟩⟩, hk.1.2.2⟩)) hg hat); have n3_ := aM (Kd.V_afterv (ok := (fun k_ => (P0_ k_ ∨ w.heap.size ≤ k_) ∧ some k_ ≠ (u3 : Value).ownBlock ∧ some k_ ≠ (v626 : Value).ownBlock)) (by (with_reducible repeat (first | apply Va | apply Vn | apply Vd)); exact Kd.V_mono HL608_0.out (fun _ hk => ⟨⟨hk.1.1, ⟨hk.1.2.1, hk.2⟩⟩, hk.1.2.2⟩)) hg hat); have n4_ := aM (Kd.V_afterv (ok := (fun k_ => (P0_ k_ ∨ w.heap.size ≤ k_) ∧ some k_ ≠ (u3 : Value).ownBlock ∧ some k_ ≠ (v626 : Value).ownBlock)) (by (with_reducible repeat (first | apply Va | apply Vn | apply Vd)); exact Kd.V_mono HL609_2.out (fun _ hk => ⟨⟨hk.1.1, ⟨hk.1.2.1, hk.2⟩⟩, hk.1.2.2⟩)) hg hat); have n5_ := aM (Kd.V_afterv (ok := (fun k_ => (P0_ k_ ∨ w.heap.size ≤ k_) ∧ some k_ ≠ (u3 : Value).ownBlock ∧ some k_ ≠ (v626 : Value).ownBlock)) (by (with_reducible repeat (first | apply Va | apply Vn | apply Vd)); exact Kd.V_mono HL620_0.out (fun _ hk => ⟨⟨hk.1.1, ⟨hk.1.2.1, hk.2⟩⟩, hk.1.2.2⟩)) hg hat); have n6_ := aM (Kd.V_afterv (ok := (fun k_ => (P0_ k_ ∨ w.heap.size ≤ k_) ∧ some k_ ≠ (u3 : Value).ownBlock ∧ some k_ ≠ (v626 : Value).ownBlock)) (by (with_reducible repeat (first | apply Va | apply Vn | apply Vd)); exact Kd.V_mono HL621_2.out (fun _ hk => ⟨⟨hk.1.1, ⟨hk.1.2.1, hk.2⟩⟩, hk.1.2.2⟩)) hg hat); have n7_ := aM (Kd.V_afterv (ok := (fun k_ => (P0_ k_ ∨ w.heap.size ≤ k_) ∧ some k_ ≠ (u3 : Value).ownBlock ∧ some k_ ≠ (v626 : Value).ownBlock)) (by (with_reducible repeat (first | apply Va | apply Vn | apply Vd)); exact Kd.V_mono HL623_0.out (fun _ hk => ⟨⟨hk.1.1, ⟨hk.1.2.1, hk.2⟩⟩, hk.1.2.2⟩)) hg hat); have n8_ := aM (Kd.V_afterv (ok := (fun k_ => (P0_ k_ ∨ w.heap.size ≤ k_) ∧ some k_ ≠ (u3 : Value).ownBlock ∧ some k_ ≠ (v626 : Value).ownBlock)) (by (with_reducible repeat (first | apply Va | apply Vn | apply Vd)); exact Kd.V_mono HL624_2.out (fun _ hk => ⟨⟨hk.1.1, ⟨hk.1.2.1, hk.2⟩⟩, hk.1.2.2⟩)) hg hat); have n9_ := aM (Kd.N_afterv (ok := (fun k_ => (P0_ k_ ∨ w.heap.size ≤ k_) ∧ some k_ ≠ (u3 : Value).ownBlock)) (by (with_reducible repeat (first | apply Na | apply Nn | apply Nd)); exact Kd.N_mono HO627.out (fun _ hk => ⟨⟨hk.1, hk.2.1⟩, hk.2.2⟩)) hg hat); have n10_ := aM (Kd.V_afterv (ok := (fun k_ => (P0_ k_ ∨ w.heap.size ≤ k_) ∧ some k_ ≠ (u3 : Value).ownBlock ∧ some k_ ≠ (v626 : Value).ownBlock)) (by (with_reducible repeat (first | apply Va | apply Vn | apply Vd)); exact Kd.V_mono HL628_0.out (fun _ hk => ⟨⟨hk.1.1, ⟨hk.1.2.1, hk.2⟩⟩, hk.1.2.2⟩)) hg hat); have n11_ := aM (Kd.V_afterv (ok := (fun k_ => (P0_ k_ ∨ w.heap.size ≤ k_) ∧ some k_ ≠ (u3 : Value).ownBlock ∧ some k_ ≠ (v626 : Value).ownBlock)) (by (with_reducible repeat (first | apply Va | apply Vn | apply Vd)); exact Kd.V_mono HL629_2.out (fun _ hk => ⟨⟨hk.1.1, ⟨hk.1.2.1, hk.2⟩⟩, hk.1.2.2⟩)) hg hat); have n12_ := aM (hb); have n13_ := aM (ho); clear HO_0 HO_3 HL604_0 HL608_0 HL609_2 HL620_0 HL621_2 HL623_0 HL624_2 HO627 HL628_0 HL629_2 HB HO_4; have HO_0 := n0_; have HO_3 := n1_; have HL604_0 := n2_; have HL608_0 := n3_; have HL609_2 := n4_; have HL620_0 := n5_; have HL621_2 := n6_; have HL623_0 := n7_; have HL624_2 := n8_; have HO627 := n9_; have HL628_0 := n10_; have HL629_2 := n11_; have HB := n12_; have HO632 := n13_; clear n0_ n1_ n2_ n3_ n4_ n5_ n6_ n7_ n8_ n9_ n10_ n11_ n12_ n13_ ho hb hg hat))
               go_roundg k2
               case measure => have := HK1.out; have := HK2.out; omega
               case rel => exact ⟨(y630), (y625), (wrap64 (x7_2 + 1)), (by first | rfl | (simp; done) | (simp [*]; done)), H', ⟨by have := HK1.out; have := HK2.out; omega⟩, ⟨by (with_reducible repeat (first | apply Va | apply Vn | apply Vd)); exact Kd.V_mono HO_0.out (fun _ hk => ⟨hk.1.1, ⟨hk.1.2.1, ⟨hk.2, hk.1.2.2⟩⟩⟩)⟩, ⟨by (with_reducible repeat (first | apply Na | apply Nn | apply Nd)); exact Kd.N_mono HO_3.out (fun _ hk => ⟨hk.1.1, ⟨hk.2, hk.1.2⟩⟩)⟩, ⟨by (with_reducible repeat (first | apply Ra | apply Rn | apply Rd)); exact HO632.out⟩, ⟨by (with_reducible repeat (first | apply Na | apply Nn | apply Nd)); exact Kd.N_mono HO627.out (fun _ hk => ⟨hk.1.1, ⟨hk.1.2, hk.2⟩⟩)⟩, ⟨by repeat (with_reducible first | exact HB.out | apply bA | apply bN | apply bD)⟩⟩
             rw [if_neg c23] at H
             exact absurd H (by simp)
           rw [if_neg c22] at H
           exact absurd H (by simp)
         rw [if_neg c12] at H
         exact absurd H (by simp)
       rw [if_neg c11] at H
       have c11b0 : decide (x7_2 < ((rd_L20 l0 x5_1).length : Int)) = false := decide_eq_false c11
       clear c11
       by_cases c27 : x3_1.length < 5864062014805
       · rw [if_pos c27] at H; have LMc27 := aM c27; clear c27
         obtain ⟨y605, hy605⟩ : ∃ y_ : List (List (S52)), y_ = (x3_1 ++ [x6_2]) := ⟨_, rfl⟩
         replace H : (spec_l3Thin.l0 k2 l0 y605 x4_2 (wrap64 (x5_1 + 1))) = some r := by first | (rw [hy605]; with_reducible exact H) | (have H2_ := (Option.bind_some _ _).symm.trans H; rw [hy605]; with_reducible exact H2_) | (have H2_ := (Option.bind_some _ _).symm.trans H; with_reducible exact H2_) | with_reducible exact H | (rw [hy605]; exact H) | exact H
         have Ny605 := aM hy605; clear hy605
         have H' := aM H
         clear H
         have p604 : 0 ≤ (x5_1 : Int) := oD (by first | with_reducible assumption | assumption)
         have q604 : x5_1 < (l0.length : Int) := oD (by first | with_reducible assumption | assumption)
         obtain ⟨ad604, A604_0, c604_0, e604, hx604_0, hl604_0, hi604_0⟩ := at_L20 (Kd.V_reads' HO_0.out).2.2 x5_1 p604 q604
         cases e604
         obtain ⟨ce604, hce604, hMe604, hcc604⟩ := Kd.V_get HO_0.out [] x5_1 p604 (by first | exact q604 | exact oD (by first | with_reducible assumption | assumption) | (have e_ := (Kd.V_reads' HO_0.out).1; omega))
         obtain ⟨ua604_0, uc604_0, rfl, ul604_0, ge604_0⟩ := Kd.FK_slice_open hMe604
         have hv604_0 := hcc604 0 _ rfl
         rw [Nat.add_zero, show ((Kd.slice 52 k52)).sz = 1 from rfl, Nat.mul_one] at hv604_0
         replace hv604_0 := Option.some.inj (hv604_0.symm.trans hx604_0)
         injection hv604_0 with hva_ hvn_ hvc_
         rw [hva_] at ge604_0
         rw [hvc_] at ul604_0
         have HL604_0 := aM (show Kd.V k52 52 _ w.heap.size _ _ (rd_L20 l0 x5_1) from Kd.V_mk ul604_0 ge604_0)
         clear hva_ hvn_ hvc_ ge604_0 ul604_0 hcc604 hce604; have HR604_0 := aM hi604_0; have HC604_0 := aM hl604_0; clear hi604_0 hl604_0; replace p604 := eq_true p604; replace q604 := eq_true q604
         obtain ⟨Ao29, co29, eo29⟩ := Kd.N_slice HO_6.out
         subst eo29
         go_wp2_with (first | ((with_reducible refine gate_builtin (b := .append) (xs := #[.tmp 68, .tmp 70]) rfl ?_); at_builtin; refine Kd.N_append (Kd.slice 52 k52) (w0 := w) w.heap.size rfl (.tmp 68) (.tmp 70) 26 40 (.slice none 0 0) 24 rfl Try.underlying26 info40 rfl (by decide) (by omega) u3 x3_1 x6_2 [.slice Ao29 x6_2.length co29] (fun k_ => (P0_ k_ ∨ w.heap.size ≤ k_) ∧ some k_ ≠ (u4 : Value).ownBlock) (fun k_ => ((fun k_ => (P0_ k_ ∨ w.heap.size ≤ k_) ∧ some k_ ≠ (u4 : Value).ownBlock)) k_ ∧ some k_ ≠ (u3 : Value).ownBlock) rfl rfl ?aP (fun _ hk => hk) ?aF ?aO ?aB ?aS ?aL ?_; (case aP => exact (Kd.FK_slice_mk (Kd.N_reads' (Kd.N_mono (ok' := (fun k_ => ((fun k_ => (P0_ k_ ∨ w.heap.size ≤ k_) ∧ some k_ ≠ (u4 : Value).ownBlock)) k_ ∧ some k_ ≠ (u3 : Value).ownBlock)) (HO_6.out) (fun k_ hk => ⟨⟨hk.1, hk.2.2⟩, hk.2.1⟩))).2.1 (Kd.N_F (Kd.N_mono (ok' := (fun k_ => ((fun k_ => (P0_ k_ ∨ w.heap.size ≤ k_) ∧ some k_ ≠ (u4 : Value).ownBlock)) k_ ∧ some k_ ≠ (u3 : Value).ownBlock)) (HO_6.out) (fun k_ hk => ⟨⟨hk.1, hk.2.2⟩, hk.2.1⟩))))); (case aB => exact (by repeat (with_reducible first | exact HB.out | apply bA | apply bN | apply bD))); (case aF => exact (fun k_ hk => ⟨(.inr (Nat.le_trans (below_size (by repeat (with_reducible first | exact HB.out | apply bA | apply bN | apply bD))) hk)), Kd.fresh' (Kd.R_lt (by (with_reducible repeat (first | apply Ra | apply Rn | apply Rd)); exact HO_4.out)) k_ hk⟩)); (case aO => exact (by (with_reducible repeat (first | apply Na | apply Nn | apply Nd)); exact Kd.N_mono HO_3.out (fun _ hk => ⟨hk.1, hk.2.1⟩))); (case aS => exact (below_size (by repeat (with_reducible first | exact HB.out | apply bA | apply bN | apply bD)))); (case aL => have := LMc27.out; omega); intro v606 w28 ho hb hg hat; rw [← Ny605.out] at ho; have n0_ := aM (Kd.V_afterv (ok := (fun k_ => (P0_ k_ ∨ w.heap.size ≤ k_) ∧ some k_ ≠ (u4 : Value).ownBlock ∧ some k_ ≠ (.slice Ao29 x6_2.length co29 : Value).ownBlock)) (by (with_reducible repeat (first | apply Va | apply Vn | apply Vd)); exact Kd.V_mono HO_0.out (fun _ hk => ⟨⟨hk.1, ⟨hk.2.2.1, hk.2.2.2⟩⟩, hk.2.1⟩)) hg hat); have n1_ := aM (Kd.R_over' (by (with_reducible repeat (first | apply Ra | apply Rn | apply Rd)); exact HO_4.out) (Kd.N_typed (by (with_reducible repeat (first | apply Na | apply Nn | apply Nd)); exact HO_3.out)) (by decide) hg); have n2_ := aM (Kd.V_afterv (ok := (fun k_ => (P0_ k_ ∨ w.heap.size ≤ k_) ∧ some k_ ≠ (u4 : Value).ownBlock ∧ some k_ ≠ (.slice Ao29 x6_2.length co29 : Value).ownBlock)) (by (with_reducible repeat (first | apply Va | apply Vn | apply Vd)); exact Kd.V_mono HL604_0.out (fun _ hk => ⟨⟨hk.1, ⟨hk.2.2.1, hk.2.2.2⟩⟩, hk.2.1⟩)) hg hat); have n3_ := aM (hb); have n4_ := aM (ho); clear HO_0 HO_4 HL604_0 HB HO_3 HO_6; have HO_0 := n0_; have HO_4 := n1_; have HL604_0 := n2_; have HB := n3_; have HO607 := n4_; clear n0_ n1_ n2_ n3_ n4_ ho hb hg hat))
         go_roundg k2
         case measure => have := HK1.out; have := HK2.out; omega
         case rel => exact ⟨(y605), (x4_2), (wrap64 (x5_1 + 1)), (by first | rfl | (simp; done) | (simp [*]; done)), H', ⟨by have := HK1.out; have := HK2.out; omega⟩, ⟨by (with_reducible repeat (first | apply Va | apply Vn | apply Vd)); exact Kd.V_mono HO_0.out (fun _ hk => ⟨hk.1.1, ⟨hk.2, hk.1.2.1⟩⟩)⟩, ⟨by (with_reducible repeat (first | apply Na | apply Nn | apply Nd)); exact HO607.out⟩, ⟨by (with_reducible repeat (first | apply Ra | apply Rn | apply Rd)); exact HO_4.out⟩, ⟨by repeat (with_reducible first | exact HB.out | apply bA | apply bN | apply bD)⟩⟩
       rw [if_neg c27] at H
       exact absurd H (by simp)
     rw [if_neg c10] at H
     exact absurd H (by simp)
   rw [if_neg c9] at H
   exact absurd H (by simp)
 rw [if_neg c6] at H
 have c6b0 : decide (x5_1 < (l0.length : Int)) = false := decide_eq_false c6
 clear c6
 obtain rfl := Option.some.inj H
 go_wp2
 go_ret
 exact ⟨_, by first | rfl | (simp [*, errW_none, errW_some] <;> rfl), by (with_reducible repeat (first | apply Na | apply Nn | apply Nd)); exact Kd.N_mono HO_3.out (fun _ hk => hk.1), by repeat (with_reducible first | exact HB.out | apply bA | apply bN | apply bD)⟩
end Go.Proofs.Ytppmalfpggkpdaa.P
