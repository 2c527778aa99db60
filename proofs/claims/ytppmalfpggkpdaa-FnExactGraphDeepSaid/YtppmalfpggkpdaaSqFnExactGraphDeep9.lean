-- Pxspecl6Deeper, PxlawsFnExactGraphDeep, PutsFnExactGraphDeep, PximplUnitOk, PximplUnitFind, PxspecUnitOk, LUnit, PxlawsszIntS, PxlawsszSpotS, PxlawseqMach: put together by squash.py
import Derived.Test.YtppmalfpggkpdaaSqFnExactGraphDeep3
import Derived.Test.YtppmalfpggkpdaaSqFnExactGraphDeep8
import Derived.Test.YtppmalfpggkpdaaSqFnExactGraphDeep7
import Derived.Test.YtppmalfpggkpdaaSqFnExactGraphDeep5
import Derived.Test.YtppmalfpggkpdaaSqFnExactGraphDeep6

-- made by printx.py (own driver over the kit's print); Lean checks it
namespace Go.Proofs.Ytppmalfpggkpdaa.P
open Go.RowKit Go.Proofs.YtppmalfpggkpdaaW.PrintWords Go.Proofs.YtppmalfpggkpdaaW.PrintLast Go.Proofs.YtppmalfpggkpdaaW.PrintMore
attribute [local go_sem] max2_int min2_int max_two min_two max_three min_three max_four min_four   -- for this text's walks alone
set_option linter.unusedVariables false
set_option linter.unusedSimpArgs false

/-! ### spec_l6Deeper: function 90 -/
mutual
def spec_l6Deeper.l0 : Nat → List (S52) → List Int → List Int → Int → Option (List Int)
  | 0, _, _, _, _ => none
  | k + 1, x0, x1, x5, x6 => if x6 < (x0.length : Int) then (spec_l6Deeper.l1 k x0 x1 x5 x6 0) else (some x5)
def spec_l6Deeper.l1 : Nat → List (S52) → List Int → List Int → Int → Int → Option (List Int)
  | 0, _, _, _, _, _ => none
  | k + 1, x0, x1, x5, x6, x7 => if 0 ≤ x6 then (if x6 < (x0.length : Int) then (if x7 < (((rd_T52 x0 x6).f2).length : Int) then (if 0 ≤ x7 then ((spec_InsRefs.f ((rd_T110 ((rd_T52 x0 x6).f2) x7).f0) ((rd_T110 ((rd_T52 x0 x6).f2) x7).f1) ((rd_T110 ((rd_T52 x0 x6).f2) x7).f2)).bind fun t965 => (if t965 = true then ((spec_l2Find.f k x0 ((rd_T110 ((rd_T52 x0 x6).f2) x7).f2)).bind fun t966 => (if 0 ≤ t966 then (if t966 < (x1.length : Int) then (if ((rd_T110 ((rd_T52 x0 x6).f2) x7).f0) = 3 then (if x6 < (x5.length : Int) then ((spec_l1Max.f (rd x5 x6) (wrap64 ((rd x1 t966) + 1))).bind fun t969 => (spec_l6Deeper.l1 k x0 x1 (x5.set (x6 : Int).toNat t969) x6 (wrap64 (x7 + 1)))) else (none)) else (if x6 < (x5.length : Int) then ((spec_l1Max.f (rd x5 x6) (rd x1 t966)).bind fun t972 => (spec_l6Deeper.l1 k x0 x1 (x5.set (x6 : Int).toNat t972) x6 (wrap64 (x7 + 1)))) else (none))) else (none)) else (none))) else (spec_l6Deeper.l1 k x0 x1 x5 x6 (wrap64 (x7 + 1))))) else (none)) else (spec_l6Deeper.l0 k x0 x1 x5 (wrap64 (x6 + 1)))) else (none)) else (none)
end
def spec_l6Deeper.f (k : Nat) (l0 : List (S52)) (l1 : List Int) : Option (List Int) := if 0 ≤ (l0.length : Int) then (if ((l0.length : Int) : Int).toNat ≤ 35184372088832 then (spec_l6Deeper.l0 k l0 l1 (List.replicate ((l0.length : Int) : Int).toNat 0) 0) else (none)) else (none)
set_option maxHeartbeats 8000000 in
set_option maxRecDepth 100000 in
theorem spec_l6Deeper.calls (k : Nat) (A0 : Option Addr) (c0 : Nat) (l0 : List (S52)) (A1 : Option Addr) (c1 : Nat) (l1 : List Int) (r : List Int) (w : World) (hr0 : Kd.C k52 w A0 l0.length l0) (hc0 : l0.length ≤ c0) (hr1 : Kd.C (Kd.int .i64) w A1 l1.length l1) (hc1 : l1.length ≤ c1) (h : spec_l6Deeper.f k l0 l1 = some r) :
    Calls Try.prog 90 #[.slice A0 l0.length c0, .slice A1 l1.length c1] w fun e w' => ∃ v0_ : Value, e = .returned (v0_) ∧ Kd.R (Kd.int .i64) 3 w' w.heap.size (fun _ => True) v0_ r ∧ Below w.heap.size w w' := by
 have hu110 := Try.underlying110
 have HR0 := Aside0.mk hr0; have HC0 := Aside0.mk hc0; clear hr0 hc0; have HR1 := Aside0.mk hr1; have HC1 := Aside0.mk hc1; clear hr1 hc1
 have HB := Aside0.mk (Below.refl w.heap.size w)
 have H : (if 0 ≤ (l0.length : Int) then (if ((l0.length : Int) : Int).toNat ≤ 35184372088832 then (spec_l6Deeper.l0 k l0 l1 (List.replicate ((l0.length : Int) : Int).toNat 0) 0) else (none)) else (none)) = some r := h
 clear h
 by_cases c3 : 0 ≤ (l0.length : Int)
 · rw [if_pos c3] at H
   have c3b0 := eq_true c3
   have c3b1 : decide (0 ≤ (l0.length : Int)) = true := decide_eq_true c3
   clear c3
   by_cases c4 : ((l0.length : Int) : Int).toNat ≤ 35184372088832
   · rw [if_pos c4] at H
     have c4b0 := eq_true c4
     have c4b1 : decide (((l0.length : Int) : Int).toNat ≤ 35184372088832) = true := decide_eq_true c4
     clear c4
     obtain ⟨y958, hy958⟩ : ∃ y_ : List Int, y_ = (List.replicate ((l0.length : Int) : Int).toNat 0) := ⟨_, rfl⟩
     replace H : (spec_l6Deeper.l0 k l0 l1 y958 0) = some r := by first | (rw [hy958]; with_reducible exact H) | (have H2_ := (Option.bind_some _ _).symm.trans H; rw [hy958]; with_reducible exact H2_) | (have H2_ := (Option.bind_some _ _).symm.trans H; with_reducible exact H2_) | with_reducible exact H | (rw [hy958]; exact H) | exact H
     have Ny958 := Aside0.mk hy958; clear hy958
     have H' := Aside0.mk H
     clear H
     go_enter Try.func90, Try.ntmps90
     go_wp2_with (first | ((with_reducible refine gate_dst (N := 12) rfl ?_); refine Kd.R_make (Kd.int .i64) _ 3 rfl (N := 12) rfl 63 _ _ rfl (l0.length : Int) rfl rfl Try.underlying63 (.int .i64 0) 8 info3 rfl (by decide) (by omega) 0 (ok := fun _ => True) (okp := fun _ => True) rfl (fun _ hk => hk) trivial (of_decide_eq_true (by first | (with_reducible assumption) | assumption)) (Nat.le_trans (Nat.mul_le_mul_right _ (of_decide_eq_true (by first | (with_reducible assumption) | assumption) : (l0.length : Int).toNat ≤ 35184372088832)) (by omega)) (Below.refl _ _) (Nat.le_refl _) ?_; intro v959 w5 ho6 hb hg_ hnew_; clear hg_ hnew_; (first | rw [← Ny958.out] at ho6 | (simp only [Int.reduceToNat] at ho6; rw [← Ny958.out] at ho6)); have n0_ := Aside0.mk (Kd.R_lower ho6 (below_size (by repeat (first | (with_reducible first | exact HB.out | apply below_alloc | apply pw_below_drewN | apply below_drew1) | exact HB.out)))); have n1_ := Aside0.mk (below_step (by repeat (first | (with_reducible first | exact HB.out | apply below_alloc | apply pw_below_drewN | apply below_drew1) | exact HB.out)) hb); clear HB; have HO960 := n0_; have HB := n1_; clear n0_ n1_ hb ho6))
     go_loopg [6] k (fun kq v6 w' => ∃ (x5_1 : List Int) (x6_1 : Int), v6 = .int .i64 x6_1 ∧ Aside0 (spec_l6Deeper.l0 kq l0 l1 x5_1 x6_1 = some r) ∧ Aside0 (kq ≤ k) ∧ Aside0 (Kd.R (Kd.int .i64) 3 w' w.heap.size (fun _ => True) v959 x5_1) ∧ Aside0 (Below w.heap.size w w'))
     case atStart => exact ⟨(y958), (0), (by first | rfl | (simp; done) | (simp [*]; done)), H', ⟨Nat.le_refl _⟩, ⟨by (with_reducible repeat (first | apply Kd.R_alloc | apply Kd.R_drewN | apply Kd.R_drew)); exact HO960.out⟩, ⟨by repeat (first | (with_reducible first | exact HB.out | apply below_alloc | apply pw_below_drewN | apply below_drew1) | exact HB.out)⟩⟩
     clear H'
     try clear c1; try clear p2; try clear c3; try clear c3b0; try clear c3b1; try clear c4; try clear c4b0; try clear c4b1
     obtain ⟨x5_1, x6_1, rfl, HA, HK1, HO_5, HB⟩ := hrel
     obtain _ | k1 := gk
     · exact absurd HA.out (by simp [spec_l6Deeper.l0])
     have H := HA.out
     clear HA
     simp only [spec_l6Deeper.l0] at H
     by_cases c7 : x6_1 < (l0.length : Int)
     · rw [if_pos c7] at H
       have c7b0 : decide (x6_1 < (l0.length : Int)) = true := decide_eq_true c7
       clear c7
       have H' := Aside0.mk H
       clear H
       go_wp2
       go_loopg [7] k1 (fun kq v7 w' => ∃ (x5_2 : List Int) (x7_2 : Int), v7 = .int .i64 x7_2 ∧ Aside0 (spec_l6Deeper.l1 kq l0 l1 x5_2 x6_1 x7_2 = some r) ∧ Aside0 (kq ≤ k1) ∧ Aside0 (Kd.R (Kd.int .i64) 3 w' w.heap.size (fun _ => True) v959 x5_2) ∧ Aside0 (Below w.heap.size w w'))
       case atStart => exact ⟨(x5_1), (0), (by first | rfl | (simp; done) | (simp [*]; done)), H', ⟨Nat.le_refl _⟩, ⟨by (with_reducible repeat (first | apply Kd.R_alloc | apply Kd.R_drewN | apply Kd.R_drew)); exact HO_5.out⟩, ⟨by repeat (first | (with_reducible first | exact HB.out | apply below_alloc | apply pw_below_drewN | apply below_drew1) | exact HB.out)⟩⟩
       clear H'
       try clear c1; try clear p2; try clear c3; try clear c3b0; try clear c3b1; try clear c4; try clear c4b0; try clear c4b1; try clear c7; try clear c7b0; try clear p2
       obtain ⟨x5_2, x7_2, rfl, HA, HK2, HO_5, HB⟩ := hrel
       obtain _ | k2 := gk
       · exact absurd HA.out (by simp [spec_l6Deeper.l1])
       have H := HA.out
       clear HA
       simp only [spec_l6Deeper.l1] at H
       by_cases c8 : 0 ≤ x6_1
       · rw [if_pos c8] at H
         have c8b0 : decide (0 ≤ x6_1) = true := decide_eq_true c8
         clear c8
         by_cases c9 : x6_1 < (l0.length : Int)
         · rw [if_pos c9] at H
           have c9b0 : decide (x6_1 < (l0.length : Int)) = true := decide_eq_true c9
           clear c9
           by_cases c10 : x7_2 < (((rd_T52 l0 x6_1).f2).length : Int)
           · rw [if_pos c10] at H
             have c10b0 : decide (x7_2 < (((rd_T52 l0 x6_1).f2).length : Int)) = true := decide_eq_true c10
             clear c10
             by_cases c11 : 0 ≤ x7_2
             · rw [if_pos c11] at H
               have c11b0 : decide (0 ≤ x7_2) = true := decide_eq_true c11
               clear c11
               replace H := Option.bind_eq_some_iff.mp H
               obtain ⟨t965, A120, H⟩ := H
               replace H : (if t965 = true then ((spec_l2Find.f k2 l0 ((rd_T110 ((rd_T52 l0 x6_1).f2) x7_2).f2)).bind fun t966 => (if 0 ≤ t966 then (if t966 < (l1.length : Int) then (if ((rd_T110 ((rd_T52 l0 x6_1).f2) x7_2).f0) = 3 then (if x6_1 < (x5_2.length : Int) then ((spec_l1Max.f (rd x5_2 x6_1) (wrap64 ((rd l1 t966) + 1))).bind fun t969 => (spec_l6Deeper.l1 k2 l0 l1 (x5_2.set (x6_1 : Int).toNat t969) x6_1 (wrap64 (x7_2 + 1)))) else (none)) else (if x6_1 < (x5_2.length : Int) then ((spec_l1Max.f (rd x5_2 x6_1) (rd l1 t966)).bind fun t972 => (spec_l6Deeper.l1 k2 l0 l1 (x5_2.set (x6_1 : Int).toNat t972) x6_1 (wrap64 (x7_2 + 1)))) else (none))) else (none)) else (none))) else (spec_l6Deeper.l1 k2 l0 l1 x5_2 x6_1 (wrap64 (x7_2 + 1)))) = some r := H
               have A12 := Aside0.mk A120; clear A120
               by_cases c13 : t965 = true
               · subst c13
                 have H1 : ((spec_l2Find.f k2 l0 ((rd_T110 ((rd_T52 l0 x6_1).f2) x7_2).f2)).bind fun t966 => (if 0 ≤ t966 then (if t966 < (l1.length : Int) then (if ((rd_T110 ((rd_T52 l0 x6_1).f2) x7_2).f0) = 3 then (if x6_1 < (x5_2.length : Int) then ((spec_l1Max.f (rd x5_2 x6_1) (wrap64 ((rd l1 t966) + 1))).bind fun t969 => (spec_l6Deeper.l1 k2 l0 l1 (x5_2.set (x6_1 : Int).toNat t969) x6_1 (wrap64 (x7_2 + 1)))) else (none)) else (if x6_1 < (x5_2.length : Int) then ((spec_l1Max.f (rd x5_2 x6_1) (rd l1 t966)).bind fun t972 => (spec_l6Deeper.l1 k2 l0 l1 (x5_2.set (x6_1 : Int).toNat t972) x6_1 (wrap64 (x7_2 + 1)))) else (none))) else (none)) else (none))) = some r := by rw [if_pos rfl] at H; exact H
                 clear H
                 have H := H1
                 clear H1
                 replace H := Option.bind_eq_some_iff.mp H
                 obtain ⟨t966, A140, H⟩ := H
                 replace H : (if 0 ≤ t966 then (if t966 < (l1.length : Int) then (if ((rd_T110 ((rd_T52 l0 x6_1).f2) x7_2).f0) = 3 then (if x6_1 < (x5_2.length : Int) then ((spec_l1Max.f (rd x5_2 x6_1) (wrap64 ((rd l1 t966) + 1))).bind fun t969 => (spec_l6Deeper.l1 k2 l0 l1 (x5_2.set (x6_1 : Int).toNat t969) x6_1 (wrap64 (x7_2 + 1)))) else (none)) else (if x6_1 < (x5_2.length : Int) then ((spec_l1Max.f (rd x5_2 x6_1) (rd l1 t966)).bind fun t972 => (spec_l6Deeper.l1 k2 l0 l1 (x5_2.set (x6_1 : Int).toNat t972) x6_1 (wrap64 (x7_2 + 1)))) else (none))) else (none)) else (none)) = some r := H
                 have A14 := Aside0.mk A140; clear A140
                 by_cases c15 : 0 ≤ t966
                 · rw [if_pos c15] at H
                   have c15b0 : decide (0 ≤ t966) = true := decide_eq_true c15
                   clear c15
                   by_cases c16 : t966 < (l1.length : Int)
                   · rw [if_pos c16] at H
                     have c16b0 : decide (t966 < (l1.length : Int)) = true := decide_eq_true c16
                     clear c16
                     by_cases c17 : ((rd_T110 ((rd_T52 l0 x6_1).f2) x7_2).f0) = 3
                     · rw [if_pos c17] at H
                       have c17b0 : (((rd_T110 ((rd_T52 l0 x6_1).f2) x7_2).f0) == 3) = true := beq_iff_eq.mpr c17
                       have c17b1 : (((rd_T110 ((rd_T52 l0 x6_1).f2) x7_2).f0) != 3) = false := bne_eq_false_iff_eq.mpr c17
                       clear c17
                       by_cases c18 : x6_1 < (x5_2.length : Int)
                       · rw [if_pos c18] at H
                         have c18b0 : decide (x6_1 < (x5_2.length : Int)) = true := decide_eq_true c18
                         clear c18
                         replace H := Option.bind_eq_some_iff.mp H
                         obtain ⟨t969, A190, H⟩ := H
                         replace H : (spec_l6Deeper.l1 k2 l0 l1 (x5_2.set (x6_1 : Int).toNat t969) x6_1 (wrap64 (x7_2 + 1))) = some r := H
                         have A19 := Aside0.mk A190; clear A190
                         obtain ⟨y970, hy970⟩ : ∃ y_ : List Int, y_ = (x5_2.set (x6_1 : Int).toNat t969) := ⟨_, rfl⟩
                         replace H : (spec_l6Deeper.l1 k2 l0 l1 y970 x6_1 (wrap64 (x7_2 + 1))) = some r := by first | (rw [hy970]; with_reducible exact H) | (have H2_ := (Option.bind_some _ _).symm.trans H; rw [hy970]; with_reducible exact H2_) | (have H2_ := (Option.bind_some _ _).symm.trans H; with_reducible exact H2_) | with_reducible exact H | (rw [hy970]; exact H) | exact H
                         have Ny970 := Aside0.mk hy970; clear hy970
                         have H' := Aside0.mk H
                         clear H
                         have p961 : 0 ≤ (x6_1 : Int) := of_decide_eq_true (by first | (with_reducible assumption) | assumption)
                         have q961 : x6_1 < (l0.length : Int) := of_decide_eq_true (by first | (with_reducible assumption) | assumption)
                         obtain ⟨ad961, A961_2, c961_2, e961, hx961_0, hx961_1, hx961_2, hl961_2, hi961_2⟩ := at_T52 HR0.out x6_1 p961 q961
                         cases e961
                         replace hx961_0 := (HB.out.cell (World.block_lt_of_cell? w _ hx961_0)).trans hx961_0
                         replace hx961_1 := (HB.out.cell (World.block_lt_of_cell? w _ hx961_1)).trans hx961_1
                         replace hx961_2 := (HB.out.cell (World.block_lt_of_cell? w _ hx961_2)).trans hx961_2
                         have HR961_2 := Aside0.mk hi961_2; have HC961_2 := Aside0.mk hl961_2; clear hi961_2 hl961_2; replace p961 := eq_true p961; replace q961 := eq_true q961
                         have p962 : 0 ≤ (x6_1 : Int) := of_decide_eq_true (by first | (with_reducible assumption) | assumption)
                         have q962 : x6_1 < (l0.length : Int) := of_decide_eq_true (by first | (with_reducible assumption) | assumption)
                         obtain ⟨ad962, A962_2, c962_2, e962, hx962_0, hx962_1, hx962_2, hl962_2, hi962_2⟩ := at_T52 HR0.out x6_1 p962 q962
                         obtain rfl : ad961 = ad962 := (by injection e962)
                         replace hx962_0 := (HB.out.cell (World.block_lt_of_cell? w _ hx962_0)).trans hx962_0
                         replace hx962_1 := (HB.out.cell (World.block_lt_of_cell? w _ hx962_1)).trans hx962_1
                         replace hx962_2 := (HB.out.cell (World.block_lt_of_cell? w _ hx962_2)).trans hx962_2
                         have HR962_2 := Aside0.mk hi962_2; have HC962_2 := Aside0.mk hl962_2; clear hi962_2 hl962_2; replace p962 := eq_true p962; replace q962 := eq_true q962
                         have ea_ := Option.some.inj (hx961_2.symm.trans hx962_2)
                         injection ea_ with ea_ en_ ec_
                         subst ea_; subst ec_; clear en_
                         have p963 : 0 ≤ (x7_2 : Int) := of_decide_eq_true (by first | (with_reducible assumption) | assumption)
                         have q963 : x7_2 < (((rd_T52 l0 x6_1).f2).length : Int) := of_decide_eq_true (by first | (with_reducible assumption) | assumption)
                         obtain ⟨ad963, e963, hx963_0, hx963_1, hx963_2⟩ := at_T110 HR962_2.out x7_2 p963 q963
                         cases e963
                         replace hx963_0 := (HB.out.cell (World.block_lt_of_cell? w _ hx963_0)).trans hx963_0
                         replace hx963_1 := (HB.out.cell (World.block_lt_of_cell? w _ hx963_1)).trans hx963_1
                         replace hx963_2 := (HB.out.cell (World.block_lt_of_cell? w _ hx963_2)).trans hx963_2
                         replace p963 := eq_true p963; replace q963 := eq_true q963
                         go_wp2_with (first | ((with_reducible refine gate_dst (N := 8) rfl ?_); refine box_event ?hg (N := 8) ?hd (cs := #[.int .i64 0, .int .i64 0, .string (⟨#[]⟩ : ByteArray)]) (t := 110) ?hr ?_; (case hd => rfl); (case hg => rfl); (case hr => first | (go_simp; done) | (go_simp; rfl)); intro gb964 hg w21 hbox hb; have n0_ := Aside0.mk (Kd.R_below (by (with_reducible repeat (first | apply Kd.R_alloc | apply Kd.R_drewN | apply Kd.R_drew)); exact HO_5.out) hb); have n1_ := Aside0.mk (below_step (by repeat (first | (with_reducible first | exact HB.out | apply below_alloc | apply pw_below_drewN | apply below_drew1) | exact HB.out)) hb); have n2_ := Aside0.mk (hbox); have n3_ := Aside0.mk ((by rw [hg]; exact (below_size (by repeat (first | (with_reducible first | exact HB.out | apply below_alloc | apply pw_below_drewN | apply below_drew1) | exact HB.out))) : w.heap.size ≤ gb964)); have n4_ := Aside0.mk ((by rw [hg]; exact (below_size (by repeat (first | (with_reducible first | exact HB.out | apply below_alloc | apply pw_below_drewN | apply below_drew1) | exact HB.out))) : w.heap.size ≤ gb964)); clear HO_5 HB; have HO_5 := n0_; have HB := n1_; have BK964 := n2_; have GW964 := n3_; have GE964 := n4_; clear n0_ n1_ n2_ n3_ n4_ hb hbox hg; have hcz22_0 : w21.cell? ⟨gb964, 0, none⟩ = some (.int .i64 0) := (blk_cell BK964.out 0).trans rfl; have hcz22_1 : w21.cell? ⟨gb964, 1, none⟩ = some (.int .i64 0) := (blk_cell BK964.out 1).trans rfl; have hcz22_2 : w21.cell? ⟨gb964, 2, none⟩ = some (.string (⟨#[]⟩ : ByteArray)) := (blk_cell BK964.out 2).trans rfl; have hfz22_0 := blk_frozen BK964.out 0; have hfz22_1 := blk_frozen BK964.out 1; have hfz22_2 := blk_frozen BK964.out 2) | ((with_reducible refine gate_callee (f := 130) rfl ?_); refine goesL_ (some 38) rfl rfl Try.func130 (by kernel_rfl) rfl #[.agg #[.int .i64 ((rd_T110 ((rd_T52 l0 x6_1).f2) x7_2).f0), .int .i64 ((rd_T110 ((rd_T52 l0 x6_1).f2) x7_2).f1), .string ((rd_T110 ((rd_T52 l0 x6_1).f2) x7_2).f2)]] rfl (by (try simp only [List.map_toArray, List.map_cons, List.map_nil]); first | done | rfl | (simp only [List.length_drop, List.length_take]; rfl)) ?_; (with_reducible refine (spec_InsRefs.calls ((rd_T110 ((rd_T52 l0 x6_1).f2) x7_2).f0) ((rd_T110 ((rd_T52 l0 x6_1).f2) x7_2).f1) ((rd_T110 ((rd_T52 l0 x6_1).f2) x7_2).f2) true _ A12.out).mono ?_); rintro e w23 ⟨rfl, hb⟩; refine ⟨_, rfl, ?_⟩; have n0_ := Aside0.mk (Kd.R_below (by (with_reducible repeat (first | apply Kd.R_alloc | apply Kd.R_drewN | apply Kd.R_drew)); exact (Kd.R_mono (Kd.R_far (p := ⟨gb964, 2, none⟩) (Kd.R_far (p := ⟨gb964, 1, none⟩) (Kd.R_far (p := ⟨gb964, 0, none⟩) (Kd.R_types HO_5.out BK964.out (by decide)) (fun _ hk => hk.2) (.int .i64 ((rd_T110 ((rd_T52 l0 x6_1).f2) x7_2).f0))) (fun _ hk => hk.2) (.int .i64 ((rd_T110 ((rd_T52 l0 x6_1).f2) x7_2).f1))) (fun _ hk => hk.2) (.string ((rd_T110 ((rd_T52 l0 x6_1).f2) x7_2).f2))) (fun _ h_ => h_.1))) hb); have n1_ := Aside0.mk (blk_below (g := gb964) (o := .cells #[.int .i64 ((rd_T110 ((rd_T52 l0 x6_1).f2) x7_2).f0), .int .i64 ((rd_T110 ((rd_T52 l0 x6_1).f2) x7_2).f1), .string ((rd_T110 ((rd_T52 l0 x6_1).f2) x7_2).f2)] 110 (0, 0)) (by (with_reducible repeat (first | refine blk_drewN ?_ _ | refine blk_drew ?_ | refine blk_alloc ?_ _)); refine blk_put (cs := #[.int .i64 ((rd_T110 ((rd_T52 l0 x6_1).f2) x7_2).f0), .int .i64 ((rd_T110 ((rd_T52 l0 x6_1).f2) x7_2).f1), .string (⟨#[]⟩ : ByteArray)]) ?_ 2 _ rfl; (with_reducible repeat (first | refine blk_drewN ?_ _ | refine blk_drew ?_ | refine blk_alloc ?_ _)); refine blk_put (cs := #[.int .i64 ((rd_T110 ((rd_T52 l0 x6_1).f2) x7_2).f0), .int .i64 0, .string (⟨#[]⟩ : ByteArray)]) ?_ 1 _ rfl; (with_reducible repeat (first | refine blk_drewN ?_ _ | refine blk_drew ?_ | refine blk_alloc ?_ _)); refine blk_put (cs := #[.int .i64 0, .int .i64 0, .string (⟨#[]⟩ : ByteArray)]) ?_ 0 _ rfl; (with_reducible repeat (first | refine blk_drewN ?_ _ | refine blk_drew ?_ | refine blk_alloc ?_ _)); exact BK964.out) hb); have n2_ := Aside0.mk (below_step (by repeat (first | (with_reducible first | exact HB.out | apply below_alloc | apply pw_below_drewN | apply below_drew1 | refine below_set ?_ GE964.out) | exact HB.out)) hb); clear HO_5 BK964 HB; have HO_5 := n0_; have BK964 := n1_; have HB := n2_; clear n0_ n1_ n2_; (try clear hb); (try clear hb2); (try clear hk); (try clear hi); have hcz24_0 : w23.cell? ⟨gb964, 0, none⟩ = some (.int .i64 ((rd_T110 ((rd_T52 l0 x6_1).f2) x7_2).f0)) := (blk_cell BK964.out 0).trans rfl; have hcz24_1 : w23.cell? ⟨gb964, 1, none⟩ = some (.int .i64 ((rd_T110 ((rd_T52 l0 x6_1).f2) x7_2).f1)) := (blk_cell BK964.out 1).trans rfl; have hcz24_2 : w23.cell? ⟨gb964, 2, none⟩ = some (.string ((rd_T110 ((rd_T52 l0 x6_1).f2) x7_2).f2)) := (blk_cell BK964.out 2).trans rfl; have hfz24_0 := blk_frozen BK964.out 0; have hfz24_1 := blk_frozen BK964.out 1; have hfz24_2 := blk_frozen BK964.out 2) | ((with_reducible refine gate_callee (f := 72) rfl ?_); refine goesL_ (some 44) rfl rfl Try.func72 (by kernel_rfl) rfl #[.slice (some ad961) l0.length c0, .string ((rd_T110 ((rd_T52 l0 x6_1).f2) x7_2).f2)] rfl (by (try simp only [List.map_toArray, List.map_cons, List.map_nil]); first | done | rfl | (simp only [List.length_drop, List.length_take]; rfl)) ?_; (with_reducible refine (spec_l2Find.calls k2 _ _ l0 ((rd_T110 ((rd_T52 l0 x6_1).f2) x7_2).f2) t966 _ ?side1 ?side2 A14.out).mono ?_); (case side1 => repeat (first | exact (Kd.C_below HR0.out HB.out) | (with_reducible refine Kd.C_alloc ?_ _) | (with_reducible refine Kd.C_drewN ?_ _) | (with_reducible refine Kd.C_drew ?_))); (case side2 => exact HC0.out); rintro e w' ⟨rfl, ⟨nd, rfl⟩⟩; refine ⟨_, rfl, ?_⟩; (try (rw [drewN_self w23]; generalize hq_ : World.drewN w23 _ = w23; have n0_ : Aside0 (Kd.R (Kd.int .i64) 3 w23 w.heap.size (fun _ => True) v959 x5_2) := ⟨by rw [← hq_]; exact (by (with_reducible repeat (first | apply Kd.R_alloc | apply Kd.R_drewN | apply Kd.R_drew)); exact HO_5.out)⟩; have n1_ : Aside0 (w23.heap[gb964]? = some (.cells #[.int .i64 ((rd_T110 ((rd_T52 l0 x6_1).f2) x7_2).f0), .int .i64 ((rd_T110 ((rd_T52 l0 x6_1).f2) x7_2).f1), .string ((rd_T110 ((rd_T52 l0 x6_1).f2) x7_2).f2)] 110 (0, 0))) := ⟨by rw [← hq_]; exact (by (with_reducible repeat (first | refine blk_drewN ?_ _ | refine blk_drew ?_ | refine blk_alloc ?_ _)); exact BK964.out)⟩; have n2_ : Aside0 (Below w.heap.size w w23) := ⟨by rw [← hq_]; exact (by repeat (first | (with_reducible first | exact HB.out | apply below_alloc | apply pw_below_drewN | apply below_drew1 | refine below_set ?_ GE964.out) | exact HB.out))⟩; clear HO_5 BK964 HB hq_; have HO_5 := n0_; have BK964 := n1_; have HB := n2_; clear n0_ n1_ n2_)); have p967 : 0 ≤ (t966 : Int) := of_decide_eq_true (by first | (with_reducible assumption) | assumption); have q967 : t966 < (l1.length : Int) := of_decide_eq_true (by first | (with_reducible assumption) | assumption); obtain ⟨ad967, e967, hx967_0⟩ := Kd.at_int HR1.out t966 p967 q967; cases e967; replace hx967_0 := (HB.out.cell (World.block_lt_of_cell? w _ hx967_0)).trans hx967_0; replace p967 := eq_true p967; replace q967 := eq_true q967; obtain ⟨Ao25, co25, eo25⟩ := Kd.R_slice HO_5.out; subst eo25; have p968 : 0 ≤ (x6_1 : Int) := of_decide_eq_true (by first | (with_reducible assumption) | assumption); have q968 : x6_1 < (x5_2.length : Int) := of_decide_eq_true (by first | (with_reducible assumption) | assumption); obtain ⟨ad968, e968, hx968_0⟩ := Kd.at_int (Kd.R_reads' HO_5.out).2.2 x6_1 p968 q968; cases e968; replace p968 := eq_true p968; replace q968 := eq_true q968; have hcz924_0 : w23.cell? ⟨gb964, 0, none⟩ = some (.int .i64 ((rd_T110 ((rd_T52 l0 x6_1).f2) x7_2).f0)) := (blk_cell BK964.out 0).trans rfl; have hcz924_1 : w23.cell? ⟨gb964, 1, none⟩ = some (.int .i64 ((rd_T110 ((rd_T52 l0 x6_1).f2) x7_2).f1)) := (blk_cell BK964.out 1).trans rfl; have hcz924_2 : w23.cell? ⟨gb964, 2, none⟩ = some (.string ((rd_T110 ((rd_T52 l0 x6_1).f2) x7_2).f2)) := (blk_cell BK964.out 2).trans rfl; have hfz924_0 := blk_frozen BK964.out 0; have hfz924_1 := blk_frozen BK964.out 1; have hfz924_2 := blk_frozen BK964.out 2) | ((with_reducible refine gate_callee (f := 144) rfl ?_); refine goesL_ (some 59) rfl rfl Try.func144 (by kernel_rfl) rfl #[.int .i64 (rd x5_2 x6_1), .int .i64 (wrap64 ((rd l1 t966) + 1))] rfl (by (try simp only [List.map_toArray, List.map_cons, List.map_nil]); first | done | rfl | (simp only [List.length_drop, List.length_take]; rfl)) ?_; (with_reducible refine (spec_l1Max.calls (rd x5_2 x6_1) (wrap64 ((rd l1 t966) + 1)) t969 _ A19.out).mono ?_); rintro e w' ⟨rfl, ⟨nd, rfl⟩⟩; refine ⟨_, rfl, ?_⟩; (try (rw [drewN_self w23]; generalize hq_ : World.drewN w23 _ = w23; have n0_ : Aside0 (Kd.R (Kd.int .i64) 3 w23 w.heap.size (fun _ => True) (.slice (some ad968) x5_2.length co25) x5_2) := ⟨by rw [← hq_]; exact (by (with_reducible repeat (first | apply Kd.R_alloc | apply Kd.R_drewN | apply Kd.R_drew)); exact HO_5.out)⟩; have n1_ : Aside0 (w23.heap[gb964]? = some (.cells #[.int .i64 ((rd_T110 ((rd_T52 l0 x6_1).f2) x7_2).f0), .int .i64 ((rd_T110 ((rd_T52 l0 x6_1).f2) x7_2).f1), .string ((rd_T110 ((rd_T52 l0 x6_1).f2) x7_2).f2)] 110 (0, 0))) := ⟨by rw [← hq_]; exact (by (with_reducible repeat (first | refine blk_drewN ?_ _ | refine blk_drew ?_ | refine blk_alloc ?_ _)); exact BK964.out)⟩; have n2_ : Aside0 (Below w.heap.size w w23) := ⟨by rw [← hq_]; exact (by repeat (first | (with_reducible first | exact HB.out | apply below_alloc | apply pw_below_drewN | apply below_drew1 | refine below_set ?_ GE964.out) | exact HB.out))⟩; clear HO_5 BK964 HB hq_; have HO_5 := n0_; have BK964 := n1_; have HB := n2_; clear n0_ n1_ n2_)); have p20 : 0 ≤ (x6_1 : Int) := of_decide_eq_true (by first | (with_reducible assumption) | assumption); have q20 : (x6_1 : Int) < ((x5_2.length : Int) : Int) := of_decide_eq_true (by first | (with_reducible assumption) | assumption); obtain ⟨go20, co20, eo20, gb20, gl20, cl20, HG20⟩ := Kd.R_form HO_5.out (by omega); (first | cases eo20 | (injection eo20 with ea_ en_ ec_; (first | subst ea_ | (injection ea_ with ea_; subst ea_)); subst ec_; clear en_)); have GB20 := Aside0.mk gb20; have GG20 := Aside0.mk HG20; clear gb20 gl20 HG20; (first | simp only [add_plain] at hx968_0 | skip); obtain ⟨hx20_0, hf20_0⟩ := Kd.R_celln 0 HO_5.out (x6_1 : Int) p20 q20; replace p20 := eq_true p20; replace q20 := eq_true q20; obtain ⟨hy26_, hz26_⟩ := Kd.R_celln 0 HO_5.out (x6_1 : Int) (of_decide_eq_true (by first | (with_reducible assumption) | assumption)) (of_decide_eq_true (by first | (with_reducible assumption) | assumption)); have HP26 := Kd.R_putg HO_5.out (x6_1 : Int) t969) | ((with_reducible refine gate_store (t := 3) (p := 60) rfl ?_); refine store_event (t := 3) (p := 60) (v := ?vo_w27) (w1 := (w23.setCell ⟨go20, (x6_1 : Int).toNat, none⟩ (.int .i64 t969))) ?hg ?ho ?hn ?hr ?_; (case ho => rfl); (case hg => rfl); (case hn => rfl); (case hr => first | (go_simp; done) | (go_simp; rfl) | ((try (obtain ⟨_, _, e_⟩ := Kd.R_slice HO_5.out; subst e_)); first | (go_simp; done) | (go_simp; rfl))); intro w27 hw; have hg : w23.grownBy w27 (some go20) := (by rw [hw]; exact HP26.2); have hp_ : Kd.R (Kd.int .i64) 3 w27 w.heap.size (fun _ => True) (.slice (some ⟨go20, 0, none⟩) x5_2.length co25) y970 := (by rw [hw, Ny970.out]; exact HP26.1); clear HP26; have n0_ := Aside0.mk (hp_); have n1_ := Aside0.mk (blk_grown (g := gb964) (o := .cells #[.int .i64 ((rd_T110 ((rd_T52 l0 x6_1).f2) x7_2).f0), .int .i64 ((rd_T110 ((rd_T52 l0 x6_1).f2) x7_2).f1), .string ((rd_T110 ((rd_T52 l0 x6_1).f2) x7_2).f2)] 110 (0, 0)) (by (with_reducible repeat (first | refine blk_drewN ?_ _ | refine blk_drew ?_ | refine blk_alloc ?_ _)); exact BK964.out) hg (Kd.R_ne HO_5.out BK964.out (by decide))); have n2_ := Aside0.mk ((by rw [hw]; exact below_set (HB.out) GB20.out : Below w.heap.size w w27)); clear HO_5 BK964 HB; have HO_5 := n0_; have BK964 := n1_; have HB := n2_; clear n0_ n1_ n2_ hg hw hp_))
                         go_roundg k2
                         case measure => have := HK1.out; have := HK2.out; omega
                         case rel => exact ⟨(y970), (wrap64 (x7_2 + 1)), (by first | rfl | (simp; done) | (simp [*]; done)), H', ⟨by have := HK1.out; have := HK2.out; omega⟩, ⟨by (with_reducible repeat (first | apply Kd.R_alloc | apply Kd.R_drewN | apply Kd.R_drew)); exact HO_5.out⟩, ⟨by repeat (first | (with_reducible first | exact HB.out | apply below_alloc | apply pw_below_drewN | apply below_drew1 | refine below_set ?_ GE964.out) | exact HB.out)⟩⟩
                       rw [if_neg c18] at H
                       exact absurd H (by simp)
                     rw [if_neg c17] at H
                     have c17b0 : (((rd_T110 ((rd_T52 l0 x6_1).f2) x7_2).f0) == 3) = false := beq_eq_false_iff_ne.mpr c17
                     have c17b1 : (((rd_T110 ((rd_T52 l0 x6_1).f2) x7_2).f0) != 3) = true := bne_iff_ne.mpr c17
                     by_cases c28 : x6_1 < (x5_2.length : Int)
                     · rw [if_pos c28] at H
                       have c28b0 : decide (x6_1 < (x5_2.length : Int)) = true := decide_eq_true c28
                       clear c28
                       replace H := Option.bind_eq_some_iff.mp H
                       obtain ⟨t972, A290, H⟩ := H
                       replace H : (spec_l6Deeper.l1 k2 l0 l1 (x5_2.set (x6_1 : Int).toNat t972) x6_1 (wrap64 (x7_2 + 1))) = some r := H
                       have A29 := Aside0.mk A290; clear A290
                       obtain ⟨y973, hy973⟩ : ∃ y_ : List Int, y_ = (x5_2.set (x6_1 : Int).toNat t972) := ⟨_, rfl⟩
                       replace H : (spec_l6Deeper.l1 k2 l0 l1 y973 x6_1 (wrap64 (x7_2 + 1))) = some r := by first | (rw [hy973]; with_reducible exact H) | (have H2_ := (Option.bind_some _ _).symm.trans H; rw [hy973]; with_reducible exact H2_) | (have H2_ := (Option.bind_some _ _).symm.trans H; with_reducible exact H2_) | with_reducible exact H | (rw [hy973]; exact H) | exact H
                       have Ny973 := Aside0.mk hy973; clear hy973
                       have H' := Aside0.mk H
                       clear H
                       have p961 : 0 ≤ (x6_1 : Int) := of_decide_eq_true (by first | (with_reducible assumption) | assumption)
                       have q961 : x6_1 < (l0.length : Int) := of_decide_eq_true (by first | (with_reducible assumption) | assumption)
                       obtain ⟨ad961, A961_2, c961_2, e961, hx961_0, hx961_1, hx961_2, hl961_2, hi961_2⟩ := at_T52 HR0.out x6_1 p961 q961
                       cases e961
                       replace hx961_0 := (HB.out.cell (World.block_lt_of_cell? w _ hx961_0)).trans hx961_0
                       replace hx961_1 := (HB.out.cell (World.block_lt_of_cell? w _ hx961_1)).trans hx961_1
                       replace hx961_2 := (HB.out.cell (World.block_lt_of_cell? w _ hx961_2)).trans hx961_2
                       have HR961_2 := Aside0.mk hi961_2; have HC961_2 := Aside0.mk hl961_2; clear hi961_2 hl961_2; replace p961 := eq_true p961; replace q961 := eq_true q961
                       have p962 : 0 ≤ (x6_1 : Int) := of_decide_eq_true (by first | (with_reducible assumption) | assumption)
                       have q962 : x6_1 < (l0.length : Int) := of_decide_eq_true (by first | (with_reducible assumption) | assumption)
                       obtain ⟨ad962, A962_2, c962_2, e962, hx962_0, hx962_1, hx962_2, hl962_2, hi962_2⟩ := at_T52 HR0.out x6_1 p962 q962
                       obtain rfl : ad961 = ad962 := (by injection e962)
                       replace hx962_0 := (HB.out.cell (World.block_lt_of_cell? w _ hx962_0)).trans hx962_0
                       replace hx962_1 := (HB.out.cell (World.block_lt_of_cell? w _ hx962_1)).trans hx962_1
                       replace hx962_2 := (HB.out.cell (World.block_lt_of_cell? w _ hx962_2)).trans hx962_2
                       have HR962_2 := Aside0.mk hi962_2; have HC962_2 := Aside0.mk hl962_2; clear hi962_2 hl962_2; replace p962 := eq_true p962; replace q962 := eq_true q962
                       have ea_ := Option.some.inj (hx961_2.symm.trans hx962_2)
                       injection ea_ with ea_ en_ ec_
                       subst ea_; subst ec_; clear en_
                       have p963 : 0 ≤ (x7_2 : Int) := of_decide_eq_true (by first | (with_reducible assumption) | assumption)
                       have q963 : x7_2 < (((rd_T52 l0 x6_1).f2).length : Int) := of_decide_eq_true (by first | (with_reducible assumption) | assumption)
                       obtain ⟨ad963, e963, hx963_0, hx963_1, hx963_2⟩ := at_T110 HR962_2.out x7_2 p963 q963
                       cases e963
                       replace hx963_0 := (HB.out.cell (World.block_lt_of_cell? w _ hx963_0)).trans hx963_0
                       replace hx963_1 := (HB.out.cell (World.block_lt_of_cell? w _ hx963_1)).trans hx963_1
                       replace hx963_2 := (HB.out.cell (World.block_lt_of_cell? w _ hx963_2)).trans hx963_2
                       replace p963 := eq_true p963; replace q963 := eq_true q963
                       go_wp2_with (first | ((with_reducible refine gate_dst (N := 8) rfl ?_); refine box_event ?hg (N := 8) ?hd (cs := #[.int .i64 0, .int .i64 0, .string (⟨#[]⟩ : ByteArray)]) (t := 110) ?hr ?_; (case hd => rfl); (case hg => rfl); (case hr => first | (go_simp; done) | (go_simp; rfl)); intro gb964 hg w31 hbox hb; have n0_ := Aside0.mk (Kd.R_below (by (with_reducible repeat (first | apply Kd.R_alloc | apply Kd.R_drewN | apply Kd.R_drew)); exact HO_5.out) hb); have n1_ := Aside0.mk (below_step (by repeat (first | (with_reducible first | exact HB.out | apply below_alloc | apply pw_below_drewN | apply below_drew1) | exact HB.out)) hb); have n2_ := Aside0.mk (hbox); have n3_ := Aside0.mk ((by rw [hg]; exact (below_size (by repeat (first | (with_reducible first | exact HB.out | apply below_alloc | apply pw_below_drewN | apply below_drew1) | exact HB.out))) : w.heap.size ≤ gb964)); have n4_ := Aside0.mk ((by rw [hg]; exact (below_size (by repeat (first | (with_reducible first | exact HB.out | apply below_alloc | apply pw_below_drewN | apply below_drew1) | exact HB.out))) : w.heap.size ≤ gb964)); clear HO_5 HB; have HO_5 := n0_; have HB := n1_; have BK964 := n2_; have GW964 := n3_; have GE964 := n4_; clear n0_ n1_ n2_ n3_ n4_ hb hbox hg; have hcz32_0 : w31.cell? ⟨gb964, 0, none⟩ = some (.int .i64 0) := (blk_cell BK964.out 0).trans rfl; have hcz32_1 : w31.cell? ⟨gb964, 1, none⟩ = some (.int .i64 0) := (blk_cell BK964.out 1).trans rfl; have hcz32_2 : w31.cell? ⟨gb964, 2, none⟩ = some (.string (⟨#[]⟩ : ByteArray)) := (blk_cell BK964.out 2).trans rfl; have hfz32_0 := blk_frozen BK964.out 0; have hfz32_1 := blk_frozen BK964.out 1; have hfz32_2 := blk_frozen BK964.out 2) | ((with_reducible refine gate_callee (f := 130) rfl ?_); refine goesL_ (some 38) rfl rfl Try.func130 (by kernel_rfl) rfl #[.agg #[.int .i64 ((rd_T110 ((rd_T52 l0 x6_1).f2) x7_2).f0), .int .i64 ((rd_T110 ((rd_T52 l0 x6_1).f2) x7_2).f1), .string ((rd_T110 ((rd_T52 l0 x6_1).f2) x7_2).f2)]] rfl (by (try simp only [List.map_toArray, List.map_cons, List.map_nil]); first | done | rfl | (simp only [List.length_drop, List.length_take]; rfl)) ?_; (with_reducible refine (spec_InsRefs.calls ((rd_T110 ((rd_T52 l0 x6_1).f2) x7_2).f0) ((rd_T110 ((rd_T52 l0 x6_1).f2) x7_2).f1) ((rd_T110 ((rd_T52 l0 x6_1).f2) x7_2).f2) true _ A12.out).mono ?_); rintro e w33 ⟨rfl, hb⟩; refine ⟨_, rfl, ?_⟩; have n0_ := Aside0.mk (Kd.R_below (by (with_reducible repeat (first | apply Kd.R_alloc | apply Kd.R_drewN | apply Kd.R_drew)); exact (Kd.R_mono (Kd.R_far (p := ⟨gb964, 2, none⟩) (Kd.R_far (p := ⟨gb964, 1, none⟩) (Kd.R_far (p := ⟨gb964, 0, none⟩) (Kd.R_types HO_5.out BK964.out (by decide)) (fun _ hk => hk.2) (.int .i64 ((rd_T110 ((rd_T52 l0 x6_1).f2) x7_2).f0))) (fun _ hk => hk.2) (.int .i64 ((rd_T110 ((rd_T52 l0 x6_1).f2) x7_2).f1))) (fun _ hk => hk.2) (.string ((rd_T110 ((rd_T52 l0 x6_1).f2) x7_2).f2))) (fun _ h_ => h_.1))) hb); have n1_ := Aside0.mk (blk_below (g := gb964) (o := .cells #[.int .i64 ((rd_T110 ((rd_T52 l0 x6_1).f2) x7_2).f0), .int .i64 ((rd_T110 ((rd_T52 l0 x6_1).f2) x7_2).f1), .string ((rd_T110 ((rd_T52 l0 x6_1).f2) x7_2).f2)] 110 (0, 0)) (by (with_reducible repeat (first | refine blk_drewN ?_ _ | refine blk_drew ?_ | refine blk_alloc ?_ _)); refine blk_put (cs := #[.int .i64 ((rd_T110 ((rd_T52 l0 x6_1).f2) x7_2).f0), .int .i64 ((rd_T110 ((rd_T52 l0 x6_1).f2) x7_2).f1), .string (⟨#[]⟩ : ByteArray)]) ?_ 2 _ rfl; (with_reducible repeat (first | refine blk_drewN ?_ _ | refine blk_drew ?_ | refine blk_alloc ?_ _)); refine blk_put (cs := #[.int .i64 ((rd_T110 ((rd_T52 l0 x6_1).f2) x7_2).f0), .int .i64 0, .string (⟨#[]⟩ : ByteArray)]) ?_ 1 _ rfl; (with_reducible repeat (first | refine blk_drewN ?_ _ | refine blk_drew ?_ | refine blk_alloc ?_ _)); refine blk_put (cs := #[.int .i64 0, .int .i64 0, .string (⟨#[]⟩ : ByteArray)]) ?_ 0 _ rfl; (with_reducible repeat (first | refine blk_drewN ?_ _ | refine blk_drew ?_ | refine blk_alloc ?_ _)); exact BK964.out) hb); have n2_ := Aside0.mk (below_step (by repeat (first | (with_reducible first | exact HB.out | apply below_alloc | apply pw_below_drewN | apply below_drew1 | refine below_set ?_ GE964.out) | exact HB.out)) hb); clear HO_5 BK964 HB; have HO_5 := n0_; have BK964 := n1_; have HB := n2_; clear n0_ n1_ n2_; (try clear hb); (try clear hb2); (try clear hk); (try clear hi); have hcz34_0 : w33.cell? ⟨gb964, 0, none⟩ = some (.int .i64 ((rd_T110 ((rd_T52 l0 x6_1).f2) x7_2).f0)) := (blk_cell BK964.out 0).trans rfl; have hcz34_1 : w33.cell? ⟨gb964, 1, none⟩ = some (.int .i64 ((rd_T110 ((rd_T52 l0 x6_1).f2) x7_2).f1)) := (blk_cell BK964.out 1).trans rfl; have hcz34_2 : w33.cell? ⟨gb964, 2, none⟩ = some (.string ((rd_T110 ((rd_T52 l0 x6_1).f2) x7_2).f2)) := (blk_cell BK964.out 2).trans rfl; have hfz34_0 := blk_frozen BK964.out 0; have hfz34_1 := blk_frozen BK964.out 1; have hfz34_2 := blk_frozen BK964.out 2) | ((with_reducible refine gate_callee (f := 72) rfl ?_); refine goesL_ (some 44) rfl rfl Try.func72 (by kernel_rfl) rfl #[.slice (some ad961) l0.length c0, .string ((rd_T110 ((rd_T52 l0 x6_1).f2) x7_2).f2)] rfl (by (try simp only [List.map_toArray, List.map_cons, List.map_nil]); first | done | rfl | (simp only [List.length_drop, List.length_take]; rfl)) ?_; (with_reducible refine (spec_l2Find.calls k2 _ _ l0 ((rd_T110 ((rd_T52 l0 x6_1).f2) x7_2).f2) t966 _ ?side1 ?side2 A14.out).mono ?_); (case side1 => repeat (first | exact (Kd.C_below HR0.out HB.out) | (with_reducible refine Kd.C_alloc ?_ _) | (with_reducible refine Kd.C_drewN ?_ _) | (with_reducible refine Kd.C_drew ?_))); (case side2 => exact HC0.out); rintro e w' ⟨rfl, ⟨nd, rfl⟩⟩; refine ⟨_, rfl, ?_⟩; (try (rw [drewN_self w33]; generalize hq_ : World.drewN w33 _ = w33; have n0_ : Aside0 (Kd.R (Kd.int .i64) 3 w33 w.heap.size (fun _ => True) v959 x5_2) := ⟨by rw [← hq_]; exact (by (with_reducible repeat (first | apply Kd.R_alloc | apply Kd.R_drewN | apply Kd.R_drew)); exact HO_5.out)⟩; have n1_ : Aside0 (w33.heap[gb964]? = some (.cells #[.int .i64 ((rd_T110 ((rd_T52 l0 x6_1).f2) x7_2).f0), .int .i64 ((rd_T110 ((rd_T52 l0 x6_1).f2) x7_2).f1), .string ((rd_T110 ((rd_T52 l0 x6_1).f2) x7_2).f2)] 110 (0, 0))) := ⟨by rw [← hq_]; exact (by (with_reducible repeat (first | refine blk_drewN ?_ _ | refine blk_drew ?_ | refine blk_alloc ?_ _)); exact BK964.out)⟩; have n2_ : Aside0 (Below w.heap.size w w33) := ⟨by rw [← hq_]; exact (by repeat (first | (with_reducible first | exact HB.out | apply below_alloc | apply pw_below_drewN | apply below_drew1 | refine below_set ?_ GE964.out) | exact HB.out))⟩; clear HO_5 BK964 HB hq_; have HO_5 := n0_; have BK964 := n1_; have HB := n2_; clear n0_ n1_ n2_)); have p967 : 0 ≤ (t966 : Int) := of_decide_eq_true (by first | (with_reducible assumption) | assumption); have q967 : t966 < (l1.length : Int) := of_decide_eq_true (by first | (with_reducible assumption) | assumption); obtain ⟨ad967, e967, hx967_0⟩ := Kd.at_int HR1.out t966 p967 q967; cases e967; replace hx967_0 := (HB.out.cell (World.block_lt_of_cell? w _ hx967_0)).trans hx967_0; replace p967 := eq_true p967; replace q967 := eq_true q967; obtain ⟨Ao35, co35, eo35⟩ := Kd.R_slice HO_5.out; subst eo35; have p971 : 0 ≤ (x6_1 : Int) := of_decide_eq_true (by first | (with_reducible assumption) | assumption); have q971 : x6_1 < (x5_2.length : Int) := of_decide_eq_true (by first | (with_reducible assumption) | assumption); obtain ⟨ad971, e971, hx971_0⟩ := Kd.at_int (Kd.R_reads' HO_5.out).2.2 x6_1 p971 q971; cases e971; replace p971 := eq_true p971; replace q971 := eq_true q971; have hcz934_0 : w33.cell? ⟨gb964, 0, none⟩ = some (.int .i64 ((rd_T110 ((rd_T52 l0 x6_1).f2) x7_2).f0)) := (blk_cell BK964.out 0).trans rfl; have hcz934_1 : w33.cell? ⟨gb964, 1, none⟩ = some (.int .i64 ((rd_T110 ((rd_T52 l0 x6_1).f2) x7_2).f1)) := (blk_cell BK964.out 1).trans rfl; have hcz934_2 : w33.cell? ⟨gb964, 2, none⟩ = some (.string ((rd_T110 ((rd_T52 l0 x6_1).f2) x7_2).f2)) := (blk_cell BK964.out 2).trans rfl; have hfz934_0 := blk_frozen BK964.out 0; have hfz934_1 := blk_frozen BK964.out 1; have hfz934_2 := blk_frozen BK964.out 2) | ((with_reducible refine gate_callee (f := 144) rfl ?_); refine goesL_ (some 59) rfl rfl Try.func144 (by kernel_rfl) rfl #[.int .i64 (rd x5_2 x6_1), .int .i64 (rd l1 t966)] rfl (by (try simp only [List.map_toArray, List.map_cons, List.map_nil]); first | done | rfl | (simp only [List.length_drop, List.length_take]; rfl)) ?_; (with_reducible refine (spec_l1Max.calls (rd x5_2 x6_1) (rd l1 t966) t972 _ A29.out).mono ?_); rintro e w' ⟨rfl, ⟨nd, rfl⟩⟩; refine ⟨_, rfl, ?_⟩; (try (rw [drewN_self w33]; generalize hq_ : World.drewN w33 _ = w33; have n0_ : Aside0 (Kd.R (Kd.int .i64) 3 w33 w.heap.size (fun _ => True) (.slice (some ad971) x5_2.length co35) x5_2) := ⟨by rw [← hq_]; exact (by (with_reducible repeat (first | apply Kd.R_alloc | apply Kd.R_drewN | apply Kd.R_drew)); exact HO_5.out)⟩; have n1_ : Aside0 (w33.heap[gb964]? = some (.cells #[.int .i64 ((rd_T110 ((rd_T52 l0 x6_1).f2) x7_2).f0), .int .i64 ((rd_T110 ((rd_T52 l0 x6_1).f2) x7_2).f1), .string ((rd_T110 ((rd_T52 l0 x6_1).f2) x7_2).f2)] 110 (0, 0))) := ⟨by rw [← hq_]; exact (by (with_reducible repeat (first | refine blk_drewN ?_ _ | refine blk_drew ?_ | refine blk_alloc ?_ _)); exact BK964.out)⟩; have n2_ : Aside0 (Below w.heap.size w w33) := ⟨by rw [← hq_]; exact (by repeat (first | (with_reducible first | exact HB.out | apply below_alloc | apply pw_below_drewN | apply below_drew1 | refine below_set ?_ GE964.out) | exact HB.out))⟩; clear HO_5 BK964 HB hq_; have HO_5 := n0_; have BK964 := n1_; have HB := n2_; clear n0_ n1_ n2_)); have p30 : 0 ≤ (x6_1 : Int) := of_decide_eq_true (by first | (with_reducible assumption) | assumption); have q30 : (x6_1 : Int) < ((x5_2.length : Int) : Int) := of_decide_eq_true (by first | (with_reducible assumption) | assumption); obtain ⟨go30, co30, eo30, gb30, gl30, cl30, HG30⟩ := Kd.R_form HO_5.out (by omega); (first | cases eo30 | (injection eo30 with ea_ en_ ec_; (first | subst ea_ | (injection ea_ with ea_; subst ea_)); subst ec_; clear en_)); have GB30 := Aside0.mk gb30; have GG30 := Aside0.mk HG30; clear gb30 gl30 HG30; (first | simp only [add_plain] at hx971_0 | skip); obtain ⟨hx30_0, hf30_0⟩ := Kd.R_celln 0 HO_5.out (x6_1 : Int) p30 q30; replace p30 := eq_true p30; replace q30 := eq_true q30; obtain ⟨hy36_, hz36_⟩ := Kd.R_celln 0 HO_5.out (x6_1 : Int) (of_decide_eq_true (by first | (with_reducible assumption) | assumption)) (of_decide_eq_true (by first | (with_reducible assumption) | assumption)); have HP36 := Kd.R_putg HO_5.out (x6_1 : Int) t972) | ((with_reducible refine gate_store (t := 3) (p := 60) rfl ?_); refine store_event (t := 3) (p := 60) (v := ?vo_w37) (w1 := (w33.setCell ⟨go30, (x6_1 : Int).toNat, none⟩ (.int .i64 t972))) ?hg ?ho ?hn ?hr ?_; (case ho => rfl); (case hg => rfl); (case hn => rfl); (case hr => first | (go_simp; done) | (go_simp; rfl) | ((try (obtain ⟨_, _, e_⟩ := Kd.R_slice HO_5.out; subst e_)); first | (go_simp; done) | (go_simp; rfl))); intro w37 hw; have hg : w33.grownBy w37 (some go30) := (by rw [hw]; exact HP36.2); have hp_ : Kd.R (Kd.int .i64) 3 w37 w.heap.size (fun _ => True) (.slice (some ⟨go30, 0, none⟩) x5_2.length co35) y973 := (by rw [hw, Ny973.out]; exact HP36.1); clear HP36; have n0_ := Aside0.mk (hp_); have n1_ := Aside0.mk (blk_grown (g := gb964) (o := .cells #[.int .i64 ((rd_T110 ((rd_T52 l0 x6_1).f2) x7_2).f0), .int .i64 ((rd_T110 ((rd_T52 l0 x6_1).f2) x7_2).f1), .string ((rd_T110 ((rd_T52 l0 x6_1).f2) x7_2).f2)] 110 (0, 0)) (by (with_reducible repeat (first | refine blk_drewN ?_ _ | refine blk_drew ?_ | refine blk_alloc ?_ _)); exact BK964.out) hg (Kd.R_ne HO_5.out BK964.out (by decide))); have n2_ := Aside0.mk ((by rw [hw]; exact below_set (HB.out) GB30.out : Below w.heap.size w w37)); clear HO_5 BK964 HB; have HO_5 := n0_; have BK964 := n1_; have HB := n2_; clear n0_ n1_ n2_ hg hw hp_))
                       go_roundg k2
                       case measure => have := HK1.out; have := HK2.out; omega
                       case rel => exact ⟨(y973), (wrap64 (x7_2 + 1)), (by first | rfl | (simp; done) | (simp [*]; done)), H', ⟨by have := HK1.out; have := HK2.out; omega⟩, ⟨by (with_reducible repeat (first | apply Kd.R_alloc | apply Kd.R_drewN | apply Kd.R_drew)); exact HO_5.out⟩, ⟨by repeat (first | (with_reducible first | exact HB.out | apply below_alloc | apply pw_below_drewN | apply below_drew1 | refine below_set ?_ GE964.out) | exact HB.out)⟩⟩
                     rw [if_neg c28] at H
                     exact absurd H (by simp)
                   rw [if_neg c16] at H
                   exact absurd H (by simp)
                 rw [if_neg c15] at H
                 exact absurd H (by simp)
               replace c13 := Bool.eq_false_iff.mpr c13
               subst c13
               have H1 : (spec_l6Deeper.l1 k2 l0 l1 x5_2 x6_1 (wrap64 (x7_2 + 1))) = some r := by rw [if_neg (show ¬ (false = true) by decide)] at H; exact H
               clear H
               have H := H1
               clear H1
               have H' := Aside0.mk H
               clear H
               have p961 : 0 ≤ (x6_1 : Int) := of_decide_eq_true (by first | (with_reducible assumption) | assumption)
               have q961 : x6_1 < (l0.length : Int) := of_decide_eq_true (by first | (with_reducible assumption) | assumption)
               obtain ⟨ad961, A961_2, c961_2, e961, hx961_0, hx961_1, hx961_2, hl961_2, hi961_2⟩ := at_T52 HR0.out x6_1 p961 q961
               cases e961
               replace hx961_0 := (HB.out.cell (World.block_lt_of_cell? w _ hx961_0)).trans hx961_0
               replace hx961_1 := (HB.out.cell (World.block_lt_of_cell? w _ hx961_1)).trans hx961_1
               replace hx961_2 := (HB.out.cell (World.block_lt_of_cell? w _ hx961_2)).trans hx961_2
               have HR961_2 := Aside0.mk hi961_2; have HC961_2 := Aside0.mk hl961_2; clear hi961_2 hl961_2; replace p961 := eq_true p961; replace q961 := eq_true q961
               have p962 : 0 ≤ (x6_1 : Int) := of_decide_eq_true (by first | (with_reducible assumption) | assumption)
               have q962 : x6_1 < (l0.length : Int) := of_decide_eq_true (by first | (with_reducible assumption) | assumption)
               obtain ⟨ad962, A962_2, c962_2, e962, hx962_0, hx962_1, hx962_2, hl962_2, hi962_2⟩ := at_T52 HR0.out x6_1 p962 q962
               obtain rfl : ad961 = ad962 := (by injection e962)
               replace hx962_0 := (HB.out.cell (World.block_lt_of_cell? w _ hx962_0)).trans hx962_0
               replace hx962_1 := (HB.out.cell (World.block_lt_of_cell? w _ hx962_1)).trans hx962_1
               replace hx962_2 := (HB.out.cell (World.block_lt_of_cell? w _ hx962_2)).trans hx962_2
               have HR962_2 := Aside0.mk hi962_2; have HC962_2 := Aside0.mk hl962_2; clear hi962_2 hl962_2; replace p962 := eq_true p962; replace q962 := eq_true q962
               have ea_ := Option.some.inj (hx961_2.symm.trans hx962_2)
               injection ea_ with ea_ en_ ec_
               subst ea_; subst ec_; clear en_
               have p963 : 0 ≤ (x7_2 : Int) := of_decide_eq_true (by first | (with_reducible assumption) | assumption)
               have q963 : x7_2 < (((rd_T52 l0 x6_1).f2).length : Int) := of_decide_eq_true (by first | (with_reducible assumption) | assumption)
               obtain ⟨ad963, e963, hx963_0, hx963_1, hx963_2⟩ := at_T110 HR962_2.out x7_2 p963 q963
               cases e963
               replace hx963_0 := (HB.out.cell (World.block_lt_of_cell? w _ hx963_0)).trans hx963_0
               replace hx963_1 := (HB.out.cell (World.block_lt_of_cell? w _ hx963_1)).trans hx963_1
               replace hx963_2 := (HB.out.cell (World.block_lt_of_cell? w _ hx963_2)).trans hx963_2
               replace p963 := eq_true p963; replace q963 := eq_true q963
               go_wp2_with (first | ((with_reducible refine gate_dst (N := 8) rfl ?_); refine box_event ?hg (N := 8) ?hd (cs := #[.int .i64 0, .int .i64 0, .string (⟨#[]⟩ : ByteArray)]) (t := 110) ?hr ?_; (case hd => rfl); (case hg => rfl); (case hr => first | (go_simp; done) | (go_simp; rfl)); intro gb964 hg w38 hbox hb; have n0_ := Aside0.mk (Kd.R_below (by (with_reducible repeat (first | apply Kd.R_alloc | apply Kd.R_drewN | apply Kd.R_drew)); exact HO_5.out) hb); have n1_ := Aside0.mk (below_step (by repeat (first | (with_reducible first | exact HB.out | apply below_alloc | apply pw_below_drewN | apply below_drew1) | exact HB.out)) hb); have n2_ := Aside0.mk (hbox); have n3_ := Aside0.mk ((by rw [hg]; exact (below_size (by repeat (first | (with_reducible first | exact HB.out | apply below_alloc | apply pw_below_drewN | apply below_drew1) | exact HB.out))) : w.heap.size ≤ gb964)); have n4_ := Aside0.mk ((by rw [hg]; exact (below_size (by repeat (first | (with_reducible first | exact HB.out | apply below_alloc | apply pw_below_drewN | apply below_drew1) | exact HB.out))) : w.heap.size ≤ gb964)); clear HO_5 HB; have HO_5 := n0_; have HB := n1_; have BK964 := n2_; have GW964 := n3_; have GE964 := n4_; clear n0_ n1_ n2_ n3_ n4_ hb hbox hg; have hcz39_0 : w38.cell? ⟨gb964, 0, none⟩ = some (.int .i64 0) := (blk_cell BK964.out 0).trans rfl; have hcz39_1 : w38.cell? ⟨gb964, 1, none⟩ = some (.int .i64 0) := (blk_cell BK964.out 1).trans rfl; have hcz39_2 : w38.cell? ⟨gb964, 2, none⟩ = some (.string (⟨#[]⟩ : ByteArray)) := (blk_cell BK964.out 2).trans rfl; have hfz39_0 := blk_frozen BK964.out 0; have hfz39_1 := blk_frozen BK964.out 1; have hfz39_2 := blk_frozen BK964.out 2) | ((with_reducible refine gate_callee (f := 130) rfl ?_); refine goesL_ (some 38) rfl rfl Try.func130 (by kernel_rfl) rfl #[.agg #[.int .i64 ((rd_T110 ((rd_T52 l0 x6_1).f2) x7_2).f0), .int .i64 ((rd_T110 ((rd_T52 l0 x6_1).f2) x7_2).f1), .string ((rd_T110 ((rd_T52 l0 x6_1).f2) x7_2).f2)]] rfl (by (try simp only [List.map_toArray, List.map_cons, List.map_nil]); first | done | rfl | (simp only [List.length_drop, List.length_take]; rfl)) ?_; (with_reducible refine (spec_InsRefs.calls ((rd_T110 ((rd_T52 l0 x6_1).f2) x7_2).f0) ((rd_T110 ((rd_T52 l0 x6_1).f2) x7_2).f1) ((rd_T110 ((rd_T52 l0 x6_1).f2) x7_2).f2) false _ A12.out).mono ?_); rintro e w40 ⟨rfl, hb⟩; refine ⟨_, rfl, ?_⟩; have n0_ := Aside0.mk (Kd.R_below (by (with_reducible repeat (first | apply Kd.R_alloc | apply Kd.R_drewN | apply Kd.R_drew)); exact (Kd.R_mono (Kd.R_far (p := ⟨gb964, 2, none⟩) (Kd.R_far (p := ⟨gb964, 1, none⟩) (Kd.R_far (p := ⟨gb964, 0, none⟩) (Kd.R_types HO_5.out BK964.out (by decide)) (fun _ hk => hk.2) (.int .i64 ((rd_T110 ((rd_T52 l0 x6_1).f2) x7_2).f0))) (fun _ hk => hk.2) (.int .i64 ((rd_T110 ((rd_T52 l0 x6_1).f2) x7_2).f1))) (fun _ hk => hk.2) (.string ((rd_T110 ((rd_T52 l0 x6_1).f2) x7_2).f2))) (fun _ h_ => h_.1))) hb); have n1_ := Aside0.mk (blk_below (g := gb964) (o := .cells #[.int .i64 ((rd_T110 ((rd_T52 l0 x6_1).f2) x7_2).f0), .int .i64 ((rd_T110 ((rd_T52 l0 x6_1).f2) x7_2).f1), .string ((rd_T110 ((rd_T52 l0 x6_1).f2) x7_2).f2)] 110 (0, 0)) (by (with_reducible repeat (first | refine blk_drewN ?_ _ | refine blk_drew ?_ | refine blk_alloc ?_ _)); refine blk_put (cs := #[.int .i64 ((rd_T110 ((rd_T52 l0 x6_1).f2) x7_2).f0), .int .i64 ((rd_T110 ((rd_T52 l0 x6_1).f2) x7_2).f1), .string (⟨#[]⟩ : ByteArray)]) ?_ 2 _ rfl; (with_reducible repeat (first | refine blk_drewN ?_ _ | refine blk_drew ?_ | refine blk_alloc ?_ _)); refine blk_put (cs := #[.int .i64 ((rd_T110 ((rd_T52 l0 x6_1).f2) x7_2).f0), .int .i64 0, .string (⟨#[]⟩ : ByteArray)]) ?_ 1 _ rfl; (with_reducible repeat (first | refine blk_drewN ?_ _ | refine blk_drew ?_ | refine blk_alloc ?_ _)); refine blk_put (cs := #[.int .i64 0, .int .i64 0, .string (⟨#[]⟩ : ByteArray)]) ?_ 0 _ rfl; (with_reducible repeat (first | refine blk_drewN ?_ _ | refine blk_drew ?_ | refine blk_alloc ?_ _)); exact BK964.out) hb); have n2_ := Aside0.mk (below_step (by repeat (first | (with_reducible first | exact HB.out | apply below_alloc | apply pw_below_drewN | apply below_drew1 | refine below_set ?_ GE964.out) | exact HB.out)) hb); clear HO_5 BK964 HB; have HO_5 := n0_; have BK964 := n1_; have HB := n2_; clear n0_ n1_ n2_; (try clear hb); (try clear hb2); (try clear hk); (try clear hi)))
               go_roundg k2
               case measure => have := HK1.out; have := HK2.out; omega
               case rel => exact ⟨(x5_2), (wrap64 (x7_2 + 1)), (by first | rfl | (simp; done) | (simp [*]; done)), H', ⟨by have := HK1.out; have := HK2.out; omega⟩, ⟨by (with_reducible repeat (first | apply Kd.R_alloc | apply Kd.R_drewN | apply Kd.R_drew)); exact HO_5.out⟩, ⟨by repeat (first | (with_reducible first | exact HB.out | apply below_alloc | apply pw_below_drewN | apply below_drew1 | refine below_set ?_ GE964.out) | exact HB.out)⟩⟩
             rw [if_neg c11] at H
             exact absurd H (by simp)
           rw [if_neg c10] at H
           have c10b0 : decide (x7_2 < (((rd_T52 l0 x6_1).f2).length : Int)) = false := decide_eq_false c10
           clear c10
           have H' := Aside0.mk H
           clear H
           have p961 : 0 ≤ (x6_1 : Int) := of_decide_eq_true (by first | (with_reducible assumption) | assumption)
           have q961 : x6_1 < (l0.length : Int) := of_decide_eq_true (by first | (with_reducible assumption) | assumption)
           obtain ⟨ad961, A961_2, c961_2, e961, hx961_0, hx961_1, hx961_2, hl961_2, hi961_2⟩ := at_T52 HR0.out x6_1 p961 q961
           cases e961
           replace hx961_0 := (HB.out.cell (World.block_lt_of_cell? w _ hx961_0)).trans hx961_0
           replace hx961_1 := (HB.out.cell (World.block_lt_of_cell? w _ hx961_1)).trans hx961_1
           replace hx961_2 := (HB.out.cell (World.block_lt_of_cell? w _ hx961_2)).trans hx961_2
           have HR961_2 := Aside0.mk hi961_2; have HC961_2 := Aside0.mk hl961_2; clear hi961_2 hl961_2; replace p961 := eq_true p961; replace q961 := eq_true q961
           go_wp2
           go_roundg k2
           case measure => have := HK1.out; have := HK2.out; omega
           case rel => exact ⟨(x5_2), (wrap64 (x6_1 + 1)), (by first | rfl | (simp; done) | (simp [*]; done)), H', ⟨by have := HK1.out; have := HK2.out; omega⟩, ⟨by (with_reducible repeat (first | apply Kd.R_alloc | apply Kd.R_drewN | apply Kd.R_drew)); exact HO_5.out⟩, ⟨by repeat (first | (with_reducible first | exact HB.out | apply below_alloc | apply pw_below_drewN | apply below_drew1) | exact HB.out)⟩⟩
         rw [if_neg c9] at H
         exact absurd H (by simp)
       rw [if_neg c8] at H
       exact absurd H (by simp)
     rw [if_neg c7] at H
     have c7b0 : decide (x6_1 < (l0.length : Int)) = false := decide_eq_false c7
     clear c7
     obtain rfl := Option.some.inj H
     go_wp2
     go_ret
     exact ⟨_, by first | rfl | (simp [errW_none, errW_some] <;> rfl) | (simp [*, errW_none, errW_some] <;> rfl), by (with_reducible repeat (first | apply Kd.R_alloc | apply Kd.R_drewN | apply Kd.R_drew)); exact HO_5.out, by repeat (first | (with_reducible first | exact HB.out | apply below_alloc | apply pw_below_drewN | apply below_drew1) | exact HB.out)⟩
   rw [if_neg c4] at H
   exact absurd H (by simp)
 rw [if_neg c3] at H
 exact absurd H (by simp)

/-! ### spec_l5Ints: function 91 -/
def spec_l5Ints.l0 : Nat → List Int → List Int → Int → Option (Bool)
  | 0, _, _, _ => none
  | k + 1, x0, x1, x5 => if x5 < (x0.length : Int) then (if 0 ≤ x5 then (if x5 < (x1.length : Int) then (if (rd x0 x5) = (rd x1 x5) then (spec_l5Ints.l0 k x0 x1 (wrap64 (x5 + 1))) else (some false)) else (none)) else (none)) else (some true)
def spec_l5Ints.f (k : Nat) (l0 : List Int) (l1 : List Int) : Option (Bool) := if (l0.length : Int) = (l1.length : Int) then (spec_l5Ints.l0 k l0 l1 0) else (some false)
set_option maxHeartbeats 8000000 in
set_option maxRecDepth 100000 in
theorem spec_l5Ints.calls (k : Nat) (A0 : Option Addr) (c0 : Nat) (l0 : List Int) (A1 : Option Addr) (c1 : Nat) (l1 : List Int) (r : Bool) (w : World) (hr0 : Kd.C (Kd.int .i64) w A0 l0.length l0) (hc0 : l0.length ≤ c0) (hr1 : Kd.C (Kd.int .i64) w A1 l1.length l1) (hc1 : l1.length ≤ c1) (h : spec_l5Ints.f k l0 l1 = some r) :
    Calls Try.prog 91 #[.slice A0 l0.length c0, .slice A1 l1.length c1] w fun e w' => e = .returned (.bool r) ∧ Drawn0 w w' := by
 have HR0 := Aside0.mk hr0; have HC0 := Aside0.mk hc0; clear hr0 hc0; have HR1 := Aside0.mk hr1; have HC1 := Aside0.mk hc1; clear hr1 hc1
 have H : (if (l0.length : Int) = (l1.length : Int) then (spec_l5Ints.l0 k l0 l1 0) else (some false)) = some r := h
 clear h
 by_cases c3 : (l0.length : Int) = (l1.length : Int)
 · rw [if_pos c3] at H
   have c3b0 : ((l0.length : Int) == (l1.length : Int)) = true := beq_iff_eq.mpr c3
   have c3b1 : ((l0.length : Int) != (l1.length : Int)) = false := bne_eq_false_iff_eq.mpr c3
   have c3b2 : (l0.length == l1.length) = true := by first | simpa using c3 | (simp at c3 ⊢; omega)
   clear c3
   have H' := Aside0.mk H
   clear H
   go_enter Try.func91, Try.ntmps91
   go_wp2
   repeat (go_quiet (fail); try go_wp2)
   go_loopg [5] k (fun kq v5 w' => ∃ (x5_1 : Int), v5 = .int .i64 x5_1 ∧ Aside0 (spec_l5Ints.l0 kq l0 l1 x5_1 = some r) ∧ Aside0 (kq ≤ k) ∧ Drawn0 w w')
   case atStart => exact ⟨(0), (by first | rfl | (simp; done) | (simp [*]; done)), H', ⟨Nat.le_refl _⟩, by repeat (first | exact Drawn0.refl _ | apply Drawn0.step)⟩
   clear H'
   try clear c1; try clear p2; try clear c3; try clear c3b0; try clear c3b1; try clear c3b2
   obtain ⟨x5_1, rfl, HA, HK1, ⟨m1, rfl⟩⟩ := hrel
   obtain _ | k1 := gk
   · exact absurd HA.out (by simp [spec_l5Ints.l0])
   have H := HA.out
   clear HA
   simp only [spec_l5Ints.l0] at H
   by_cases c4 : x5_1 < (l0.length : Int)
   · rw [if_pos c4] at H
     have c4b0 : decide (x5_1 < (l0.length : Int)) = true := decide_eq_true c4
     clear c4
     by_cases c5 : 0 ≤ x5_1
     · rw [if_pos c5] at H
       have c5b0 : decide (0 ≤ x5_1) = true := decide_eq_true c5
       clear c5
       by_cases c6 : x5_1 < (l1.length : Int)
       · rw [if_pos c6] at H
         have c6b0 : decide (x5_1 < (l1.length : Int)) = true := decide_eq_true c6
         clear c6
         by_cases c7 : (rd l0 x5_1) = (rd l1 x5_1)
         · rw [if_pos c7] at H
           have c7b0 : ((rd l0 x5_1) == (rd l1 x5_1)) = true := beq_iff_eq.mpr c7
           have c7b1 : ((rd l0 x5_1) != (rd l1 x5_1)) = false := bne_eq_false_iff_eq.mpr c7
           clear c7
           have H' := Aside0.mk H
           clear H
           have p974 : 0 ≤ (x5_1 : Int) := of_decide_eq_true (by first | (with_reducible assumption) | assumption)
           have q974 : x5_1 < (l0.length : Int) := of_decide_eq_true (by first | (with_reducible assumption) | assumption)
           obtain ⟨ad974, e974, hx974_0⟩ := Kd.at_int HR0.out x5_1 p974 q974
           cases e974
           replace p974 := eq_true p974; replace q974 := eq_true q974
           have p975 : 0 ≤ (x5_1 : Int) := of_decide_eq_true (by first | (with_reducible assumption) | assumption)
           have q975 : x5_1 < (l1.length : Int) := of_decide_eq_true (by first | (with_reducible assumption) | assumption)
           obtain ⟨ad975, e975, hx975_0⟩ := Kd.at_int HR1.out x5_1 p975 q975
           cases e975
           replace p975 := eq_true p975; replace q975 := eq_true q975
           go_wp2
           repeat (go_quiet (fail); try go_wp2)
           go_roundg k1
           case measure => have := HK1.out; omega
           case rel => exact ⟨(wrap64 (x5_1 + 1)), (by first | rfl | (simp; done) | (simp [*]; done)), H', ⟨by have := HK1.out; omega⟩, by repeat (first | exact Drawn0.refl _ | apply Drawn0.step)⟩
         rw [if_neg c7] at H
         have c7b0 : ((rd l0 x5_1) == (rd l1 x5_1)) = false := beq_eq_false_iff_ne.mpr c7
         have c7b1 : ((rd l0 x5_1) != (rd l1 x5_1)) = true := bne_iff_ne.mpr c7
         obtain rfl := Option.some.inj H
         have p974 : 0 ≤ (x5_1 : Int) := of_decide_eq_true (by first | (with_reducible assumption) | assumption)
         have q974 : x5_1 < (l0.length : Int) := of_decide_eq_true (by first | (with_reducible assumption) | assumption)
         obtain ⟨ad974, e974, hx974_0⟩ := Kd.at_int HR0.out x5_1 p974 q974
         cases e974
         replace p974 := eq_true p974; replace q974 := eq_true q974
         have p975 : 0 ≤ (x5_1 : Int) := of_decide_eq_true (by first | (with_reducible assumption) | assumption)
         have q975 : x5_1 < (l1.length : Int) := of_decide_eq_true (by first | (with_reducible assumption) | assumption)
         obtain ⟨ad975, e975, hx975_0⟩ := Kd.at_int HR1.out x5_1 p975 q975
         cases e975
         replace p975 := eq_true p975; replace q975 := eq_true q975
         go_wp2
         repeat (go_quiet (fail); try go_wp2)
         go_ret
         exact ⟨by first | rfl | (simp; done) | (simp [*]; done), by repeat (first | exact Drawn0.refl _ | apply Drawn0.step)⟩
       rw [if_neg c6] at H
       exact absurd H (by simp)
     rw [if_neg c5] at H
     exact absurd H (by simp)
   rw [if_neg c4] at H
   have c4b0 : decide (x5_1 < (l0.length : Int)) = false := decide_eq_false c4
   clear c4
   obtain rfl := Option.some.inj H
   go_wp2
   repeat (go_quiet (fail); try go_wp2)
   go_ret
   exact ⟨by first | rfl | (simp; done) | (simp [*]; done), by repeat (first | exact Drawn0.refl _ | apply Drawn0.step)⟩
 rw [if_neg c3] at H
 have c3b0 : ((l0.length : Int) == (l1.length : Int)) = false := beq_eq_false_iff_ne.mpr c3
 have c3b1 : ((l0.length : Int) != (l1.length : Int)) = true := bne_iff_ne.mpr c3
 have c3b2 : (l0.length == l1.length) = false := by first | simpa using c3 | (simp at c3 ⊢; omega)
 obtain rfl := Option.some.inj H
 go_enter Try.func91, Try.ntmps91
 go_wp2
 repeat (go_quiet (fail); try go_wp2)
 go_ret
 exact ⟨by first | rfl | (simp; done) | (simp [*]; done), by repeat (first | exact Drawn0.refl _ | apply Drawn0.step)⟩

/-! ### spec_GraphDeep: function 44 -/
def spec_GraphDeep.l0 : Nat → List (S52) → List Int → Int → Int → Option (Int)
  | 0, _, _, _, _ => none
  | k + 1, x0, x3, x4, x5 => if x5 < x4 then ((spec_l6Deeper.f k x0 x3).bind fun t982 => ((spec_l5Ints.f k t982 x3).bind fun t985 => (if t985 = true then (if 0 < (x3.length : Int) then (some (rd x3 0)) else (none)) else (spec_GraphDeep.l0 k x0 t982 x4 (wrap64 (x5 + 1)))))) else (if 0 < (x3.length : Int) then (if (rd x3 0) > (x0.length : Int) then (some (-1)) else (some (rd x3 0))) else (none))
def spec_GraphDeep.f (k : Nat) (l0 : List (S52)) : Option (Int) := (spec_KeepOk.f k l0).bind fun t976 => (if t976 = true then (if 0 ≤ (l0.length : Int) then (if ((l0.length : Int) : Int).toNat ≤ 35184372088832 then (spec_GraphDeep.l0 k l0 (List.replicate ((l0.length : Int) : Int).toNat 0) (wrap64 ((wrap64 ((wrap64 ((wrap64 (2 * (l0.length : Int))) * (l0.length : Int))) + (l0.length : Int))) + 2)) 0) else (none)) else (none)) else (some (-1)))
set_option maxHeartbeats 8000000 in
set_option maxRecDepth 100000 in
theorem spec_GraphDeep.calls (k : Nat) (A0 : Option Addr) (c0 : Nat) (l0 : List (S52)) (r : Int) (w : World) (hr0 : Kd.C k52 w A0 l0.length l0) (hc0 : l0.length ≤ c0) (h : spec_GraphDeep.f k l0 = some r) :
    Calls Try.prog 44 #[.slice A0 l0.length c0] w fun e w' => e = .returned (.int .i64 r) ∧ Below w.heap.size w w' := by
 have HR0 := Aside0.mk hr0; have HC0 := Aside0.mk hc0; clear hr0 hc0
 have HB := Aside0.mk (Below.refl w.heap.size w)
 have H : ((spec_KeepOk.f k l0).bind fun t976 => (if t976 = true then (if 0 ≤ (l0.length : Int) then (if ((l0.length : Int) : Int).toNat ≤ 35184372088832 then (spec_GraphDeep.l0 k l0 (List.replicate ((l0.length : Int) : Int).toNat 0) (wrap64 ((wrap64 ((wrap64 ((wrap64 (2 * (l0.length : Int))) * (l0.length : Int))) + (l0.length : Int))) + 2)) 0) else (none)) else (none)) else (some (-1)))) = some r := h
 clear h
 replace H := Option.bind_eq_some_iff.mp H
 obtain ⟨t976, A20, H⟩ := H
 replace H : (if t976 = true then (if 0 ≤ (l0.length : Int) then (if ((l0.length : Int) : Int).toNat ≤ 35184372088832 then (spec_GraphDeep.l0 k l0 (List.replicate ((l0.length : Int) : Int).toNat 0) (wrap64 ((wrap64 ((wrap64 ((wrap64 (2 * (l0.length : Int))) * (l0.length : Int))) + (l0.length : Int))) + 2)) 0) else (none)) else (none)) else (some (-1))) = some r := H
 have A2 := Aside0.mk A20; clear A20
 by_cases c3 : t976 = true
 · subst c3
   have H1 : (if 0 ≤ (l0.length : Int) then (if ((l0.length : Int) : Int).toNat ≤ 35184372088832 then (spec_GraphDeep.l0 k l0 (List.replicate ((l0.length : Int) : Int).toNat 0) (wrap64 ((wrap64 ((wrap64 ((wrap64 (2 * (l0.length : Int))) * (l0.length : Int))) + (l0.length : Int))) + 2)) 0) else (none)) else (none)) = some r := by rw [if_pos rfl] at H; exact H
   clear H
   have H := H1
   clear H1
   by_cases c4 : 0 ≤ (l0.length : Int)
   · rw [if_pos c4] at H
     have c4b0 := eq_true c4
     have c4b1 : decide (0 ≤ (l0.length : Int)) = true := decide_eq_true c4
     clear c4
     by_cases c5 : ((l0.length : Int) : Int).toNat ≤ 35184372088832
     · rw [if_pos c5] at H
       have c5b0 := eq_true c5
       have c5b1 : decide (((l0.length : Int) : Int).toNat ≤ 35184372088832) = true := decide_eq_true c5
       clear c5
       obtain ⟨y977, hy977⟩ : ∃ y_ : List Int, y_ = (List.replicate ((l0.length : Int) : Int).toNat 0) := ⟨_, rfl⟩
       replace H : (spec_GraphDeep.l0 k l0 y977 (wrap64 ((wrap64 ((wrap64 ((wrap64 (2 * (l0.length : Int))) * (l0.length : Int))) + (l0.length : Int))) + 2)) 0) = some r := by first | (rw [hy977]; with_reducible exact H) | (have H2_ := (Option.bind_some _ _).symm.trans H; rw [hy977]; with_reducible exact H2_) | (have H2_ := (Option.bind_some _ _).symm.trans H; with_reducible exact H2_) | with_reducible exact H | (rw [hy977]; exact H) | exact H
       have Ny977 := Aside0.mk hy977; clear hy977
       have H' := Aside0.mk H
       clear H
       go_enter Try.func44, Try.ntmps44
       go_wp2_with (first | ((with_reducible refine gate_callee (f := 30) rfl ?_); refine goesL_ (some 8) rfl rfl Try.func30 (by kernel_rfl) rfl #[.slice A0 l0.length c0] rfl (by (try simp only [List.map_toArray, List.map_cons, List.map_nil]); first | done | rfl | (simp only [List.length_drop, List.length_take]; rfl)) ?_; (with_reducible refine (spec_KeepOk.calls k _ _ l0 true _ ?side1 ?side2 A2.out).mono ?_); (case side1 => repeat (first | exact HR0.out | (with_reducible refine Kd.C_alloc ?_ _) | (with_reducible refine Kd.C_drewN ?_ _) | (with_reducible refine Kd.C_drew ?_))); (case side2 => exact HC0.out); rintro e w6 ⟨rfl, hb⟩; refine ⟨_, rfl, ?_⟩; have n0_ := Aside0.mk (below_step (by repeat (first | (with_reducible first | exact HB.out | apply below_alloc | apply pw_below_drewN | apply below_drew1) | exact HB.out)) hb); clear HB; have HB := n0_; clear n0_; (try clear hb); (try clear hb2); (try clear hk); (try clear hi)) | ((with_reducible refine gate_dst (N := 12) rfl ?_); refine Kd.R_make (Kd.int .i64) _ 3 rfl (N := 12) rfl 63 _ _ rfl (l0.length : Int) rfl rfl Try.underlying63 (.int .i64 0) 8 info3 rfl (by decide) (by omega) 0 (ok := fun _ => True) (okp := fun _ => True) rfl (fun _ hk => hk) trivial (of_decide_eq_true (by first | (with_reducible assumption) | assumption)) (Nat.le_trans (Nat.mul_le_mul_right _ (of_decide_eq_true (by first | (with_reducible assumption) | assumption) : (l0.length : Int).toNat ≤ 35184372088832)) (by omega)) (Below.refl _ _) (Nat.le_refl _) ?_; intro v978 w7 ho8 hb hg_ hnew_; clear hg_ hnew_; (first | rw [← Ny977.out] at ho8 | (simp only [Int.reduceToNat] at ho8; rw [← Ny977.out] at ho8)); have n0_ := Aside0.mk (Kd.R_lower ho8 (below_size (by repeat (first | (with_reducible first | exact HB.out | apply below_alloc | apply pw_below_drewN | apply below_drew1) | exact HB.out)))); have n1_ := Aside0.mk (below_step (by repeat (first | (with_reducible first | exact HB.out | apply below_alloc | apply pw_below_drewN | apply below_drew1) | exact HB.out)) hb); clear HB; have HO979 := n0_; have HB := n1_; clear n0_ n1_ hb ho8))
       go_loopg [3, 5] k (fun kq v3 v5 w' => ∃ (x3_1 : List Int) (x5_1 : Int), v5 = .int .i64 x5_1 ∧ Aside0 (spec_GraphDeep.l0 kq l0 x3_1 (wrap64 ((wrap64 ((wrap64 ((wrap64 (2 * (l0.length : Int))) * (l0.length : Int))) + (l0.length : Int))) + 2)) x5_1 = some r) ∧ Aside0 (kq ≤ k) ∧ Aside0 (Kd.R (Kd.int .i64) 3 w' w.heap.size (fun _ => True) v3 x3_1) ∧ Aside0 (Below w.heap.size w w'))
       case atStart => exact ⟨(y977), (0), (by first | rfl | (simp; done) | (simp [*]; done)), H', ⟨Nat.le_refl _⟩, ⟨by (with_reducible repeat (first | apply Kd.R_alloc | apply Kd.R_drewN | apply Kd.R_drew)); exact HO979.out⟩, ⟨by repeat (first | (with_reducible first | exact HB.out | apply below_alloc | apply pw_below_drewN | apply below_drew1) | exact HB.out)⟩⟩
       clear H'
       try clear p2; try clear c3; try clear c4; try clear c4b0; try clear c4b1; try clear c5; try clear c5b0; try clear c5b1; try clear p6
       obtain ⟨x3_1, x5_1, rfl, HA, HK1, HO_3, HB⟩ := hrel
       obtain _ | k1 := gk
       · exact absurd HA.out (by simp [spec_GraphDeep.l0])
       have H := HA.out
       clear HA
       simp only [spec_GraphDeep.l0] at H
       by_cases c9 : x5_1 < (wrap64 ((wrap64 ((wrap64 ((wrap64 (2 * (l0.length : Int))) * (l0.length : Int))) + (l0.length : Int))) + 2))
       · rw [if_pos c9] at H
         have c9b0 : decide (x5_1 < (wrap64 ((wrap64 ((wrap64 ((wrap64 (2 * (l0.length : Int))) * (l0.length : Int))) + (l0.length : Int))) + 2))) = true := decide_eq_true c9
         clear c9
         replace H := Option.bind_eq_some_iff.mp H
         obtain ⟨t982, A100, H⟩ := H
         replace H : ((spec_l5Ints.f k1 t982 x3_1).bind fun t985 => (if t985 = true then (if 0 < (x3_1.length : Int) then (some (rd x3_1 0)) else (none)) else (spec_GraphDeep.l0 k1 l0 t982 (wrap64 ((wrap64 ((wrap64 ((wrap64 (2 * (l0.length : Int))) * (l0.length : Int))) + (l0.length : Int))) + 2)) (wrap64 (x5_1 + 1))))) = some r := H
         have A10 := Aside0.mk A100; clear A100
         replace H := Option.bind_eq_some_iff.mp H
         obtain ⟨t985, A110, H⟩ := H
         replace H : (if t985 = true then (if 0 < (x3_1.length : Int) then (some (rd x3_1 0)) else (none)) else (spec_GraphDeep.l0 k1 l0 t982 (wrap64 ((wrap64 ((wrap64 ((wrap64 (2 * (l0.length : Int))) * (l0.length : Int))) + (l0.length : Int))) + 2)) (wrap64 (x5_1 + 1)))) = some r := H
         have A11 := Aside0.mk A110; clear A110
         by_cases c12 : t985 = true
         · subst c12
           have H1 : (if 0 < (x3_1.length : Int) then (some (rd x3_1 0)) else (none)) = some r := by rw [if_pos rfl] at H; exact H
           clear H
           have H := H1
           clear H1
           by_cases c13 : 0 < (x3_1.length : Int)
           · rw [if_pos c13] at H
             have c13b0 : decide (0 < (x3_1.length : Int)) = true := decide_eq_true c13
             have c13b1 : decide (0 < x3_1.length) = true := decide_eq_true (by omega)
             clear c13
             obtain rfl := Option.some.inj H
             obtain ⟨Ao14, co14, eo14⟩ := Kd.R_slice HO_3.out
             subst eo14
             go_wp2_with (first | ((with_reducible refine gate_callee (f := 90) rfl ?_); refine goesL_ (some 30) rfl rfl Try.func90 (by kernel_rfl) rfl #[.slice A0 l0.length c0, .slice Ao14 x3_1.length co14] rfl (by (try simp only [List.map_toArray, List.map_cons, List.map_nil]); first | done | rfl | (simp only [List.length_drop, List.length_take]; rfl)) ?_; (with_reducible refine (spec_l6Deeper.calls k1 _ _ l0 _ _ x3_1 t982 _ ?side1 ?side2 ?side3 ?side4 A10.out).mono ?_); (case side1 => repeat (first | exact (Kd.C_below HR0.out HB.out) | (with_reducible refine Kd.C_alloc ?_ _) | (with_reducible refine Kd.C_drewN ?_ _) | (with_reducible refine Kd.C_drew ?_))); (case side2 => exact HC0.out); (case side3 => repeat (first | exact (Kd.R_reads' HO_3.out).2.2 | (with_reducible refine Kd.C_alloc ?_ _) | (with_reducible refine Kd.C_drewN ?_ _) | (with_reducible refine Kd.C_drew ?_))); (case side4 => exact (Kd.R_reads' HO_3.out).2.1); rintro e w15 ⟨v983, rfl, ho0, hb⟩; refine ⟨_, rfl, ?_⟩; have n0_ := Aside0.mk (Kd.R_elder' (by (with_reducible repeat (first | apply Kd.R_alloc | apply Kd.R_drewN | apply Kd.R_drew)); exact HO_3.out) (Kd.R_base ho0) hb); have n1_ := Aside0.mk (Kd.R_lower (Kd.R_new' ho0 (Kd.R_lt (by (with_reducible repeat (first | apply Kd.R_alloc | apply Kd.R_drewN | apply Kd.R_drew)); exact HO_3.out))) (below_size (by repeat (first | (with_reducible first | exact HB.out | apply below_alloc | apply pw_below_drewN | apply below_drew1) | exact HB.out)))); have n2_ := Aside0.mk (below_step (by repeat (first | (with_reducible first | exact HB.out | apply below_alloc | apply pw_below_drewN | apply below_drew1) | exact HB.out)) hb); clear HO_3 HB; have HO_3 := n0_; have HO984 := n1_; have HB := n2_; clear n0_ n1_ n2_; (try clear hb); (try clear hb2); (try clear hk); (try clear hi); (try clear ho0); obtain ⟨Ao16, co16, eo16⟩ := Kd.R_slice HO984.out; subst eo16) | ((with_reducible refine gate_callee (f := 91) rfl ?_); refine goesL_ (some 33) rfl rfl Try.func91 (by kernel_rfl) rfl #[.slice Ao16 t982.length co16, .slice Ao14 x3_1.length co14] rfl (by (try simp only [List.map_toArray, List.map_cons, List.map_nil]); first | done | rfl | (simp only [List.length_drop, List.length_take]; rfl)) ?_; (with_reducible refine (spec_l5Ints.calls k1 _ _ t982 _ _ x3_1 true _ ?side1 ?side2 ?side3 ?side4 A11.out).mono ?_); (case side1 => repeat (first | exact (Kd.R_reads' HO984.out).2.2 | (with_reducible refine Kd.C_alloc ?_ _) | (with_reducible refine Kd.C_drewN ?_ _) | (with_reducible refine Kd.C_drew ?_))); (case side2 => exact (Kd.R_reads' HO984.out).2.1); (case side3 => repeat (first | exact (Kd.R_reads' HO_3.out).2.2 | (with_reducible refine Kd.C_alloc ?_ _) | (with_reducible refine Kd.C_drewN ?_ _) | (with_reducible refine Kd.C_drew ?_))); (case side4 => exact (Kd.R_reads' HO_3.out).2.1); rintro e w' ⟨rfl, ⟨nd, rfl⟩⟩; refine ⟨_, rfl, ?_⟩; have p986 : 0 ≤ (0 : Int) := (by omega); have q986 : 0 < (x3_1.length : Int) := of_decide_eq_true (by first | (with_reducible assumption) | assumption); obtain ⟨ad986, e986, hx986_0⟩ := Kd.at_int (Kd.R_reads' HO_3.out).2.2 0 p986 q986; cases e986; have qi986 : (0 < x3_1.length) = True := eq_true (by omega); (try rw [show ((0 : Int)).toNat = 0 from rfl] at hx986_0); (try rw [Addr.add_zero'] at hx986_0); replace p986 := eq_true p986; replace q986 := eq_true q986))
             go_ret
             exact ⟨by first | rfl | (simp [errW_none, errW_some] <;> rfl) | (simp [*, errW_none, errW_some] <;> rfl), by repeat (first | (with_reducible first | exact HB.out | apply below_alloc | apply pw_below_drewN | apply below_drew1) | exact HB.out)⟩
           rw [if_neg c13] at H
           exact absurd H (by simp)
         replace c12 := Bool.eq_false_iff.mpr c12
         subst c12
         have H1 : (spec_GraphDeep.l0 k1 l0 t982 (wrap64 ((wrap64 ((wrap64 ((wrap64 (2 * (l0.length : Int))) * (l0.length : Int))) + (l0.length : Int))) + 2)) (wrap64 (x5_1 + 1))) = some r := by rw [if_neg (show ¬ (false = true) by decide)] at H; exact H
         clear H
         have H := H1
         clear H1
         have H' := Aside0.mk H
         clear H
         obtain ⟨Ao17, co17, eo17⟩ := Kd.R_slice HO_3.out
         subst eo17
         go_wp2_with (first | ((with_reducible refine gate_callee (f := 90) rfl ?_); refine goesL_ (some 30) rfl rfl Try.func90 (by kernel_rfl) rfl #[.slice A0 l0.length c0, .slice Ao17 x3_1.length co17] rfl (by (try simp only [List.map_toArray, List.map_cons, List.map_nil]); first | done | rfl | (simp only [List.length_drop, List.length_take]; rfl)) ?_; (with_reducible refine (spec_l6Deeper.calls k1 _ _ l0 _ _ x3_1 t982 _ ?side1 ?side2 ?side3 ?side4 A10.out).mono ?_); (case side1 => repeat (first | exact (Kd.C_below HR0.out HB.out) | (with_reducible refine Kd.C_alloc ?_ _) | (with_reducible refine Kd.C_drewN ?_ _) | (with_reducible refine Kd.C_drew ?_))); (case side2 => exact HC0.out); (case side3 => repeat (first | exact (Kd.R_reads' HO_3.out).2.2 | (with_reducible refine Kd.C_alloc ?_ _) | (with_reducible refine Kd.C_drewN ?_ _) | (with_reducible refine Kd.C_drew ?_))); (case side4 => exact (Kd.R_reads' HO_3.out).2.1); rintro e w18 ⟨v983, rfl, ho0, hb⟩; refine ⟨_, rfl, ?_⟩; have n0_ := Aside0.mk (Kd.R_elder' (by (with_reducible repeat (first | apply Kd.R_alloc | apply Kd.R_drewN | apply Kd.R_drew)); exact HO_3.out) (Kd.R_base ho0) hb); have n1_ := Aside0.mk (Kd.R_lower (Kd.R_new' ho0 (Kd.R_lt (by (with_reducible repeat (first | apply Kd.R_alloc | apply Kd.R_drewN | apply Kd.R_drew)); exact HO_3.out))) (below_size (by repeat (first | (with_reducible first | exact HB.out | apply below_alloc | apply pw_below_drewN | apply below_drew1) | exact HB.out)))); have n2_ := Aside0.mk (below_step (by repeat (first | (with_reducible first | exact HB.out | apply below_alloc | apply pw_below_drewN | apply below_drew1) | exact HB.out)) hb); clear HO_3 HB; have HO_3 := n0_; have HO984 := n1_; have HB := n2_; clear n0_ n1_ n2_; (try clear hb); (try clear hb2); (try clear hk); (try clear hi); (try clear ho0); obtain ⟨Ao19, co19, eo19⟩ := Kd.R_slice HO984.out; subst eo19) | ((with_reducible refine gate_callee (f := 91) rfl ?_); refine goesL_ (some 33) rfl rfl Try.func91 (by kernel_rfl) rfl #[.slice Ao19 t982.length co19, .slice Ao17 x3_1.length co17] rfl (by (try simp only [List.map_toArray, List.map_cons, List.map_nil]); first | done | rfl | (simp only [List.length_drop, List.length_take]; rfl)) ?_; (with_reducible refine (spec_l5Ints.calls k1 _ _ t982 _ _ x3_1 false _ ?side1 ?side2 ?side3 ?side4 A11.out).mono ?_); (case side1 => repeat (first | exact (Kd.R_reads' HO984.out).2.2 | (with_reducible refine Kd.C_alloc ?_ _) | (with_reducible refine Kd.C_drewN ?_ _) | (with_reducible refine Kd.C_drew ?_))); (case side2 => exact (Kd.R_reads' HO984.out).2.1); (case side3 => repeat (first | exact (Kd.R_reads' HO_3.out).2.2 | (with_reducible refine Kd.C_alloc ?_ _) | (with_reducible refine Kd.C_drewN ?_ _) | (with_reducible refine Kd.C_drew ?_))); (case side4 => exact (Kd.R_reads' HO_3.out).2.1); rintro e w' ⟨rfl, ⟨nd, rfl⟩⟩; refine ⟨_, rfl, ?_⟩))
         go_roundg k1
         case measure => have := HK1.out; omega
         case rel => exact ⟨(t982), (wrap64 (x5_1 + 1)), (by first | rfl | (simp; done) | (simp [*]; done)), H', ⟨by have := HK1.out; omega⟩, ⟨by (with_reducible repeat (first | apply Kd.R_alloc | apply Kd.R_drewN | apply Kd.R_drew)); exact Kd.R_mono HO984.out (fun _ hk => trivial)⟩, ⟨by repeat (first | (with_reducible first | exact HB.out | apply below_alloc | apply pw_below_drewN | apply below_drew1) | exact HB.out)⟩⟩
       rw [if_neg c9] at H
       have c9b0 : decide (x5_1 < (wrap64 ((wrap64 ((wrap64 ((wrap64 (2 * (l0.length : Int))) * (l0.length : Int))) + (l0.length : Int))) + 2))) = false := decide_eq_false c9
       clear c9
       by_cases c20 : 0 < (x3_1.length : Int)
       · rw [if_pos c20] at H
         have c20b0 : decide (0 < (x3_1.length : Int)) = true := decide_eq_true c20
         have c20b1 : decide (0 < x3_1.length) = true := decide_eq_true (by omega)
         clear c20
         by_cases c21 : (rd x3_1 0) > (l0.length : Int)
         · rw [if_pos c21] at H
           have c21b0 : decide ((l0.length : Int) < (rd x3_1 0)) = true := decide_eq_true c21
           clear c21
           obtain rfl := Option.some.inj H
           obtain ⟨Ao22, co22, eo22⟩ := Kd.R_slice HO_3.out
           subst eo22
           have p980 : 0 ≤ (0 : Int) := (by omega)
           have q980 : 0 < (x3_1.length : Int) := of_decide_eq_true (by first | (with_reducible assumption) | assumption)
           obtain ⟨ad980, e980, hx980_0⟩ := Kd.at_int (Kd.R_reads' HO_3.out).2.2 0 p980 q980
           cases e980
           have qi980 : (0 < x3_1.length) = True := eq_true (by omega)
           (try rw [show ((0 : Int)).toNat = 0 from rfl] at hx980_0)
           (try rw [Addr.add_zero'] at hx980_0)
           replace p980 := eq_true p980; replace q980 := eq_true q980
           go_wp2
           go_ret
           exact ⟨by first | rfl | (simp [errW_none, errW_some] <;> rfl) | (simp [*, errW_none, errW_some] <;> rfl), by repeat (first | (with_reducible first | exact HB.out | apply below_alloc | apply pw_below_drewN | apply below_drew1) | exact HB.out)⟩
         rw [if_neg c21] at H
         have c21b0 : decide ((l0.length : Int) < (rd x3_1 0)) = false := decide_eq_false c21
         clear c21
         obtain rfl := Option.some.inj H
         obtain ⟨Ao23, co23, eo23⟩ := Kd.R_slice HO_3.out
         subst eo23
         have p980 : 0 ≤ (0 : Int) := (by omega)
         have q980 : 0 < (x3_1.length : Int) := of_decide_eq_true (by first | (with_reducible assumption) | assumption)
         obtain ⟨ad980, e980, hx980_0⟩ := Kd.at_int (Kd.R_reads' HO_3.out).2.2 0 p980 q980
         cases e980
         have qi980 : (0 < x3_1.length) = True := eq_true (by omega)
         (try rw [show ((0 : Int)).toNat = 0 from rfl] at hx980_0)
         (try rw [Addr.add_zero'] at hx980_0)
         replace p980 := eq_true p980; replace q980 := eq_true q980
         have p981 : 0 ≤ (0 : Int) := (by omega)
         have q981 : 0 < (x3_1.length : Int) := of_decide_eq_true (by first | (with_reducible assumption) | assumption)
         obtain ⟨ad981, e981, hx981_0⟩ := Kd.at_int (Kd.R_reads' HO_3.out).2.2 0 p981 q981
         obtain rfl : ad980 = ad981 := (by injection e981)
         have qi981 : (0 < x3_1.length) = True := eq_true (by omega)
         (try rw [show ((0 : Int)).toNat = 0 from rfl] at hx981_0)
         (try rw [Addr.add_zero'] at hx981_0)
         replace p981 := eq_true p981; replace q981 := eq_true q981
         go_wp2
         go_ret
         exact ⟨by first | rfl | (simp [errW_none, errW_some] <;> rfl) | (simp [*, errW_none, errW_some] <;> rfl), by repeat (first | (with_reducible first | exact HB.out | apply below_alloc | apply pw_below_drewN | apply below_drew1) | exact HB.out)⟩
       rw [if_neg c20] at H
       exact absurd H (by simp)
     rw [if_neg c5] at H
     exact absurd H (by simp)
   rw [if_neg c4] at H
   exact absurd H (by simp)
 replace c3 := Bool.eq_false_iff.mpr c3
 subst c3
 have H1 : (some (-1)) = some r := by rw [if_neg (show ¬ (false = true) by decide)] at H; exact H
 clear H
 have H := H1
 clear H1
 obtain rfl := Option.some.inj H
 go_enter Try.func44, Try.ntmps44
 go_wp2_with (first | ((with_reducible refine gate_callee (f := 30) rfl ?_); refine goesL_ (some 8) rfl rfl Try.func30 (by kernel_rfl) rfl #[.slice A0 l0.length c0] rfl (by (try simp only [List.map_toArray, List.map_cons, List.map_nil]); first | done | rfl | (simp only [List.length_drop, List.length_take]; rfl)) ?_; (with_reducible refine (spec_KeepOk.calls k _ _ l0 false _ ?side1 ?side2 A2.out).mono ?_); (case side1 => repeat (first | exact HR0.out | (with_reducible refine Kd.C_alloc ?_ _) | (with_reducible refine Kd.C_drewN ?_ _) | (with_reducible refine Kd.C_drew ?_))); (case side2 => exact HC0.out); rintro e w24 ⟨rfl, hb⟩; refine ⟨_, rfl, ?_⟩; have n0_ := Aside0.mk (below_step (by repeat (first | (with_reducible first | exact HB.out | apply below_alloc | apply pw_below_drewN | apply below_drew1) | exact HB.out)) hb); clear HB; have HB := n0_; clear n0_; (try clear hb); (try clear hb2); (try clear hk); (try clear hi)))
 go_ret
 exact ⟨by first | rfl | (simp [errW_none, errW_some] <;> rfl) | (simp [*, errW_none, errW_some] <;> rfl), by repeat (first | (with_reducible first | exact HB.out | apply below_alloc | apply pw_below_drewN | apply below_drew1) | exact HB.out)⟩

end Go.Proofs.Ytppmalfpggkpdaa.P

-- made by printx.py (own driver over the kit's print); Lean checks it
namespace Go.Proofs.Ytppmalfpggkpdaa.P
open Go.RowKit Go.Proofs.YtppmalfpggkpdaaW.PrintWords Go.Proofs.YtppmalfpggkpdaaW.PrintLast Go.Proofs.YtppmalfpggkpdaaW.PrintMore
attribute [local go_sem] max2_int min2_int max_two min_two max_three min_three max_four min_four   -- for this text's walks alone
set_option linter.unusedVariables false
set_option linter.unusedSimpArgs false

/-! ### laws_FnExactGraphDeep: function 10 -/
mutual
def laws_FnExactGraphDeep.j0 : Nat → List (S95) → Option (Bool)
  | 0, _ => none
  | k + 1, x0 => (laws_toFunS.f k x0).bind fun t1007 => ((spec_GraphDeep.f k t1007).bind fun t1010 => ((laws_toFunS.f k x0).bind fun t1011 => ((impl_GraphDeep.f k t1011).bind fun t1014 => (if t1014 = t1010 then (laws_FnExactGraphDeep.j1 k x0 t1011) else (some false)))))
def laws_FnExactGraphDeep.j1 : Nat → List (S95) → List (S52) → Option (Bool)
  | 0, _, _ => none
  | k + 1, x0, x5 => (laws_toFunS.f k x0).bind fun t1015 => ((laws_eqFunS.f k x5 t1015).bind fun t1018 => (if t1018 = true then (some true) else (some false)))
end
def laws_FnExactGraphDeep.f (k : Nat) (l0 : List (S95)) : Option (Bool) := (laws_szFunS.f k l0 1048576).bind fun t1006 => (if t1006 < 0 then (some true) else (laws_FnExactGraphDeep.j0 k l0))
set_option maxHeartbeats 8000000 in
set_option maxRecDepth 100000 in
theorem laws_FnExactGraphDeep.calls (k : Nat) (A0 : Option Addr) (c0 : Nat) (l0 : List (S95)) (r : Bool) (w : World) (hr0 : Kd.C k95 w A0 l0.length l0) (hc0 : l0.length ≤ c0) (h : laws_FnExactGraphDeep.f k l0 = some r) :
    Calls Try.prog 10 #[.slice A0 l0.length c0] w fun e w' => e = .returned (.bool r) ∧ Below w.heap.size w w' := by
 have HR0 := Aside0.mk hr0; have HC0 := Aside0.mk hc0; clear hr0 hc0
 have HB := Aside0.mk (Below.refl w.heap.size w)
 have H : ((laws_szFunS.f k l0 1048576).bind fun t1006 => (if t1006 < 0 then (some true) else (laws_FnExactGraphDeep.j0 k l0))) = some r := h
 clear h
 replace H := Option.bind_eq_some_iff.mp H
 obtain ⟨t1006, A20, H⟩ := H
 replace H : (if t1006 < 0 then (some true) else (laws_FnExactGraphDeep.j0 k l0)) = some r := H
 have A2 := Aside0.mk A20; clear A20; have HC3 := Aside0.mk H; clear H
 go_enter Try.func10, Try.ntmps10
 go_upto_if 11 with (first | ((with_reducible refine gate_callee (f := 29) rfl ?_); refine goesL_ (some 9) rfl rfl Try.func29 (by kernel_rfl) rfl #[.slice A0 l0.length c0, .int .i64 1048576] rfl (by (try simp only [List.map_toArray, List.map_cons, List.map_nil]); first | done | rfl | (simp only [List.length_drop, List.length_take]; rfl)) ?_; (with_reducible refine (laws_szFunS.calls k _ _ l0 1048576 t1006 _ ?side1 ?side2 A2.out).mono ?_); (case side1 => repeat (first | exact HR0.out | (with_reducible refine Kd.C_alloc ?_ _) | (with_reducible refine Kd.C_drewN ?_ _) | (with_reducible refine Kd.C_drew ?_))); (case side2 => exact HC0.out); rintro e w4 ⟨rfl, hb⟩; refine ⟨_, rfl, ?_⟩; have n0_ := Aside0.mk (below_step (by repeat (first | (with_reducible first | exact HB.out | apply below_alloc | apply pw_below_drewN | apply below_drew1) | exact HB.out)) hb); clear HB; have HB := n0_; clear n0_; (try clear hb); (try clear hb2); (try clear hk); (try clear hi)))
 (try simp only [Act.put, List.setIfInBounds_toArray, List.set_cons_zero, List.set_cons_succ])
 go_cut [] (fun wc => ∃ (kq : Nat), Aside0 (laws_FnExactGraphDeep.j0 kq l0 = some r) ∧ Aside0 (kq ≤ k) ∧ Aside0 (Below w.heap.size w wc))
 case first =>
  have H := HC3.out
  clear HC3
  by_cases c5 : t1006 < 0
  · rw [if_pos c5] at H
    have c5b0 : decide (t1006 < 0) = true := decide_eq_true c5
    clear c5
    (first | rw [c5b0] | (simp only [i64_w, i32_w]; rw [c5b0]) | (have cn_ := c5b0; simp only [bne] at cn_; rw [cn_]; clear cn_) | skip)
    obtain rfl := Option.some.inj H
    go_wp2
    go_ret
    exact ⟨by first | rfl | (simp [errW_none, errW_some] <;> rfl) | (simp [*, errW_none, errW_some] <;> rfl), by repeat (first | (with_reducible first | exact HB.out | apply below_alloc | apply pw_below_drewN | apply below_drew1) | exact HB.out)⟩
  rw [if_neg c5] at H
  have c5b0 : decide (t1006 < 0) = false := decide_eq_false c5
  clear c5
  (first | rw [c5b0] | (simp only [i64_w, i32_w]; rw [c5b0]) | (have cn_ := c5b0; simp only [bne] at cn_; rw [cn_]; clear cn_) | skip)
  have H' := Aside0.mk H
  clear H
  go_wp2
  go_meet
  case rel => exact ⟨_, H', ⟨by first | omega | exact Nat.le_refl _⟩, ⟨by repeat (first | (with_reducible first | exact HB.out | apply below_alloc | apply pw_below_drewN | apply below_drew1) | exact HB.out)⟩⟩
 clear HC3; try clear c1; try clear c2; try clear p2; try clear c5; try clear c5b0
 obtain ⟨kq, HA, HJ2, HB⟩ := hcut
 obtain _ | kj2 := kq
 · exact absurd HA.out (by simp [laws_FnExactGraphDeep.j0])
 have H := HA.out
 clear HA
 simp only [laws_FnExactGraphDeep.j0] at H
 replace H := Option.bind_eq_some_iff.mp H
 obtain ⟨t1007, A60, H⟩ := H
 replace H : ((spec_GraphDeep.f kj2 t1007).bind fun t1010 => ((laws_toFunS.f kj2 l0).bind fun t1011 => ((impl_GraphDeep.f kj2 t1011).bind fun t1014 => (if t1014 = t1010 then (laws_FnExactGraphDeep.j1 kj2 l0 t1011) else (some false))))) = some r := H
 have A6 := Aside0.mk A60; clear A60
 replace H := Option.bind_eq_some_iff.mp H
 obtain ⟨t1010, A70, H⟩ := H
 replace H : ((laws_toFunS.f kj2 l0).bind fun t1011 => ((impl_GraphDeep.f kj2 t1011).bind fun t1014 => (if t1014 = t1010 then (laws_FnExactGraphDeep.j1 kj2 l0 t1011) else (some false)))) = some r := H
 have A7 := Aside0.mk A70; clear A70
 replace H := Option.bind_eq_some_iff.mp H
 obtain ⟨t1011, A80, H⟩ := H
 replace H : ((impl_GraphDeep.f kj2 t1011).bind fun t1014 => (if t1014 = t1010 then (laws_FnExactGraphDeep.j1 kj2 l0 t1011) else (some false))) = some r := H
 have A8 := Aside0.mk A80; clear A80
 replace H := Option.bind_eq_some_iff.mp H
 obtain ⟨t1014, A90, H⟩ := H
 replace H : (if t1014 = t1010 then (laws_FnExactGraphDeep.j1 kj2 l0 t1011) else (some false)) = some r := H
 have A9 := Aside0.mk A90; clear A90; have HC10 := Aside0.mk H; clear H
 go_upto_if 21 with (first | ((with_reducible refine gate_callee (f := 31) rfl ?_); refine goesL_ (some 13) rfl rfl Try.func31 (by kernel_rfl) rfl #[.slice A0 l0.length c0] rfl (by (try simp only [List.map_toArray, List.map_cons, List.map_nil]); first | done | rfl | (simp only [List.length_drop, List.length_take]; rfl)) ?_; (with_reducible refine (laws_toFunS.calls kj2 _ _ l0 t1007 _ ?side1 ?side2 A6.out).mono ?_); (case side1 => repeat (first | exact (Kd.C_below HR0.out HB.out) | (with_reducible refine Kd.C_alloc ?_ _) | (with_reducible refine Kd.C_drewN ?_ _) | (with_reducible refine Kd.C_drew ?_))); (case side2 => exact HC0.out); rintro e w11 ⟨v1008, rfl, ho0, hb⟩; refine ⟨_, rfl, ?_⟩; have n0_ := Aside0.mk (Kd.R_lower ho0 (below_size (by repeat (first | (with_reducible first | exact HB.out | apply below_alloc | apply pw_below_drewN | apply below_drew1) | exact HB.out)))); have n1_ := Aside0.mk (below_step (by repeat (first | (with_reducible first | exact HB.out | apply below_alloc | apply pw_below_drewN | apply below_drew1) | exact HB.out)) hb); clear HB; have HO1009 := n0_; have HB := n1_; clear n0_ n1_; (try clear hb); (try clear hb2); (try clear hk); (try clear hi); (try clear ho0); obtain ⟨Ao12, co12, eo12⟩ := Kd.R_slice HO1009.out; subst eo12) | ((with_reducible refine gate_callee (f := 44) rfl ?_); refine goesL_ (some 14) rfl rfl Try.func44 (by kernel_rfl) rfl #[.slice Ao12 t1007.length co12] rfl (by (try simp only [List.map_toArray, List.map_cons, List.map_nil]); first | done | rfl | (simp only [List.length_drop, List.length_take]; rfl)) ?_; (with_reducible refine (spec_GraphDeep.calls kj2 _ _ t1007 t1010 _ ?side1 ?side2 A7.out).mono ?_); (case side1 => repeat (first | exact (Kd.R_reads' HO1009.out).2.2 | (with_reducible refine Kd.C_alloc ?_ _) | (with_reducible refine Kd.C_drewN ?_ _) | (with_reducible refine Kd.C_drew ?_))); (case side2 => exact (Kd.R_reads' HO1009.out).2.1); rintro e w13 ⟨rfl, hb⟩; refine ⟨_, rfl, ?_⟩; have n0_ := Aside0.mk (Kd.R_below (by (with_reducible repeat (first | apply Kd.R_alloc | apply Kd.R_drewN | apply Kd.R_drew)); exact HO1009.out) hb); have n1_ := Aside0.mk (below_step (by repeat (first | (with_reducible first | exact HB.out | apply below_alloc | apply pw_below_drewN | apply below_drew1) | exact HB.out)) hb); clear HO1009 HB; have HO1009 := n0_; have HB := n1_; clear n0_ n1_; (try clear hb); (try clear hb2); (try clear hk); (try clear hi)) | ((with_reducible refine gate_callee (f := 31) rfl ?_); refine goesL_ (some 16) rfl rfl Try.func31 (by kernel_rfl) rfl #[.slice A0 l0.length c0] rfl (by (try simp only [List.map_toArray, List.map_cons, List.map_nil]); first | done | rfl | (simp only [List.length_drop, List.length_take]; rfl)) ?_; (with_reducible refine (laws_toFunS.calls kj2 _ _ l0 t1011 _ ?side1 ?side2 A8.out).mono ?_); (case side1 => repeat (first | exact (Kd.C_below HR0.out HB.out) | (with_reducible refine Kd.C_alloc ?_ _) | (with_reducible refine Kd.C_drewN ?_ _) | (with_reducible refine Kd.C_drew ?_))); (case side2 => exact HC0.out); rintro e w14 ⟨v1012, rfl, ho0, hb⟩; refine ⟨_, rfl, ?_⟩; have n0_ := Aside0.mk (Kd.R_elder' (by (with_reducible repeat (first | apply Kd.R_alloc | apply Kd.R_drewN | apply Kd.R_drew)); exact HO1009.out) (Kd.R_base ho0) hb); have n1_ := Aside0.mk (Kd.R_lower (Kd.R_new' ho0 (Kd.R_lt (by (with_reducible repeat (first | apply Kd.R_alloc | apply Kd.R_drewN | apply Kd.R_drew)); exact HO1009.out))) (below_size (by repeat (first | (with_reducible first | exact HB.out | apply below_alloc | apply pw_below_drewN | apply below_drew1) | exact HB.out)))); have n2_ := Aside0.mk (below_step (by repeat (first | (with_reducible first | exact HB.out | apply below_alloc | apply pw_below_drewN | apply below_drew1) | exact HB.out)) hb); clear HO1009 HB; have HO1009 := n0_; have HO1013 := n1_; have HB := n2_; clear n0_ n1_ n2_; (try clear hb); (try clear hb2); (try clear hk); (try clear hi); (try clear ho0); obtain ⟨Ao15, co15, eo15⟩ := Kd.R_slice HO1013.out; subst eo15) | ((with_reducible refine gate_callee (f := 45) rfl ?_); refine goesL_ (some 18) rfl rfl Try.func45 (by kernel_rfl) rfl #[.slice Ao15 t1011.length co15] rfl (by (try simp only [List.map_toArray, List.map_cons, List.map_nil]); first | done | rfl | (simp only [List.length_drop, List.length_take]; rfl)) ?_; (with_reducible refine (impl_GraphDeep.calls kj2 _ _ t1011 t1014 _ ?side1 ?side2 A9.out).mono ?_); (case side1 => repeat (first | exact (Kd.R_reads' HO1013.out).2.2 | (with_reducible refine Kd.C_alloc ?_ _) | (with_reducible refine Kd.C_drewN ?_ _) | (with_reducible refine Kd.C_drew ?_))); (case side2 => exact (Kd.R_reads' HO1013.out).2.1); rintro e w16 ⟨rfl, hb⟩; refine ⟨_, rfl, ?_⟩; have n0_ := Aside0.mk (Kd.R_below (by (with_reducible repeat (first | apply Kd.R_alloc | apply Kd.R_drewN | apply Kd.R_drew)); exact HO1009.out) hb); have n1_ := Aside0.mk (Kd.R_below (by (with_reducible repeat (first | apply Kd.R_alloc | apply Kd.R_drewN | apply Kd.R_drew)); exact HO1013.out) hb); have n2_ := Aside0.mk (below_step (by repeat (first | (with_reducible first | exact HB.out | apply below_alloc | apply pw_below_drewN | apply below_drew1) | exact HB.out)) hb); clear HO1009 HO1013 HB; have HO1009 := n0_; have HO1013 := n1_; have HB := n2_; clear n0_ n1_ n2_; (try clear hb); (try clear hb2); (try clear hk); (try clear hi)))
 (try simp only [Act.put, List.setIfInBounds_toArray, List.set_cons_zero, List.set_cons_succ])
 go_cut [] (fun wc => ∃ (kq : Nat), Aside0 (laws_FnExactGraphDeep.j1 kq l0 t1011 = some r) ∧ Aside0 (kq ≤ kj2) ∧ Aside0 (Kd.R k52 52 wc w.heap.size (fun _ => True) (.slice Ao15 t1011.length co15) t1011) ∧ Aside0 (Below w.heap.size w wc))
 case first =>
  have H := HC10.out
  clear HC10
  by_cases c17 : t1014 = t1010
  · rw [if_pos c17] at H
    have c17b0 : (t1014 == t1010) = true := beq_iff_eq.mpr c17
    have c17b1 : (t1014 != t1010) = false := bne_eq_false_iff_eq.mpr c17
    clear c17
    (first | rw [c17b0] | (simp only [i64_w, i32_w]; rw [c17b0]) | (have cn_ := c17b0; simp only [bne] at cn_; rw [cn_]; clear cn_) | skip)
    have H' := Aside0.mk H
    clear H
    go_wp2
    go_meet
    case rel => exact ⟨_, H', ⟨by have := HJ2.out; first | omega | exact Nat.le_refl _⟩, ⟨by (with_reducible repeat (first | apply Kd.R_alloc | apply Kd.R_drewN | apply Kd.R_drew)); exact Kd.R_mono HO1013.out (fun _ hk => trivial)⟩, ⟨by repeat (first | (with_reducible first | exact HB.out | apply below_alloc | apply pw_below_drewN | apply below_drew1) | exact HB.out)⟩⟩
  rw [if_neg c17] at H
  have c17b0 : (t1014 == t1010) = false := beq_eq_false_iff_ne.mpr c17
  have c17b1 : (t1014 != t1010) = true := bne_iff_ne.mpr c17
  (first | rw [c17b0] | (simp only [i64_w, i32_w]; rw [c17b0]) | (have cn_ := c17b0; simp only [bne] at cn_; rw [cn_]; clear cn_) | skip)
  obtain rfl := Option.some.inj H
  go_wp2
  go_ret
  exact ⟨by first | rfl | (simp [errW_none, errW_some] <;> rfl) | (simp [*, errW_none, errW_some] <;> rfl), by repeat (first | (with_reducible first | exact HB.out | apply below_alloc | apply pw_below_drewN | apply below_drew1) | exact HB.out)⟩
 clear HC10; try clear c1; try clear c2; try clear p2; try clear c3; try clear c4; try clear c5; try clear c5b0; try clear c10; try clear c17; try clear c17b0; try clear c17b1; try clear p2
 obtain ⟨kq, HA, HJ9, HO_5, HB⟩ := hcut
 obtain _ | kj9 := kq
 · exact absurd HA.out (by simp [laws_FnExactGraphDeep.j1])
 have H := HA.out
 clear HA
 simp only [laws_FnExactGraphDeep.j1] at H
 replace H := Option.bind_eq_some_iff.mp H
 obtain ⟨t1015, A180, H⟩ := H
 replace H : ((laws_eqFunS.f kj9 t1011 t1015).bind fun t1018 => (if t1018 = true then (some true) else (some false))) = some r := H
 have A18 := Aside0.mk A180; clear A180
 replace H := Option.bind_eq_some_iff.mp H
 obtain ⟨t1018, A190, H⟩ := H
 replace H : (if t1018 = true then (some true) else (some false)) = some r := H
 have A19 := Aside0.mk A190; clear A190
 by_cases c20 : t1018 = true
 · subst c20
   have H1 : (some true) = some r := by rw [if_pos rfl] at H; exact H
   clear H
   have H := H1
   clear H1
   obtain rfl := Option.some.inj H
   go_wp2_with (first | ((with_reducible refine gate_callee (f := 31) rfl ?_); refine goesL_ (some 24) rfl rfl Try.func31 (by kernel_rfl) rfl #[.slice A0 l0.length c0] rfl (by (try simp only [List.map_toArray, List.map_cons, List.map_nil]); first | done | rfl | (simp only [List.length_drop, List.length_take]; rfl)) ?_; (with_reducible refine (laws_toFunS.calls kj9 _ _ l0 t1015 _ ?side1 ?side2 A18.out).mono ?_); (case side1 => repeat (first | exact (Kd.C_below HR0.out HB.out) | (with_reducible refine Kd.C_alloc ?_ _) | (with_reducible refine Kd.C_drewN ?_ _) | (with_reducible refine Kd.C_drew ?_))); (case side2 => exact HC0.out); rintro e w21 ⟨v1016, rfl, ho0, hb⟩; refine ⟨_, rfl, ?_⟩; have n0_ := Aside0.mk (Kd.R_elder' (by (with_reducible repeat (first | apply Kd.R_alloc | apply Kd.R_drewN | apply Kd.R_drew)); exact HO_5.out) (Kd.R_base ho0) hb); have n1_ := Aside0.mk (Kd.R_lower (Kd.R_new' ho0 (Kd.R_lt (by (with_reducible repeat (first | apply Kd.R_alloc | apply Kd.R_drewN | apply Kd.R_drew)); exact HO_5.out))) (below_size (by repeat (first | (with_reducible first | exact HB.out | apply below_alloc | apply pw_below_drewN | apply below_drew1) | exact HB.out)))); have n2_ := Aside0.mk (below_step (by repeat (first | (with_reducible first | exact HB.out | apply below_alloc | apply pw_below_drewN | apply below_drew1) | exact HB.out)) hb); clear HO_5 HB; have HO_5 := n0_; have HO1017 := n1_; have HB := n2_; clear n0_ n1_ n2_; (try clear hb); (try clear hb2); (try clear hk); (try clear hi); (try clear ho0); obtain ⟨Ao22, co22, eo22⟩ := Kd.R_slice HO1017.out; subst eo22) | ((with_reducible refine gate_callee (f := 33) rfl ?_); refine goesL_ (some 25) rfl rfl Try.func33 (by kernel_rfl) rfl #[.slice Ao15 t1011.length co15, .slice Ao22 t1015.length co22] rfl (by (try simp only [List.map_toArray, List.map_cons, List.map_nil]); first | done | rfl | (simp only [List.length_drop, List.length_take]; rfl)) ?_; (with_reducible refine (laws_eqFunS.calls kj9 _ _ t1011 _ _ t1015 true _ ?side1 ?side2 ?side3 ?side4 A19.out).mono ?_); (case side1 => repeat (first | exact (Kd.R_reads' HO_5.out).2.2 | (with_reducible refine Kd.C_alloc ?_ _) | (with_reducible refine Kd.C_drewN ?_ _) | (with_reducible refine Kd.C_drew ?_))); (case side2 => exact (Kd.R_reads' HO_5.out).2.1); (case side3 => repeat (first | exact (Kd.R_reads' HO1017.out).2.2 | (with_reducible refine Kd.C_alloc ?_ _) | (with_reducible refine Kd.C_drewN ?_ _) | (with_reducible refine Kd.C_drew ?_))); (case side4 => exact (Kd.R_reads' HO1017.out).2.1); rintro e w23 ⟨rfl, hb⟩; refine ⟨_, rfl, ?_⟩; have n0_ := Aside0.mk (Kd.R_below (by (with_reducible repeat (first | apply Kd.R_alloc | apply Kd.R_drewN | apply Kd.R_drew)); exact HO_5.out) hb); have n1_ := Aside0.mk (Kd.R_below (by (with_reducible repeat (first | apply Kd.R_alloc | apply Kd.R_drewN | apply Kd.R_drew)); exact HO1017.out) hb); have n2_ := Aside0.mk (below_step (by repeat (first | (with_reducible first | exact HB.out | apply below_alloc | apply pw_below_drewN | apply below_drew1) | exact HB.out)) hb); clear HO_5 HO1017 HB; have HO_5 := n0_; have HO1017 := n1_; have HB := n2_; clear n0_ n1_ n2_; (try clear hb); (try clear hb2); (try clear hk); (try clear hi)))
   go_ret
   exact ⟨by first | rfl | (simp [errW_none, errW_some] <;> rfl) | (simp [*, errW_none, errW_some] <;> rfl), by repeat (first | (with_reducible first | exact HB.out | apply below_alloc | apply pw_below_drewN | apply below_drew1) | exact HB.out)⟩
 replace c20 := Bool.eq_false_iff.mpr c20
 subst c20
 have H1 : (some false) = some r := by rw [if_neg (show ¬ (false = true) by decide)] at H; exact H
 clear H
 have H := H1
 clear H1
 obtain rfl := Option.some.inj H
 go_wp2_with (first | ((with_reducible refine gate_callee (f := 31) rfl ?_); refine goesL_ (some 24) rfl rfl Try.func31 (by kernel_rfl) rfl #[.slice A0 l0.length c0] rfl (by (try simp only [List.map_toArray, List.map_cons, List.map_nil]); first | done | rfl | (simp only [List.length_drop, List.length_take]; rfl)) ?_; (with_reducible refine (laws_toFunS.calls kj9 _ _ l0 t1015 _ ?side1 ?side2 A18.out).mono ?_); (case side1 => repeat (first | exact (Kd.C_below HR0.out HB.out) | (with_reducible refine Kd.C_alloc ?_ _) | (with_reducible refine Kd.C_drewN ?_ _) | (with_reducible refine Kd.C_drew ?_))); (case side2 => exact HC0.out); rintro e w24 ⟨v1016, rfl, ho0, hb⟩; refine ⟨_, rfl, ?_⟩; have n0_ := Aside0.mk (Kd.R_elder' (by (with_reducible repeat (first | apply Kd.R_alloc | apply Kd.R_drewN | apply Kd.R_drew)); exact HO_5.out) (Kd.R_base ho0) hb); have n1_ := Aside0.mk (Kd.R_lower (Kd.R_new' ho0 (Kd.R_lt (by (with_reducible repeat (first | apply Kd.R_alloc | apply Kd.R_drewN | apply Kd.R_drew)); exact HO_5.out))) (below_size (by repeat (first | (with_reducible first | exact HB.out | apply below_alloc | apply pw_below_drewN | apply below_drew1) | exact HB.out)))); have n2_ := Aside0.mk (below_step (by repeat (first | (with_reducible first | exact HB.out | apply below_alloc | apply pw_below_drewN | apply below_drew1) | exact HB.out)) hb); clear HO_5 HB; have HO_5 := n0_; have HO1017 := n1_; have HB := n2_; clear n0_ n1_ n2_; (try clear hb); (try clear hb2); (try clear hk); (try clear hi); (try clear ho0); obtain ⟨Ao25, co25, eo25⟩ := Kd.R_slice HO1017.out; subst eo25) | ((with_reducible refine gate_callee (f := 33) rfl ?_); refine goesL_ (some 25) rfl rfl Try.func33 (by kernel_rfl) rfl #[.slice Ao15 t1011.length co15, .slice Ao25 t1015.length co25] rfl (by (try simp only [List.map_toArray, List.map_cons, List.map_nil]); first | done | rfl | (simp only [List.length_drop, List.length_take]; rfl)) ?_; (with_reducible refine (laws_eqFunS.calls kj9 _ _ t1011 _ _ t1015 false _ ?side1 ?side2 ?side3 ?side4 A19.out).mono ?_); (case side1 => repeat (first | exact (Kd.R_reads' HO_5.out).2.2 | (with_reducible refine Kd.C_alloc ?_ _) | (with_reducible refine Kd.C_drewN ?_ _) | (with_reducible refine Kd.C_drew ?_))); (case side2 => exact (Kd.R_reads' HO_5.out).2.1); (case side3 => repeat (first | exact (Kd.R_reads' HO1017.out).2.2 | (with_reducible refine Kd.C_alloc ?_ _) | (with_reducible refine Kd.C_drewN ?_ _) | (with_reducible refine Kd.C_drew ?_))); (case side4 => exact (Kd.R_reads' HO1017.out).2.1); rintro e w26 ⟨rfl, hb⟩; refine ⟨_, rfl, ?_⟩; have n0_ := Aside0.mk (Kd.R_below (by (with_reducible repeat (first | apply Kd.R_alloc | apply Kd.R_drewN | apply Kd.R_drew)); exact HO_5.out) hb); have n1_ := Aside0.mk (Kd.R_below (by (with_reducible repeat (first | apply Kd.R_alloc | apply Kd.R_drewN | apply Kd.R_drew)); exact HO1017.out) hb); have n2_ := Aside0.mk (below_step (by repeat (first | (with_reducible first | exact HB.out | apply below_alloc | apply pw_below_drewN | apply below_drew1) | exact HB.out)) hb); clear HO_5 HO1017 HB; have HO_5 := n0_; have HO1017 := n1_; have HB := n2_; clear n0_ n1_ n2_; (try clear hb); (try clear hb2); (try clear hk); (try clear hi)))
 go_ret
 exact ⟨by first | rfl | (simp [errW_none, errW_some] <;> rfl) | (simp [*, errW_none, errW_some] <;> rfl), by repeat (first | (with_reducible first | exact HB.out | apply below_alloc | apply pw_below_drewN | apply below_drew1) | exact HB.out)⟩

end Go.Proofs.Ytppmalfpggkpdaa.P

namespace Go.Proofs.Ytppmalfpggkpdaa.P
open Go.RowKit
/-- THE ONE PURE STATEMENT of laws_FnExactGraphDeep. -/
def laws_FnExactGraphDeep.Pure : Prop := ∀ (x0 : List (S95)), (x0.length * 48 ≤ 140737488351232 ∧ ∀ y1 ∈ x0, Ok95 y1) → ∃ k, laws_FnExactGraphDeep.f k x0 = some true
end Go.Proofs.Ytppmalfpggkpdaa.P

-- made by printx.py (own driver over the kit's print); Lean checks it
namespace Go.Proofs.Ytppmalfpggkpdaa.P
open Go.RowKit Go.Proofs.YtppmalfpggkpdaaW.PrintWords Go.Proofs.YtppmalfpggkpdaaW.PrintLast Go.Proofs.YtppmalfpggkpdaaW.PrintMore
attribute [local go_sem] max2_int min2_int max_two min_two max_three min_three max_four min_four   -- for this text's walks alone
set_option linter.unusedVariables false
set_option linter.unusedSimpArgs false

/-! ### impl_UnitOk: function 69 -/
def impl_UnitOk.f (k : Nat) (l0 : List (S52)) : Option (Bool) := if (l0.length : Int) ≤ 5 then ((impl_funsOk.f k l0).bind fun t269 => (some t269)) else (some false)
end Go.Proofs.Ytppmalfpggkpdaa.P

-- made by printx.py (own driver over the kit's print); Lean checks it
namespace Go.Proofs.Ytppmalfpggkpdaa.P
open Go.RowKit Go.Proofs.YtppmalfpggkpdaaW.PrintWords Go.Proofs.YtppmalfpggkpdaaW.PrintLast Go.Proofs.YtppmalfpggkpdaaW.PrintMore
attribute [local go_sem] max2_int min2_int max_two min_two max_three min_three max_four min_four   -- for this text's walks alone
set_option linter.unusedVariables false
set_option linter.unusedSimpArgs false

/-! ### impl_UnitFind: function 38 -/
def impl_UnitFind.f (k : Nat) (l0 : List (S52)) (a1 : ByteArray) : Option (Int) := (impl_UnitOk.f k l0).bind fun t808 => (if t808 = true then ((impl_find.f l0 a1).bind fun t809 => (some t809)) else (some (-1)))
end Go.Proofs.Ytppmalfpggkpdaa.P

-- made by printx.py (own driver over the kit's print); Lean checks it
namespace Go.Proofs.Ytppmalfpggkpdaa.P
open Go.RowKit Go.Proofs.YtppmalfpggkpdaaW.PrintWords Go.Proofs.YtppmalfpggkpdaaW.PrintLast Go.Proofs.YtppmalfpggkpdaaW.PrintMore
attribute [local go_sem] max2_int min2_int max_two min_two max_three min_three max_four min_four   -- for this text's walks alone
set_option linter.unusedVariables false
set_option linter.unusedSimpArgs false

/-! ### spec_UnitOk: function 36 -/
def spec_UnitOk.l0 : Nat → List (S52) → Int → Option (Bool)
  | 0, _, _ => none
  | k + 1, x0, x3 => if x3 < (x0.length : Int) then (if 0 ≤ x3 then ((spec_FunOk.f k ((rd_T52 x0 x3).f0) ((rd_T52 x0 x3).f1) ((rd_T52 x0 x3).f2)).bind fun t121 => (if t121 = true then ((spec_l2Find.f k x0 ((rd_T52 x0 x3).f0)).bind fun t123 => (if t123 = x3 then (spec_UnitOk.l0 k x0 (wrap64 (x3 + 1))) else (some false))) else (some false))) else (none)) else (some (decide ((x0.length : Int) ≤ 5)))
def spec_UnitOk.f (k : Nat) (l0 : List (S52)) : Option (Bool) := spec_UnitOk.l0 k l0 0
end Go.Proofs.Ytppmalfpggkpdaa.P

/- When a unit is ok, and where its functions are: what the printed functions of both sides compute. -/
namespace Go.Proofs.Ytppmalfpggkpdaa.L
open Go.RowKit Go.Proofs.YtppmalfpggkpdaaW.PrintWords Go.Proofs.YtppmalfpggkpdaaW.PrintLast Go.Proofs.YtppmalfpggkpdaaW.PrintMore Go.Proofs.Ytppmalfpggkpdaa.P
set_option linter.unusedVariables false
set_option linter.unusedSimpArgs false
def FitF (x : S52) : Prop := x.f0.size ≤ 140737488351232 ∧ x.f2.length ≤ 140737488351232 ∧ ∀ y ∈ x.f2, y.f2.size ≤ 140737488351232
def named (a : ByteArray) (x : S52) : Bool := x.f0.toList == a.toList
def findI (l : List S52) (a : ByteArray) : Int := idxFrom (named a) l 0
def unitGood (l : List S52) : Bool := allFrom (fun i x => funOkB x.f0 x.f2 && (findI l x.f0 == (i : Int))) l 0
theorem impl_FunOk_f (x : S52) (h : FitF x) : impl_FunOk.f x.f0 x.f1 x.f2 = some (funOkB x.f0 x.f2) := by
  unfold impl_FunOk.f
  rw [if_pos ⟨h.1, h.2.2⟩]
theorem spec_FunOk_l0 (x : S52) (h : FitF x) (k : Nat) (hk : 140737488351236 + x.f2.length < k) : spec_FunOk.l0 k (x.f2.length : Int) 0 x.f0 x.f1 x.f2 = some (!(x.f2.any fun y => !insOkB y.f0 y.f1 y.f2)) := by
  have e := loop_all (fun _ (y : S110) => insOkB y.f0 y.f1 y.f2) z110 x.f2 true (by have := h.2.1; omega) (fun k i => spec_FunOk.l0 k (x.f2.length : Int) i x.f0 x.f1 x.f2) 140737488351236 ?_ ?_ ?_ k hk
  · rw [e, allFrom_all, Bool.and_true, all_not_any]
  · intro k i hK hi hq
    simp only [spec_FunOk.l0]
    have e := spec_InsOk_f (rd_T110 x.f2 (i : Int)).f0 (rd_T110 x.f2 (i : Int)).f1 (rd_T110 x.f2 (i : Int)).f2 (h.2.2 _ (getD_mem hi)) k (by have : (rd_T110 x.f2 (i : Int)).f2.size ≤ 140737488351232 := h.2.2 _ (getD_mem hi); omega)
    rw [show insOkB (rd_T110 x.f2 (i : Int)).f0 (rd_T110 x.f2 (i : Int)).f1 (rd_T110 x.f2 (i : Int)).f2 = true from hq] at e
    rw [if_pos (by omega), if_pos (by omega), if_pos (by omega), e]
    rfl
  · intro k i hK hi hq
    simp only [spec_FunOk.l0]
    have e := spec_InsOk_f (rd_T110 x.f2 (i : Int)).f0 (rd_T110 x.f2 (i : Int)).f1 (rd_T110 x.f2 (i : Int)).f2 (h.2.2 _ (getD_mem hi)) k (by have : (rd_T110 x.f2 (i : Int)).f2.size ≤ 140737488351232 := h.2.2 _ (getD_mem hi); omega)
    rw [show insOkB (rd_T110 x.f2 (i : Int)).f0 (rd_T110 x.f2 (i : Int)).f1 (rd_T110 x.f2 (i : Int)).f2 = false from hq] at e
    rw [if_pos (by omega), if_pos (by omega), if_pos (by omega), e]
    rfl
  · intro k hK
    simp only [spec_FunOk.l0]
    rw [if_neg (by omega)]
theorem spec_FunOk_f (x : S52) (h : FitF x) (k : Nat) (hk : 140737488351240 + x.f2.length < k) : spec_FunOk.f k x.f0 x.f1 x.f2 = some (funOkB x.f0 x.f2) := by
  obtain ⟨m, rfl⟩ : ∃ m, k = m + 1 := ⟨k - 1, by omega⟩
  have hs := h.1
  have hl := h.2.1
  unfold spec_FunOk.f funOkB
  rw [spec_NameOk_f x.f0 h.1 _ (by omega)]
  simp only [Option.bind_some]
  have j (b : Bool) : spec_FunOk.j0 (m + 1) (x.f2.length : Int) b x.f0 x.f1 x.f2 = some (!b && !(x.f2.any fun y => !insOkB y.f0 y.f1 y.f2)) := by
    simp only [spec_FunOk.j0]
    cases b with
    | true => rfl
    | false => rw [if_neg (by decide), spec_FunOk_l0 x h m (by omega)]; rfl
  cases nameOk x.f0 with
  | false => rw [if_neg (by decide), j]; rfl
  | true =>
    rw [if_pos rfl]
    by_cases h1 : (x.f2.length : Int) < 1
    · have e1 : decide (1 ≤ (x.f2.length : Int)) = false := decide_eq_false (by omega)
      rw [if_pos h1, j, e1]; rfl
    · rw [if_neg h1]
      have e1 : decide (1 ≤ (x.f2.length : Int)) = true := decide_eq_true (by omega)
      by_cases h2 : (x.f2.length : Int) > 10
      · have e2 : decide ((x.f2.length : Int) ≤ 10) = false := decide_eq_false (by omega)
        rw [if_pos h2, j, e1, e2]; rfl
      · rw [if_neg h2]
        have e2 : decide ((x.f2.length : Int) ≤ 10) = true := decide_eq_true (by omega)
        have w : wrap64 ((x.f2.length : Int) - 1) = (x.f2.length : Int) - 1 := wrap_id (by omega) (by omega)
        rw [w, if_pos (by omega), if_pos (by omega), spec_InsLast_f]
        simp only [Option.bind_some]
        rw [j, e1, e2]
        have e3 : (rd_T110 x.f2 ((x.f2.length : Int) - 1)) = x.f2.getD (x.f2.length - 1) z110 := by
          unfold rd_T110
          rw [show ((x.f2.length : Int) - 1).toNat = x.f2.length - 1 by omega]
        rw [e3]
        simp [Bool.and_comm]
theorem spec_l2Find_f (l : List S52) (hn : l.length ≤ 9223372036854775807) (a : ByteArray) (k : Nat) (hk : l.length < k) : spec_l2Find.f k l a = some (findI l a) := by
  unfold spec_l2Find.f findI
  refine loop_idx (named a) z52 l hn (fun k i => spec_l2Find.l0 k l a i) 0 ?_ ?_ ?_ k (by omega)
  · intro k i _ hi hq
    simp only [spec_l2Find.l0]
    rw [if_pos (by omega), if_pos (by omega), if_pos (show (rd_T52 l (i : Int)).f0.toList = a.toList from beq_iff_eq.mp hq)]
  · intro k i _ hi hq
    simp only [spec_l2Find.l0]
    rw [if_pos (by omega), if_pos (by omega), if_neg (show ¬ (rd_T52 l (i : Int)).f0.toList = a.toList from beq_eq_false_iff_ne.mp hq)]
  · intro k _
    simp only [spec_l2Find.l0]
    rw [if_neg (by omega)]
theorem impl_funsOk_f (l : List S52) (hn : l.length ≤ 140737488351232) (hx : ∀ x ∈ l, FitF x) (k : Nat) (hk : l.length < k) : impl_funsOk.f k l = some (unitGood l) := by
  unfold impl_funsOk.f
  have step : ∀ (k i : Nat), i < l.length → impl_funsOk.l0 (k + 1) l l (l.length : Int) (i : Int) = if (funOkB (l.getD i z52).f0 (l.getD i z52).f2 && (findI l (l.getD i z52).f0 == (i : Int))) = true then impl_funsOk.l0 k l l (l.length : Int) (wrap64 ((i : Int) + 1)) else some false := by
    intro k i hi
    simp only [impl_funsOk.l0]
    have hf := hx _ (getD_mem (d := z52) hi)
    have e := impl_FunOk_f (rd_T52 l (i : Int)) hf
    rw [if_pos (by omega), if_pos (by omega), if_pos (by omega), e]
    simp only [Option.bind_some]
    show (if funOkB (l.getD i z52).f0 (l.getD i z52).f2 = true then _ else _) = _
    cases funOkB (l.getD i z52).f0 (l.getD i z52).f2 with
    | false => rfl
    | true =>
      rw [if_pos rfl]
      simp only [impl_find.f, Option.bind_some, Bool.true_and]
      show (if findI l (l.getD i z52).f0 = (i : Int) then _ else _) = _
      by_cases hq : findI l (l.getD i z52).f0 = (i : Int)
      · rw [if_pos hq, if_pos (beq_iff_eq.mpr hq)]
      · rw [if_neg hq, if_neg (by rw [beq_eq_false_iff_ne.mpr hq]; decide)]
  have e := loop_all (fun i x => funOkB x.f0 x.f2 && (findI l x.f0 == (i : Int))) z52 l true (by omega) (fun k i => impl_funsOk.l0 k l l (l.length : Int) i) 0 ?_ ?_ ?_ k (by omega)
  · rw [e, Bool.and_true]; rfl
  · intro k i hK hi hq
    show impl_funsOk.l0 (k + 1) l l (l.length : Int) (i : Int) = _
    rw [step k i hi, if_pos hq]
  · intro k i hK hi hq
    show impl_funsOk.l0 (k + 1) l l (l.length : Int) (i : Int) = _
    rw [step k i hi, if_neg (by rw [hq]; decide)]
  · intro k _
    simp only [impl_funsOk.l0]
    rw [if_neg (by omega)]
end Go.Proofs.Ytppmalfpggkpdaa.L

-- made by printx.py (own driver over the kit's print); Lean checks it
namespace Go.Proofs.Ytppmalfpggkpdaa.P
open Go.RowKit Go.Proofs.YtppmalfpggkpdaaW.PrintWords Go.Proofs.YtppmalfpggkpdaaW.PrintLast Go.Proofs.YtppmalfpggkpdaaW.PrintMore
attribute [local go_sem] max2_int min2_int max_two min_two max_three min_three max_four min_four   -- for this text's walks alone
set_option linter.unusedVariables false
set_option linter.unusedSimpArgs false

/-! ### laws_szIntS: function 96 -/
def laws_szIntS.f (l0 : List Int) (a1 : Int) : Option (Int) := if (wrap64 (a1 - (l0.length : Int))) < 0 then (some (-1)) else (some (wrap64 (a1 - (l0.length : Int))))
/-! ### laws_toIntS: function 101 -/
def laws_toIntS.l0 : Nat → List Int → List Int → Int → Option (List Int)
  | 0, _, _, _ => none
  | k + 1, x0, x3, x4 => if x4 < (x0.length : Int) then (if 0 ≤ x4 then (if x4 < (x3.length : Int) then (laws_toIntS.l0 k x0 (x3.set (x4 : Int).toNat (rd x0 x4)) (wrap64 (x4 + 1))) else (none)) else (none)) else (some x3)
def laws_toIntS.f (k : Nat) (l0 : List Int) : Option (List Int) := if 0 ≤ (l0.length : Int) then (if ((l0.length : Int) : Int).toNat ≤ 35184372088832 then (laws_toIntS.l0 k l0 (List.replicate ((l0.length : Int) : Int).toNat 0) 0) else (none)) else (none)
/-! ### laws_eqIntS: function 108 -/
def laws_eqIntS.l0 : Nat → List Int → List Int → Int → Option (Bool)
  | 0, _, _, _ => none
  | k + 1, x0, x1, x5 => if x5 < (x0.length : Int) then (if 0 ≤ x5 then (if x5 < (x1.length : Int) then (if (rd x0 x5) = (rd x1 x5) then (laws_eqIntS.l0 k x0 x1 (wrap64 (x5 + 1))) else (some false)) else (none)) else (none)) else (some true)
def laws_eqIntS.f (k : Nat) (l0 : List Int) (l1 : List Int) : Option (Bool) := if (l0.length : Int) = (l1.length : Int) then (laws_eqIntS.l0 k l0 l1 0) else (some false)
end Go.Proofs.Ytppmalfpggkpdaa.P

-- made by printx.py (own driver over the kit's print); Lean checks it
namespace Go.Proofs.Ytppmalfpggkpdaa.P
open Go.RowKit Go.Proofs.YtppmalfpggkpdaaW.PrintWords Go.Proofs.YtppmalfpggkpdaaW.PrintLast Go.Proofs.YtppmalfpggkpdaaW.PrintMore
attribute [local go_sem] max2_int min2_int max_two min_two max_three min_three max_four min_four   -- for this text's walks alone
set_option linter.unusedVariables false
set_option linter.unusedSimpArgs false

/-! ### laws_szSpotS: function 95 -/
def laws_szSpotS.f (l0 : List (S61)) (a1 : Int) : Option (Int) := if (wrap64 (a1 - (l0.length : Int))) < 0 then (some (-1)) else (some (wrap64 (a1 - (l0.length : Int))))
/-! ### laws_szMach: function 47 -/
def laws_szMach.f (a0_0 : Int) (a0_1 : Int) (a0_2 : Int) (l0_3 : List (S61)) (l0_4 : List Int) (a0_5 : Int) (a1 : Int) : Option (Int) := (laws_szSpotS.f l0_3 a1).bind fun t1167 => (if t1167 < 0 then (some (-1)) else ((laws_szIntS.f l0_4 t1167).bind fun t1168 => (if t1168 < 0 then (some (-1)) else (some t1168))))
/-! ### spec_l5Spot: function 97 -/
def spec_l5Spot.f (l0 : List (S52)) (a1_0 : Int) (a1_1 : Int) : Option (Bool) := if a1_0 ≥ 0 then (if a1_0 < (l0.length : Int) then (if a1_1 ≥ 0 then (if 0 ≤ a1_0 then (some (decide (a1_1 < (((rd_T52 l0 a1_0).f2).length : Int)))) else (none)) else (some false)) else (some false)) else (some false)
/-! ### spec_l1Min: function 148 -/
def spec_l1Min.f (a0 : Int) (a1 : Int) : Option (Int) := if a0 < a1 then (some a0) else (some a1)
/-! ### spec_l1Cut: function 98 -/
def spec_l1Cut.f (a0 : Int) : Option (Int) := (spec_l1Min.f 1000 a0).bind fun t1171 => ((spec_l1Max.f (-1000) t1171).bind fun t1172 => (some t1172))
/-! ### laws_toSpot: function 99 -/
def laws_toSpot.f (a0_0 : Int) (a0_1 : Int) : Option (Int × Int) := some (a0_0, a0_1)
/-! ### laws_toSpotS: function 100 -/
def laws_toSpotS.l0 : Nat → List (S61) → List (S68) → Int → Option ((List (S68)))
  | 0, _, _, _ => none
  | k + 1, x0, x3, x4 => if x4 < (x0.length : Int) then (if 0 ≤ x4 then ((laws_toSpot.f ((rd_T61 x0 x4).f0) ((rd_T61 x0 x4).f1)).bind fun bt1189 => (if x4 < (x3.length : Int) then (laws_toSpotS.l0 k x0 (x3.set (x4 : Int).toNat (⟨bt1189.1, bt1189.2⟩ : S68)) (wrap64 (x4 + 1))) else (none))) else (none)) else (some x3)
def laws_toSpotS.f (k : Nat) (l0 : List (S61)) : Option ((List (S68))) := if 0 ≤ (l0.length : Int) then (if ((l0.length : Int) : Int).toNat ≤ 17592186044416 then (laws_toSpotS.l0 k l0 (List.replicate ((l0.length : Int) : Int).toNat z68) 0) else (none)) else (none)
/-! ### laws_toMach: function 49 -/
def laws_toMach.f (k : Nat) (a0_0 : Int) (a0_1 : Int) (a0_2 : Int) (l0_3 : List (S61)) (l0_4 : List Int) (a0_5 : Int) : Option (Int × Int × Int × (List (S68)) × List Int × Int) := (laws_toSpot.f a0_0 a0_1).bind fun bt1200 => ((laws_toSpotS.f k l0_3).bind fun t1202 => ((laws_toIntS.f k l0_4).bind fun t1205 => (some (bt1200.1, bt1200.2, a0_2, t1202, t1205, a0_5))))
/-! ### impl_isSpot: function 102 -/
def impl_isSpot.f (l0 : List (S52)) (a1_0 : Int) (a1_1 : Int) : Option (Bool) := (impl_in.f a1_0 0 (wrap64 ((l0.length : Int) - 1))).bind fun t1209 => (if t1209 = true then (if 0 ≤ a1_0 then (if a1_0 < (l0.length : Int) then ((impl_in.f a1_1 0 (wrap64 ((((rd_T52 l0 a1_0).f2).length : Int) - 1))).bind fun t1211 => (some t1211)) else (none)) else (none)) else (some false))
/-! ### laws_eqSpot: function 106 -/
def laws_eqSpot.f (a0_0 : Int) (a0_1 : Int) (a1_0 : Int) (a1_1 : Int) : Option (Bool) := if a0_0 = a1_0 then (if a0_1 = a1_1 then (some true) else (some false)) else (some false)
/-! ### laws_eqSpotS: function 107 -/
def laws_eqSpotS.l0 : Nat → List (S68) → List (S68) → Int → Option (Bool)
  | 0, _, _, _ => none
  | k + 1, x0, x1, x5 => if x5 < (x0.length : Int) then (if 0 ≤ x5 then (if x5 < (x1.length : Int) then ((laws_eqSpot.f ((rd_T68 x0 x5).f0) ((rd_T68 x0 x5).f1) ((rd_T68 x1 x5).f0) ((rd_T68 x1 x5).f1)).bind fun t1216 => (if t1216 = true then (laws_eqSpotS.l0 k x0 x1 (wrap64 (x5 + 1))) else (some false))) else (none)) else (none)) else (some true)
def laws_eqSpotS.f (k : Nat) (l0 : List (S68)) (l1 : List (S68)) : Option (Bool) := if (l0.length : Int) = (l1.length : Int) then (laws_eqSpotS.l0 k l0 l1 0) else (some false)
end Go.Proofs.Ytppmalfpggkpdaa.P

-- made by printx.py (own driver over the kit's print); Lean checks it
namespace Go.Proofs.Ytppmalfpggkpdaa.P
open Go.RowKit Go.Proofs.YtppmalfpggkpdaaW.PrintWords Go.Proofs.YtppmalfpggkpdaaW.PrintLast Go.Proofs.YtppmalfpggkpdaaW.PrintMore
attribute [local go_sem] max2_int min2_int max_two min_two max_three min_three max_four min_four   -- for this text's walks alone
set_option linter.unusedVariables false
set_option linter.unusedSimpArgs false

/-! ### laws_eqMach: function 51 -/
def laws_eqMach.f (k : Nat) (a0_0 : Int) (a0_1 : Int) (a0_2 : Int) (l0_3 : List (S68)) (l0_4 : List Int) (a0_5 : Int) (a1_0 : Int) (a1_1 : Int) (a1_2 : Int) (l1_3 : List (S68)) (l1_4 : List Int) (a1_5 : Int) : Option (Bool) := (laws_eqSpot.f a0_0 a0_1 a1_0 a1_1).bind fun t1221 => (if t1221 = true then (if a0_2 = a1_2 then ((laws_eqSpotS.f k l0_3 l1_3).bind fun t1222 => (if t1222 = true then ((laws_eqIntS.f k l0_4 l1_4).bind fun t1223 => (if t1223 = true then (if a0_5 = a1_5 then (some true) else (some false)) else (some false))) else (some false))) else (some false)) else (some false))
end Go.Proofs.Ytppmalfpggkpdaa.P
