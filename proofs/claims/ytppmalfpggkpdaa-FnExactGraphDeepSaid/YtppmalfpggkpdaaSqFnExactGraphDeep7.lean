-- PximplGraphDeep: put together by squash.py
import Derived.Test.YtppmalfpggkpdaaSqFnExactGraphDeep3
import Derived.Test.YtppmalfpggkpdaaSqFnExactGraphDeep6
import Derived.Test.YtppmalfpggkpdaaSqFnExactGraphDeep4
import Derived.Test.YtppmalfpggkpdaaSqFnExactGraphDeep5

-- made by printx.py (own driver over the kit's print); Lean checks it
namespace Go.Proofs.Ytppmalfpggkpdaa.P
open Go.RowKit Go.Proofs.YtppmalfpggkpdaaW.PrintWords Go.Proofs.YtppmalfpggkpdaaW.PrintLast Go.Proofs.YtppmalfpggkpdaaW.PrintMore
attribute [local go_sem] max2_int min2_int max_two min_two max_three min_three max_four min_four   -- for this text's walks alone
set_option linter.unusedVariables false
set_option linter.unusedSimpArgs false

/-! ### impl_GraphDeep: function 45 -/
mutual
def impl_GraphDeep.l0 : Nat → List (S52) → List Int → Int → Int → Option (Int)
  | 0, _, _, _, _ => none
  | k + 1, x0, x3, x20, x21 => if x21 < x20 then (if 0 ≤ x21 then (if x21 < (x3.length : Int) then (impl_GraphDeep.l0 k x0 (x3.set (x21 : Int).toNat (-1)) x20 (wrap64 (x21 + 1))) else (none)) else (none)) else (if 0 < (x3.length : Int) then (impl_GraphDeep.l1 k x0 (x3.set (0 : Int).toNat 0) 0) else (none))
def impl_GraphDeep.l1 : Nat → List (S52) → List Int → Int → Option (Int)
  | 0, _, _, _ => none
  | k + 1, x0, x3, x5 => if x5 ≤ (x0.length : Int) then (impl_GraphDeep.l2 k x0 x3 x5 false x0 (x0.length : Int) 0) else (some (-1))
def impl_GraphDeep.l2 : Nat → List (S52) → List Int → Int → Bool → List (S52) → Int → Int → Option (Int)
  | 0, _, _, _, _, _, _, _ => none
  | k + 1, x0, x3, x5, x6, x36, x37, x38 => if x38 < x37 then (if 0 ≤ x38 then (if x38 < (x36.length : Int) then (if x38 < (x3.length : Int) then (if (rd x3 x38) < 0 then (impl_GraphDeep.l2 k x0 x3 x5 x6 x36 x37 (wrap64 (x38 + 1))) else (impl_GraphDeep.l3 k x0 x3 x5 x6 x38 x36 x37 x38 ((rd_T52 x36 x38).f2) (((rd_T52 x36 x38).f2).length : Int) 0)) else (none)) else (none)) else (none)) else (if x6 = true then (impl_GraphDeep.l1 k x0 x3 (wrap64 (x5 + 1))) else ((slices_Max_sint_int.f x3).bind fun t1005 => (some t1005)))
def impl_GraphDeep.l3 : Nat → List (S52) → List Int → Int → Bool → Int → List (S52) → Int → Int → List (S110) → Int → Int → Option (Int)
  | 0, _, _, _, _, _, _, _, _, _, _, _ => none
  | k + 1, x0, x3, x5, x6, x7, x36, x37, x38, x49, x50, x51 => if x51 < x50 then (if 0 ≤ x51 then (if x51 < (x49.length : Int) then ((impl_InsRefs.f ((rd_T110 x49 x51).f0) ((rd_T110 x49 x51).f1) ((rd_T110 x49 x51).f2)).bind fun t998 => (if t998 = true then ((impl_find.f x0 ((rd_T110 x49 x51).f2)).bind fun t999 => (if 0 ≤ x7 then (if x7 < (x3.length : Int) then (if ((rd_T110 x49 x51).f0) = 3 then (if 0 ≤ t999 then (if t999 < (x3.length : Int) then (if (wrap64 ((rd x3 x7) + 1)) > (rd x3 t999) then (impl_GraphDeep.l3 k x0 (x3.set (t999 : Int).toNat (wrap64 ((rd x3 x7) + 1))) x5 true x7 x36 x37 x38 x49 x50 (wrap64 (x51 + 1))) else (impl_GraphDeep.l3 k x0 x3 x5 x6 x7 x36 x37 x38 x49 x50 (wrap64 (x51 + 1)))) else (none)) else (none)) else (if 0 ≤ t999 then (if t999 < (x3.length : Int) then (if (rd x3 x7) > (rd x3 t999) then (impl_GraphDeep.l3 k x0 (x3.set (t999 : Int).toNat (rd x3 x7)) x5 true x7 x36 x37 x38 x49 x50 (wrap64 (x51 + 1))) else (impl_GraphDeep.l3 k x0 x3 x5 x6 x7 x36 x37 x38 x49 x50 (wrap64 (x51 + 1)))) else (none)) else (none))) else (none)) else (none))) else (impl_GraphDeep.l3 k x0 x3 x5 x6 x7 x36 x37 x38 x49 x50 (wrap64 (x51 + 1))))) else (none)) else (none)) else (impl_GraphDeep.l2 k x0 x3 x5 x6 x36 x37 (wrap64 (x38 + 1)))
end
def impl_GraphDeep.f (k : Nat) (l0 : List (S52)) : Option (Int) := (impl_KeepOk.f k l0).bind fun t987 => (if t987 = true then (if 0 ≤ (l0.length : Int) then (if ((l0.length : Int) : Int).toNat ≤ 35184372088832 then ((some (List.replicate ((l0.length : Int) : Int).toNat 0 : List Int)).bind fun y988 => (impl_GraphDeep.l0 k l0 y988 (y988.length : Int) 0)) else (none)) else (none)) else (some (-1)))
def impl_GraphDeep.T22 : Bool × List (List Nat × List Nat) := (true, [([], []), ([], []), ([1], [1]), ([0, 2], [0, 2]), ([], []), ([], []), ([4, 5], [4, 5]), ([6], [6]), ([3, 3, 0, 1, 2, 3], [3]), ([7, 8, 0, 1, 2, 3, 4, 5, 6, 7, 8], [7])])
def impl_GraphDeep.B22 : List Nat := [0, 0, 2, 7, 0, 0, 48, 112, 15, 511]
theorem impl_GraphDeep.tab22 : rtab .any (opsOf Try.f45 22) = impl_GraphDeep.T22 := by kernel_rfl
theorem impl_GraphDeep.bits22 : waitsOk impl_GraphDeep.T22.2 impl_GraphDeep.B22 = true := by kernel_rfl
set_option maxHeartbeats 8000000 in
set_option maxRecDepth 100000 in
theorem impl_GraphDeep.calls (k : Nat) (A0 : Option Addr) (c0 : Nat) (l0 : List (S52)) (r : Int) (w : World) (hr0 : Kd.C k52 w A0 l0.length l0) (hc0 : l0.length ≤ c0) (h : impl_GraphDeep.f k l0 = some r) :
    Calls Try.prog 45 #[.slice A0 l0.length c0] w fun e w' => e = .returned (.int .i64 r) ∧ Below w.heap.size w w' := by
 have hu52 := Try.underlying52
 have hu110 := Try.underlying110
 have HR0 := Aside0.mk hr0; have HC0 := Aside0.mk hc0; clear hr0 hc0
 have HB := Aside0.mk (Below.refl w.heap.size w)
 have H : ((impl_KeepOk.f k l0).bind fun t987 => (if t987 = true then (if 0 ≤ (l0.length : Int) then (if ((l0.length : Int) : Int).toNat ≤ 35184372088832 then ((some (List.replicate ((l0.length : Int) : Int).toNat 0 : List Int)).bind fun y988 => (impl_GraphDeep.l0 k l0 y988 (y988.length : Int) 0)) else (none)) else (none)) else (some (-1)))) = some r := h
 clear h
 replace H := Option.bind_eq_some_iff.mp H
 obtain ⟨t987, A20, H⟩ := H
 replace H : (if t987 = true then (if 0 ≤ (l0.length : Int) then (if ((l0.length : Int) : Int).toNat ≤ 35184372088832 then ((some (List.replicate ((l0.length : Int) : Int).toNat 0 : List Int)).bind fun y988 => (impl_GraphDeep.l0 k l0 y988 (y988.length : Int) 0)) else (none)) else (none)) else (some (-1))) = some r := H
 have A2 := Aside0.mk A20; clear A20
 by_cases c3 : t987 = true
 · subst c3
   have H1 : (if 0 ≤ (l0.length : Int) then (if ((l0.length : Int) : Int).toNat ≤ 35184372088832 then ((some (List.replicate ((l0.length : Int) : Int).toNat 0 : List Int)).bind fun y988 => (impl_GraphDeep.l0 k l0 y988 (y988.length : Int) 0)) else (none)) else (none)) = some r := by rw [if_pos rfl] at H; exact H
   clear H
   have H := H1
   clear H1
   by_cases c4 : 0 ≤ (l0.length : Int)
   · rw [if_pos c4] at H
     have c4b0 := eq_true c4
     have c4b1 : decide (0 ≤ (l0.length : Int)) = true := decide_eq_true c4
     clear c4
     by_cases c5 : ((l0.length : Int) : Int).toNat ≤ 35184372088832
     · rw [if_pos c5] at H
       have c5b0 := eq_true c5
       have c5b1 : decide (((l0.length : Int) : Int).toNat ≤ 35184372088832) = true := decide_eq_true c5
       clear c5
       obtain ⟨y988, hy988⟩ : ∃ y_ : List Int, y_ = (List.replicate ((l0.length : Int) : Int).toNat 0) := ⟨_, rfl⟩
       replace H : (impl_GraphDeep.l0 k l0 y988 (y988.length : Int) 0) = some r := by first | (rw [hy988]; with_reducible exact H) | (have H2_ := (Option.bind_some _ _).symm.trans H; rw [hy988]; with_reducible exact H2_) | (have H2_ := (Option.bind_some _ _).symm.trans H; with_reducible exact H2_) | with_reducible exact H | (rw [hy988]; exact H) | exact H
       have Ny988 := Aside0.mk hy988; clear hy988
       have H' := Aside0.mk H
       clear H
       go_enter Try.func45, Try.ntmps45
       go_wp2_with (first | ((with_reducible refine gate_callee (f := 32) rfl ?_); refine goesL_ (some 14) rfl rfl Try.func32 (by kernel_rfl) rfl #[.slice A0 l0.length c0] rfl (by (try simp only [List.map_toArray, List.map_cons, List.map_nil]); first | done | rfl | (simp only [List.length_drop, List.length_take]; rfl)) ?_; (with_reducible refine (impl_KeepOk.calls k _ _ l0 true _ ?side1 ?side2 A2.out).mono ?_); (case side1 => repeat (first | exact HR0.out | (with_reducible refine Kd.C_alloc ?_ _) | (with_reducible refine Kd.C_drewN ?_ _) | (with_reducible refine Kd.C_drew ?_))); (case side2 => exact HC0.out); rintro e w6 ⟨rfl, hb⟩; refine ⟨_, rfl, ?_⟩; have n0_ := Aside0.mk (below_step (by repeat (first | (with_reducible first | exact HB.out | apply below_alloc | apply pw_below_drewN | apply below_drew1) | exact HB.out)) hb); clear HB; have HB := n0_; clear n0_; (try clear hb); (try clear hb2); (try clear hk); (try clear hi)) | ((with_reducible refine gate_dst (N := 18) rfl ?_); refine Kd.R_make (Kd.int .i64) _ 3 rfl (N := 18) rfl 63 _ _ rfl (l0.length : Int) rfl rfl Try.underlying63 (.int .i64 0) 8 info3 rfl (by decide) (by omega) 0 (ok := fun _ => True) (okp := fun _ => True) rfl (fun _ hk => hk) trivial (of_decide_eq_true (by first | (with_reducible assumption) | assumption)) (Nat.le_trans (Nat.mul_le_mul_right _ (of_decide_eq_true (by first | (with_reducible assumption) | assumption) : (l0.length : Int).toNat ≤ 35184372088832)) (by omega)) (Below.refl _ _) (Nat.le_refl _) ?_; intro v989 w7 ho8 hb hg_ hnew_; clear hg_ hnew_; (first | rw [← Ny988.out] at ho8 | (simp only [Int.reduceToNat] at ho8; rw [← Ny988.out] at ho8)); have n0_ := Aside0.mk (Kd.R_lower ho8 (below_size (by repeat (first | (with_reducible first | exact HB.out | apply below_alloc | apply pw_below_drewN | apply below_drew1) | exact HB.out)))); have n1_ := Aside0.mk (below_step (by repeat (first | (with_reducible first | exact HB.out | apply below_alloc | apply pw_below_drewN | apply below_drew1) | exact HB.out)) hb); clear HB; have HO990 := n0_; have HB := n1_; clear n0_ n1_ hb ho8; obtain ⟨Ao9, co9, eo9⟩ := Kd.R_slice HO990.out; subst eo9))
       go_loopg [21] k (fun kq v21 w' => ∃ (x3_1 : List Int) (x21_1 : Int), v21 = .int .i64 x21_1 ∧ Aside0 (impl_GraphDeep.l0 kq l0 x3_1 (y988.length : Int) x21_1 = some r) ∧ Aside0 (kq ≤ k) ∧ Aside0 (Kd.R (Kd.int .i64) 3 w' w.heap.size (fun _ => True) (.slice Ao9 y988.length co9) x3_1) ∧ Aside0 (Below w.heap.size w w'))
       case atStart => exact ⟨(y988), (0), (by first | rfl | (simp; done) | (simp [*]; done)), H', ⟨Nat.le_refl _⟩, ⟨by (with_reducible repeat (first | apply Kd.R_alloc | apply Kd.R_drewN | apply Kd.R_drew)); exact HO990.out⟩, ⟨by repeat (first | (with_reducible first | exact HB.out | apply below_alloc | apply pw_below_drewN | apply below_drew1) | exact HB.out)⟩⟩
       clear H'
       try clear p2; try clear c3; try clear c4; try clear c4b0; try clear c4b1; try clear c5; try clear c5b0; try clear c5b1
       obtain ⟨x3_1, x21_1, rfl, HA, HK1, HO_3, HB⟩ := hrel
       have hl3_1 := (Kd.R_reads' HO_3.out).1
       rw [hl3_1] at HO_3
       (try simp only [hl3_1])
       obtain _ | k1 := gk
       · exact absurd HA.out (by simp [impl_GraphDeep.l0])
       have H := HA.out
       clear HA
       simp only [impl_GraphDeep.l0] at H
       by_cases c10 : x21_1 < (y988.length : Int)
       · rw [if_pos c10] at H
         have c10b0 : decide (x21_1 < (y988.length : Int)) = true := decide_eq_true c10
         clear c10
         by_cases c11 : 0 ≤ x21_1
         · rw [if_pos c11] at H
           have c11b0 : decide (0 ≤ x21_1) = true := decide_eq_true c11
           clear c11
           by_cases c12 : x21_1 < (x3_1.length : Int)
           · rw [if_pos c12] at H
             have c12b0 : decide (x21_1 < (x3_1.length : Int)) = true := decide_eq_true c12
             clear c12
             obtain ⟨y991, hy991⟩ : ∃ y_ : List Int, y_ = (x3_1.set (x21_1 : Int).toNat (-1)) := ⟨_, rfl⟩
             replace H : (impl_GraphDeep.l0 k1 l0 y991 (y988.length : Int) (wrap64 (x21_1 + 1))) = some r := by first | (rw [hy991]; with_reducible exact H) | (have H2_ := (Option.bind_some _ _).symm.trans H; rw [hy991]; with_reducible exact H2_) | (have H2_ := (Option.bind_some _ _).symm.trans H; with_reducible exact H2_) | with_reducible exact H | (rw [hy991]; exact H) | exact H
             have Ny991 := Aside0.mk hy991; clear hy991
             have H' := Aside0.mk H
             clear H
             have p13 : 0 ≤ (x21_1 : Int) := of_decide_eq_true (by first | (with_reducible assumption) | assumption)
             have q13 : (x21_1 : Int) < ((x3_1.length : Int) : Int) := of_decide_eq_true (by first | (with_reducible assumption) | assumption)
             obtain ⟨go13, co13, eo13, gb13, gl13, cl13, HG13⟩ := Kd.R_form HO_3.out (by omega)
             (first | cases eo13 | (injection eo13 with ea_ en_ ec_; (first | subst ea_ | (injection ea_ with ea_; subst ea_)); subst ec_; clear en_))
             have GB13 := Aside0.mk gb13; have GG13 := Aside0.mk HG13; clear gb13 gl13 HG13
             obtain ⟨hx13_0, hf13_0⟩ := Kd.R_celln 0 HO_3.out (x21_1 : Int) p13 q13
             replace p13 := eq_true p13; replace q13 := eq_true q13
             have HP14 := Kd.R_putg HO_3.out (x21_1 : Int) (-1)
             go_wp2_with (first | ((with_reducible refine gate_store (t := 3) (p := 26) rfl ?_); refine store_event (t := 3) (p := 26) (v := ?vo_w15) (w1 := (wr.setCell ⟨go13, (x21_1 : Int).toNat, none⟩ (.int .i64 (-1)))) ?hg ?ho ?hn ?hr ?_; (case ho => rfl); (case hg => rfl); (case hn => rfl); (case hr => first | (go_simp; done) | (go_simp; rfl) | ((try (obtain ⟨_, _, e_⟩ := Kd.R_slice HO_3.out; subst e_)); first | (go_simp; done) | (go_simp; rfl))); intro w15 hw; have hg : wr.grownBy w15 (some go13) := (by rw [hw]; exact HP14.2); have hp_ : Kd.R (Kd.int .i64) 3 w15 w.heap.size (fun _ => True) (.slice (some ⟨go13, 0, none⟩) x3_1.length co9) y991 := (by rw [hw, Ny991.out]; exact HP14.1); clear HP14; have n0_ := Aside0.mk (hp_); have n1_ := Aside0.mk ((by rw [hw]; exact below_set (HB.out) GB13.out : Below w.heap.size w w15)); clear HO_3 HB; have HO_3 := n0_; have HB := n1_; clear n0_ n1_ hg hw hp_))
             (try simp only [← hl3_1])
             go_roundg k1
             case measure => have := HK1.out; omega
             case rel => exact ⟨(y991), (wrap64 (x21_1 + 1)), (by first | rfl | (simp; done) | (simp [*]; done)), H', ⟨by have := HK1.out; omega⟩, ⟨by (try simp only [hl3_1]); (with_reducible repeat (first | apply Kd.R_alloc | apply Kd.R_drewN | apply Kd.R_drew)); exact HO_3.out⟩, ⟨by repeat (first | (with_reducible first | exact HB.out | apply below_alloc | apply pw_below_drewN | apply below_drew1) | exact HB.out)⟩⟩
           rw [if_neg c12] at H
           exact absurd H (by simp)
         rw [if_neg c11] at H
         exact absurd H (by simp)
       rw [if_neg c10] at H
       have c10b0 : decide (x21_1 < (y988.length : Int)) = false := decide_eq_false c10
       have c10b7 : decide (x21_1 < (x3_1.length : Int)) = false := by rw [← hl3_1]; exact c10b0
       clear c10
       by_cases c16 : 0 < (x3_1.length : Int)
       · rw [if_pos c16] at H
         have c16b0 : decide (0 < (x3_1.length : Int)) = true := decide_eq_true c16
         have c16b1 : decide (0 < x3_1.length) = true := decide_eq_true (by omega)
         clear c16
         obtain ⟨y992, hy992⟩ : ∃ y_ : List Int, y_ = (x3_1.set (0 : Int).toNat 0) := ⟨_, rfl⟩
         replace H : (impl_GraphDeep.l1 k1 l0 y992 0) = some r := by first | (rw [hy992]; with_reducible exact H) | (have H2_ := (Option.bind_some _ _).symm.trans H; rw [hy992]; with_reducible exact H2_) | (have H2_ := (Option.bind_some _ _).symm.trans H; with_reducible exact H2_) | with_reducible exact H | (rw [hy992]; exact H) | exact H
         have Ny992 := Aside0.mk hy992; clear hy992
         have H' := Aside0.mk H
         clear H
         have p17 : 0 ≤ (0 : Int) := (by omega)
         have q17 : (0 : Int) < ((x3_1.length : Int) : Int) := of_decide_eq_true (by first | (with_reducible assumption) | assumption)
         have qi17 : (0 < x3_1.length) = True := eq_true (by omega)
         obtain ⟨go17, co17, eo17, gb17, gl17, cl17, HG17⟩ := Kd.R_form HO_3.out (by omega)
         (first | cases eo17 | (injection eo17 with ea_ en_ ec_; (first | subst ea_ | (injection ea_ with ea_; subst ea_)); subst ec_; clear en_))
         have GB17 := Aside0.mk gb17; have GG17 := Aside0.mk HG17; clear gb17 gl17 HG17
         obtain ⟨hx17_0, hf17_0⟩ := Kd.R_celln 0 HO_3.out (0 : Int) p17 q17
         (try rw [show ((0 : Int)).toNat = 0 from rfl] at hx17_0)
         (try simp only [Nat.reduceMul, Nat.zero_mul, Nat.zero_add, Nat.reduceAdd] at hx17_0)
         (try rw [show ((0 : Int)).toNat = 0 from rfl] at hf17_0)
         (try simp only [Nat.reduceMul, Nat.zero_mul, Nat.zero_add, Nat.reduceAdd] at hf17_0)
         replace p17 := eq_true p17; replace q17 := eq_true q17
         have HP18 := Kd.R_putg HO_3.out (0 : Int) 0
         go_wp2_with (first | ((with_reducible refine gate_store (t := 3) (p := 29) rfl ?_); refine store_event (t := 3) (p := 29) (v := ?vo_w19) (w1 := (wr.setCell ⟨go17, (0 : Int).toNat, none⟩ (.int .i64 0))) ?hg ?ho ?hn ?hr ?_; (case ho => rfl); (case hg => rfl); (case hn => rfl); (case hr => first | (go_simp; done) | (go_simp; rfl) | ((try (obtain ⟨_, _, e_⟩ := Kd.R_slice HO_3.out; subst e_)); first | (go_simp; done) | (go_simp; rfl))); intro w19 hw; have hg : wr.grownBy w19 (some go17) := (by rw [hw]; exact HP18.2); have hp_ : Kd.R (Kd.int .i64) 3 w19 w.heap.size (fun _ => True) (.slice (some ⟨go17, 0, none⟩) x3_1.length co9) y992 := (by rw [hw, Ny992.out]; exact HP18.1); clear HP18; have n0_ := Aside0.mk (hp_); have n1_ := Aside0.mk ((by rw [hw]; exact below_set (HB.out) GB17.out : Below w.heap.size w w19)); clear HO_3 HB; have HO_3 := n0_; have HB := n1_; clear n0_ n1_ hg hw hp_))
         go_loopg [5] k1 (fun kq v5 w' => ∃ (x3_2 : List Int) (x5_2 : Int), v5 = .int .i64 x5_2 ∧ Aside0 (impl_GraphDeep.l1 kq l0 x3_2 x5_2 = some r) ∧ Aside0 (kq ≤ k1) ∧ Aside0 (Kd.R (Kd.int .i64) 3 w' w.heap.size (fun _ => True) (.slice (some ⟨go17, 0, none⟩) x3_1.length co9) x3_2) ∧ Aside0 (Below w.heap.size w w'))
         case atStart => exact ⟨(y992), (0), (by first | rfl | (simp; done) | (simp [*]; done)), H', ⟨Nat.le_refl _⟩, ⟨by (try simp only [hl3_1]); (with_reducible repeat (first | apply Kd.R_alloc | apply Kd.R_drewN | apply Kd.R_drew)); exact HO_3.out⟩, ⟨by repeat (first | (with_reducible first | exact HB.out | apply below_alloc | apply pw_below_drewN | apply below_drew1) | exact HB.out)⟩⟩
         clear H'
         try clear c1; try clear p1; try clear q1; try clear hx1; try clear qi1; try clear hf1; try clear p2; try clear c3; try clear c4; try clear c4b0; try clear c4b1; try clear c5; try clear c5b0; try clear c5b1; try clear p6; try clear c10; try clear c10b0; try clear c11; try clear c11b0; try clear c12; try clear c12b0; try clear p13; try clear q13; try clear hx13; try clear hf13; try clear c16; try clear c16b0; try clear c16b1; try clear p17; try clear q17; try clear hx17; try clear qi17; try clear hf17; try clear hx13_0; try clear hx17_0; try clear p13; try clear p17; try clear p2; try clear q13; try clear q17
         obtain ⟨x3_2, x5_2, rfl, HA, HK2, HO_3, HB⟩ := hrel
         have hl3_2 := (Kd.R_reads' HO_3.out).1
         rw [hl3_2] at HO_3
         (try simp only [hl3_2])
         obtain _ | k2 := gk
         · exact absurd HA.out (by simp [impl_GraphDeep.l1])
         have H := HA.out
         clear HA
         simp only [impl_GraphDeep.l1] at H
         by_cases c20 : x5_2 ≤ (l0.length : Int)
         · rw [if_pos c20] at H
           have c20b0 : decide (x5_2 ≤ (l0.length : Int)) = true := decide_eq_true c20
           clear c20
           have H' := Aside0.mk H
           clear H
           go_wp2
           go_loopg [6, 38] k2 (fun kq v6 v38 w' => ∃ (x3_3 : List Int) (x6_3 : Bool) (x38_3 : Int), v6 = .bool x6_3 ∧ v38 = .int .i64 x38_3 ∧ Aside0 (impl_GraphDeep.l2 kq l0 x3_3 x5_2 x6_3 l0 (l0.length : Int) x38_3 = some r) ∧ Aside0 (kq ≤ k2) ∧ Aside0 (Kd.R (Kd.int .i64) 3 w' w.heap.size (fun _ => True) (.slice (some ⟨go17, 0, none⟩) x3_2.length co9) x3_3) ∧ Aside0 (Below w.heap.size w w'))
           case atStart => exact ⟨(x3_2), (false), (0), (by first | rfl | (simp; done) | (simp [*]; done)), (by first | rfl | (simp; done) | (simp [*]; done)), H', ⟨Nat.le_refl _⟩, ⟨by (try simp only [hl3_1]); (try simp only [hl3_2]); (with_reducible repeat (first | apply Kd.R_alloc | apply Kd.R_drewN | apply Kd.R_drew)); exact HO_3.out⟩, ⟨by repeat (first | (with_reducible first | exact HB.out | apply below_alloc | apply pw_below_drewN | apply below_drew1) | exact HB.out)⟩⟩
           clear H'
           try clear c1; try clear p1; try clear q1; try clear hx1; try clear qi1; try clear hf1; try clear c2; try clear p2; try clear c3; try clear c4; try clear c4b0; try clear c4b1; try clear c5; try clear c5b0; try clear c5b1; try clear p6; try clear c10; try clear c10b0; try clear c11; try clear c11b0; try clear c12; try clear c12b0; try clear p13; try clear q13; try clear hx13; try clear hf13; try clear c16; try clear c16b0; try clear c16b1; try clear p17; try clear q17; try clear hx17; try clear qi17; try clear hf17; try clear c20; try clear c20b0; try clear hx13_0; try clear hx17_0; try clear p1; try clear p13; try clear p17; try clear p2; try clear p6; try clear q1; try clear q13; try clear q17
           obtain ⟨x3_3, x6_3, x38_3, rfl, rfl, HA, HK3, HO_3, HB⟩ := hrel
           have hl3_3 := (Kd.R_reads' HO_3.out).1
           rw [hl3_3] at HO_3
           (try simp only [hl3_3])
           obtain _ | k3 := gk
           · exact absurd HA.out (by simp [impl_GraphDeep.l2])
           have H := HA.out
           clear HA
           simp only [impl_GraphDeep.l2] at H
           by_cases c21 : x38_3 < (l0.length : Int)
           · rw [if_pos c21] at H
             have c21b0 : decide (x38_3 < (l0.length : Int)) = true := decide_eq_true c21
             clear c21
             by_cases c22 : 0 ≤ x38_3
             · rw [if_pos c22] at H
               have c22b0 : decide (0 ≤ x38_3) = true := decide_eq_true c22
               clear c22
               by_cases c23 : x38_3 < (l0.length : Int)
               · rw [if_pos c23] at H
                 have c23b0 : decide (x38_3 < (l0.length : Int)) = true := decide_eq_true c23
                 clear c23
                 by_cases c24 : x38_3 < (x3_3.length : Int)
                 · rw [if_pos c24] at H
                   have c24b0 : decide (x38_3 < (x3_3.length : Int)) = true := decide_eq_true c24
                   clear c24
                   by_cases c25 : (rd x3_3 x38_3) < 0
                   · rw [if_pos c25] at H
                     have c25b0 : decide ((rd x3_3 x38_3) < 0) = true := decide_eq_true c25
                     clear c25
                     have H' := Aside0.mk H
                     clear H
                     have p993 : 0 ≤ (x38_3 : Int) := of_decide_eq_true (by first | (with_reducible assumption) | assumption)
                     have q993 : x38_3 < (l0.length : Int) := of_decide_eq_true (by first | (with_reducible assumption) | assumption)
                     obtain ⟨ad993, A993_2, c993_2, e993, hx993_0, hx993_1, hx993_2, hl993_2, hi993_2⟩ := at_T52 HR0.out x38_3 p993 q993
                     cases e993
                     replace hx993_0 := (HB.out.cell (World.block_lt_of_cell? w _ hx993_0)).trans hx993_0
                     replace hx993_1 := (HB.out.cell (World.block_lt_of_cell? w _ hx993_1)).trans hx993_1
                     replace hx993_2 := (HB.out.cell (World.block_lt_of_cell? w _ hx993_2)).trans hx993_2
                     have HR993_2 := Aside0.mk hi993_2; have HC993_2 := Aside0.mk hl993_2; clear hi993_2 hl993_2; replace p993 := eq_true p993; replace q993 := eq_true q993
                     go_wp2_with (first | ((with_reducible refine gate_dst (N := 8) rfl ?_); refine box_event ?hg (N := 8) ?hd (cs := #[.string (⟨#[]⟩ : ByteArray), .bool false, .slice none 0 0]) (t := 52) ?hr ?_; (case hd => rfl); (case hg => rfl); (case hr => first | (go_simp; done) | (go_simp; rfl)); intro gb994 hg w26 hbox hb; have n0_ := Aside0.mk (Kd.R_below (by (with_reducible repeat (first | apply Kd.R_alloc | apply Kd.R_drewN | apply Kd.R_drew)); exact HO_3.out) hb); have n1_ := Aside0.mk (below_step (by repeat (first | (with_reducible first | exact HB.out | apply below_alloc | apply pw_below_drewN | apply below_drew1) | exact HB.out)) hb); have n2_ := Aside0.mk (hbox); have n3_ := Aside0.mk ((by rw [hg]; exact (below_size (by repeat (first | (with_reducible first | exact HB.out | apply below_alloc | apply pw_below_drewN | apply below_drew1) | exact HB.out))) : w.heap.size ≤ gb994)); have n4_ := Aside0.mk ((by rw [hg]; exact (below_size (by repeat (first | (with_reducible first | exact HB.out | apply below_alloc | apply pw_below_drewN | apply below_drew1) | exact HB.out))) : w.heap.size ≤ gb994)); clear HO_3 HB; have HO_3 := n0_; have HB := n1_; have BK994 := n2_; have GW994 := n3_; have GE994 := n4_; clear n0_ n1_ n2_ n3_ n4_ hb hbox hg; have hcz27_0 : w26.cell? ⟨gb994, 0, none⟩ = some (.string (⟨#[]⟩ : ByteArray)) := (blk_cell BK994.out 0).trans rfl; have hcz27_1 : w26.cell? ⟨gb994, 1, none⟩ = some (.bool false) := (blk_cell BK994.out 1).trans rfl; have hcz27_2 : w26.cell? ⟨gb994, 2, none⟩ = some (.slice none 0 0) := (blk_cell BK994.out 2).trans rfl; have hfz27_0 := blk_frozen BK994.out 0; have hfz27_1 := blk_frozen BK994.out 1; have hfz27_2 := blk_frozen BK994.out 2; have p995 : 0 ≤ (x38_3 : Int) := of_decide_eq_true (by first | (with_reducible assumption) | assumption); have q995 : x38_3 < (x3_3.length : Int) := of_decide_eq_true (by first | (with_reducible assumption) | assumption); obtain ⟨ad995, e995, hx995_0⟩ := Kd.at_int (Kd.R_reads' HO_3.out).2.2 x38_3 p995 q995; obtain rfl : (⟨go17, 0, none⟩ : Addr) = ad995 := (by injection e995); (first | simp only [add_plain] at hx995_0 | simp only [add_at] at hx995_0 | simp only [Addr.add, Nat.zero_add] at hx995_0 | skip); have hn995_0 : (⟨go17, 0, none⟩ : Addr).block ≠ gb994 := Kd.own_blk (Kd.R_ne HO_3.out BK994.out (by decide)); have hn995_1 : (⟨go17, 0, none⟩ : Addr).block ≠ gb994 := Kd.own_blk (Kd.R_ne HO_3.out BK994.out (by decide)); have hn995_2 : (⟨go17, 0, none⟩ : Addr).block ≠ gb994 := Kd.own_blk (Kd.R_ne HO_3.out BK994.out (by decide)); replace hx995_0 := (cell_far (p := ⟨gb994, 0, none⟩) (by first | (rw [add_block]; exact hn995_0) | (show (Addr.add _ _).block ≠ _; rw [add_block]; exact hn995_0) | exact hn995_0) (.string ((rd_T52 l0 x38_3).f0))).trans hx995_0; replace hx995_0 := (cell_far (p := ⟨gb994, 1, none⟩) (by first | (rw [add_block]; exact hn995_1) | (show (Addr.add _ _).block ≠ _; rw [add_block]; exact hn995_1) | exact hn995_1) (.bool ((rd_T52 l0 x38_3).f1))).trans hx995_0; replace hx995_0 := (cell_far (p := ⟨gb994, 2, none⟩) (by first | (rw [add_block]; exact hn995_2) | (show (Addr.add _ _).block ≠ _; rw [add_block]; exact hn995_2) | exact hn995_2) (.slice A993_2 ((rd_T52 l0 x38_3).f2).length c993_2)).trans hx995_0; clear hn995_0 hn995_1 hn995_2; replace p995 := eq_true p995; replace q995 := eq_true q995))
                     (try simp only [← hl3_3])
                     go_roundg k3
                     case measure => have := HK1.out; have := HK2.out; have := HK3.out; omega
                     case rel => exact ⟨(x3_3), (x6_3), (wrap64 (x38_3 + 1)), (by first | rfl | (simp; done) | (simp [*]; done)), (by first | rfl | (simp; done) | (simp [*]; done)), H', ⟨by have := HK1.out; have := HK2.out; have := HK3.out; omega⟩, ⟨by (try simp only [hl3_1]); (try simp only [hl3_2]); (try simp only [hl3_3]); (with_reducible repeat (first | apply Kd.R_alloc | apply Kd.R_drewN | apply Kd.R_drew)); exact Kd.R_mono (Kd.R_far (p := ⟨gb994, 2, none⟩) (Kd.R_far (p := ⟨gb994, 1, none⟩) (Kd.R_far (p := ⟨gb994, 0, none⟩) (Kd.R_types HO_3.out BK994.out (by decide)) (fun _ hk => hk.2) (.string ((rd_T52 l0 x38_3).f0))) (fun _ hk => hk.2) (.bool ((rd_T52 l0 x38_3).f1))) (fun _ hk => hk.2) (.slice A993_2 ((rd_T52 l0 x38_3).f2).length c993_2)) (fun _ hk => trivial)⟩, ⟨by repeat (first | (with_reducible first | exact HB.out | apply below_alloc | apply pw_below_drewN | apply below_drew1 | refine below_set ?_ GE994.out) | exact HB.out)⟩⟩
                   rw [if_neg c25] at H
                   have c25b0 : decide ((rd x3_3 x38_3) < 0) = false := decide_eq_false c25
                   clear c25
                   have H' := Aside0.mk H
                   clear H
                   have p993 : 0 ≤ (x38_3 : Int) := of_decide_eq_true (by first | (with_reducible assumption) | assumption)
                   have q993 : x38_3 < (l0.length : Int) := of_decide_eq_true (by first | (with_reducible assumption) | assumption)
                   obtain ⟨ad993, A993_2, c993_2, e993, hx993_0, hx993_1, hx993_2, hl993_2, hi993_2⟩ := at_T52 HR0.out x38_3 p993 q993
                   cases e993
                   replace hx993_0 := (HB.out.cell (World.block_lt_of_cell? w _ hx993_0)).trans hx993_0
                   replace hx993_1 := (HB.out.cell (World.block_lt_of_cell? w _ hx993_1)).trans hx993_1
                   replace hx993_2 := (HB.out.cell (World.block_lt_of_cell? w _ hx993_2)).trans hx993_2
                   have HR993_2 := Aside0.mk hi993_2; have HC993_2 := Aside0.mk hl993_2; clear hi993_2 hl993_2; replace p993 := eq_true p993; replace q993 := eq_true q993
                   go_wp2_with (first | ((with_reducible refine gate_dst (N := 8) rfl ?_); refine box_event ?hg (N := 8) ?hd (cs := #[.string (⟨#[]⟩ : ByteArray), .bool false, .slice none 0 0]) (t := 52) ?hr ?_; (case hd => rfl); (case hg => rfl); (case hr => first | (go_simp; done) | (go_simp; rfl)); intro gb994 hg w28 hbox hb; have n0_ := Aside0.mk (Kd.R_below (by (with_reducible repeat (first | apply Kd.R_alloc | apply Kd.R_drewN | apply Kd.R_drew)); exact HO_3.out) hb); have n1_ := Aside0.mk (below_step (by repeat (first | (with_reducible first | exact HB.out | apply below_alloc | apply pw_below_drewN | apply below_drew1) | exact HB.out)) hb); have n2_ := Aside0.mk (hbox); have n3_ := Aside0.mk ((by rw [hg]; exact (below_size (by repeat (first | (with_reducible first | exact HB.out | apply below_alloc | apply pw_below_drewN | apply below_drew1) | exact HB.out))) : w.heap.size ≤ gb994)); have n4_ := Aside0.mk ((by rw [hg]; exact (below_size (by repeat (first | (with_reducible first | exact HB.out | apply below_alloc | apply pw_below_drewN | apply below_drew1) | exact HB.out))) : w.heap.size ≤ gb994)); clear HO_3 HB; have HO_3 := n0_; have HB := n1_; have BK994 := n2_; have GW994 := n3_; have GE994 := n4_; clear n0_ n1_ n2_ n3_ n4_ hb hbox hg; have hcz29_0 : w28.cell? ⟨gb994, 0, none⟩ = some (.string (⟨#[]⟩ : ByteArray)) := (blk_cell BK994.out 0).trans rfl; have hcz29_1 : w28.cell? ⟨gb994, 1, none⟩ = some (.bool false) := (blk_cell BK994.out 1).trans rfl; have hcz29_2 : w28.cell? ⟨gb994, 2, none⟩ = some (.slice none 0 0) := (blk_cell BK994.out 2).trans rfl; have hfz29_0 := blk_frozen BK994.out 0; have hfz29_1 := blk_frozen BK994.out 1; have hfz29_2 := blk_frozen BK994.out 2; have p995 : 0 ≤ (x38_3 : Int) := of_decide_eq_true (by first | (with_reducible assumption) | assumption); have q995 : x38_3 < (x3_3.length : Int) := of_decide_eq_true (by first | (with_reducible assumption) | assumption); obtain ⟨ad995, e995, hx995_0⟩ := Kd.at_int (Kd.R_reads' HO_3.out).2.2 x38_3 p995 q995; obtain rfl : (⟨go17, 0, none⟩ : Addr) = ad995 := (by injection e995); (first | simp only [add_plain] at hx995_0 | simp only [add_at] at hx995_0 | simp only [Addr.add, Nat.zero_add] at hx995_0 | skip); have hn995_0 : (⟨go17, 0, none⟩ : Addr).block ≠ gb994 := Kd.own_blk (Kd.R_ne HO_3.out BK994.out (by decide)); have hn995_1 : (⟨go17, 0, none⟩ : Addr).block ≠ gb994 := Kd.own_blk (Kd.R_ne HO_3.out BK994.out (by decide)); have hn995_2 : (⟨go17, 0, none⟩ : Addr).block ≠ gb994 := Kd.own_blk (Kd.R_ne HO_3.out BK994.out (by decide)); replace hx995_0 := (cell_far (p := ⟨gb994, 0, none⟩) (by first | (rw [add_block]; exact hn995_0) | (show (Addr.add _ _).block ≠ _; rw [add_block]; exact hn995_0) | exact hn995_0) (.string ((rd_T52 l0 x38_3).f0))).trans hx995_0; replace hx995_0 := (cell_far (p := ⟨gb994, 1, none⟩) (by first | (rw [add_block]; exact hn995_1) | (show (Addr.add _ _).block ≠ _; rw [add_block]; exact hn995_1) | exact hn995_1) (.bool ((rd_T52 l0 x38_3).f1))).trans hx995_0; replace hx995_0 := (cell_far (p := ⟨gb994, 2, none⟩) (by first | (rw [add_block]; exact hn995_2) | (show (Addr.add _ _).block ≠ _; rw [add_block]; exact hn995_2) | exact hn995_2) (.slice A993_2 ((rd_T52 l0 x38_3).f2).length c993_2)).trans hx995_0; clear hn995_0 hn995_1 hn995_2; replace p995 := eq_true p995; replace q995 := eq_true q995))
                   go_loopg [6, 51] k3 (fun kq v6 v51 w' => ∃ (x3_4 : List Int) (x6_4 : Bool) (x51_4 : Int), v6 = .bool x6_4 ∧ v51 = .int .i64 x51_4 ∧ Aside0 (impl_GraphDeep.l3 kq l0 x3_4 x5_2 x6_4 x38_3 l0 (l0.length : Int) x38_3 ((rd_T52 l0 x38_3).f2) (((rd_T52 l0 x38_3).f2).length : Int) x51_4 = some r) ∧ Aside0 (kq ≤ k3) ∧ Aside0 (Kd.R (Kd.int .i64) 3 w' w.heap.size (fun _ => True) (.slice (some ⟨go17, 0, none⟩) x3_3.length co9) x3_4) ∧ Aside0 (w'.heap[gb994]? = some (.cells #[.string ((rd_T52 l0 x38_3).f0), .bool ((rd_T52 l0 x38_3).f1), (.slice A993_2 ((rd_T52 l0 x38_3).f2).length c993_2)] 52 (0, 0))) ∧ Aside0 (Below w.heap.size w w'))
                   case atStart => exact ⟨(x3_3), (x6_3), (0), (by first | rfl | (simp; done) | (simp [*]; done)), (by first | rfl | (simp; done) | (simp [*]; done)), H', ⟨Nat.le_refl _⟩, ⟨by (try simp only [hl3_1]); (try simp only [hl3_2]); (try simp only [hl3_3]); (with_reducible repeat (first | apply Kd.R_alloc | apply Kd.R_drewN | apply Kd.R_drew)); exact Kd.R_mono (Kd.R_far (p := ⟨gb994, 2, none⟩) (Kd.R_far (p := ⟨gb994, 1, none⟩) (Kd.R_far (p := ⟨gb994, 0, none⟩) (Kd.R_types HO_3.out BK994.out (by decide)) (fun _ hk => hk.2) (.string ((rd_T52 l0 x38_3).f0))) (fun _ hk => hk.2) (.bool ((rd_T52 l0 x38_3).f1))) (fun _ hk => hk.2) (.slice A993_2 ((rd_T52 l0 x38_3).f2).length c993_2)) (fun _ hk => trivial)⟩, ⟨by (try simp only [hl3_1]); (try simp only [hl3_2]); (try simp only [hl3_3]); (with_reducible repeat (first | refine blk_drewN ?_ _ | refine blk_drew ?_ | refine blk_alloc ?_ _)); refine blk_put (cs := #[.string ((rd_T52 l0 x38_3).f0), .bool ((rd_T52 l0 x38_3).f1), .slice none 0 0]) ?_ 2 _ rfl; (with_reducible repeat (first | refine blk_drewN ?_ _ | refine blk_drew ?_ | refine blk_alloc ?_ _)); refine blk_put (cs := #[.string ((rd_T52 l0 x38_3).f0), .bool false, .slice none 0 0]) ?_ 1 _ rfl; (with_reducible repeat (first | refine blk_drewN ?_ _ | refine blk_drew ?_ | refine blk_alloc ?_ _)); refine blk_put (cs := #[.string (⟨#[]⟩ : ByteArray), .bool false, .slice none 0 0]) ?_ 0 _ rfl; (with_reducible repeat (first | refine blk_drewN ?_ _ | refine blk_drew ?_ | refine blk_alloc ?_ _)); exact BK994.out⟩, ⟨by repeat (first | (with_reducible first | exact HB.out | apply below_alloc | apply pw_below_drewN | apply below_drew1 | refine below_set ?_ GE994.out) | exact HB.out)⟩⟩
                   clear H'
                   try clear c1; try clear p1; try clear q1; try clear hx1; try clear qi1; try clear hf1; try clear c2; try clear p2; try clear c3; try clear c4; try clear c4b0; try clear c4b1; try clear c5; try clear c5b0; try clear c5b1; try clear p6; try clear c9; try clear p9; try clear q9; try clear hx9; try clear c10; try clear c10b0; try clear c11; try clear c11b0; try clear c12; try clear c12b0; try clear p13; try clear q13; try clear hx13; try clear hf13; try clear c16; try clear c16b0; try clear c16b1; try clear p17; try clear q17; try clear hx17; try clear qi17; try clear hf17; try clear c20; try clear c20b0; try clear c21; try clear c21b0; try clear c22; try clear c22b0; try clear c23; try clear c23b0; try clear c24; try clear c24b0; try clear c25; try clear c25b0; try clear hcz27_0; try clear hcz27_1; try clear hcz27_2; try clear hcz29_0; try clear hcz29_1; try clear hcz29_2; try clear hfz27_0; try clear hfz27_1; try clear hfz27_2; try clear hfz29_0; try clear hfz29_1; try clear hfz29_2; try clear hx13_0; try clear hx17_0; try clear hx993_0; try clear hx993_1; try clear hx993_2; try clear hx995_0; try clear p1; try clear p13; try clear p17; try clear p2; try clear p6; try clear p993
                   try clear p995; try clear q1; try clear q13; try clear q17; try clear q993; try clear q995
                   obtain ⟨x3_4, x6_4, x51_4, rfl, rfl, HA, HK4, HO_3, BK994, HB⟩ := hrel
                   have hl3_4 := (Kd.R_reads' HO_3.out).1
                   rw [hl3_4] at HO_3
                   (try simp only [hl3_4])
                   (try simp only [hl3_4] at BK994)
                   obtain _ | k4 := gk
                   · exact absurd HA.out (by simp [impl_GraphDeep.l3])
                   have H := HA.out
                   clear HA
                   simp only [impl_GraphDeep.l3] at H
                   by_cases c30 : x51_4 < (((rd_T52 l0 x38_3).f2).length : Int)
                   · rw [if_pos c30] at H
                     have c30b0 : decide (x51_4 < (((rd_T52 l0 x38_3).f2).length : Int)) = true := decide_eq_true c30
                     clear c30
                     by_cases c31 : 0 ≤ x51_4
                     · rw [if_pos c31] at H
                       have c31b0 : decide (0 ≤ x51_4) = true := decide_eq_true c31
                       clear c31
                       by_cases c32 : x51_4 < (((rd_T52 l0 x38_3).f2).length : Int)
                       · rw [if_pos c32] at H
                         have c32b0 : decide (x51_4 < (((rd_T52 l0 x38_3).f2).length : Int)) = true := decide_eq_true c32
                         clear c32
                         replace H := Option.bind_eq_some_iff.mp H
                         obtain ⟨t998, A330, H⟩ := H
                         replace H : (if t998 = true then ((impl_find.f l0 ((rd_T110 ((rd_T52 l0 x38_3).f2) x51_4).f2)).bind fun t999 => (if 0 ≤ x38_3 then (if x38_3 < (x3_4.length : Int) then (if ((rd_T110 ((rd_T52 l0 x38_3).f2) x51_4).f0) = 3 then (if 0 ≤ t999 then (if t999 < (x3_4.length : Int) then (if (wrap64 ((rd x3_4 x38_3) + 1)) > (rd x3_4 t999) then (impl_GraphDeep.l3 k4 l0 (x3_4.set (t999 : Int).toNat (wrap64 ((rd x3_4 x38_3) + 1))) x5_2 true x38_3 l0 (l0.length : Int) x38_3 ((rd_T52 l0 x38_3).f2) (((rd_T52 l0 x38_3).f2).length : Int) (wrap64 (x51_4 + 1))) else (impl_GraphDeep.l3 k4 l0 x3_4 x5_2 x6_4 x38_3 l0 (l0.length : Int) x38_3 ((rd_T52 l0 x38_3).f2) (((rd_T52 l0 x38_3).f2).length : Int) (wrap64 (x51_4 + 1)))) else (none)) else (none)) else (if 0 ≤ t999 then (if t999 < (x3_4.length : Int) then (if (rd x3_4 x38_3) > (rd x3_4 t999) then (impl_GraphDeep.l3 k4 l0 (x3_4.set (t999 : Int).toNat (rd x3_4 x38_3)) x5_2 true x38_3 l0 (l0.length : Int) x38_3 ((rd_T52 l0 x38_3).f2) (((rd_T52 l0 x38_3).f2).length : Int) (wrap64 (x51_4 + 1))) else (impl_GraphDeep.l3 k4 l0 x3_4 x5_2 x6_4 x38_3 l0 (l0.length : Int) x38_3 ((rd_T52 l0 x38_3).f2) (((rd_T52 l0 x38_3).f2).length : Int) (wrap64 (x51_4 + 1)))) else (none)) else (none))) else (none)) else (none))) else (impl_GraphDeep.l3 k4 l0 x3_4 x5_2 x6_4 x38_3 l0 (l0.length : Int) x38_3 ((rd_T52 l0 x38_3).f2) (((rd_T52 l0 x38_3).f2).length : Int) (wrap64 (x51_4 + 1)))) = some r := H
                         have A33 := Aside0.mk A330; clear A330
                         by_cases c34 : t998 = true
                         · subst c34
                           have H1 : ((impl_find.f l0 ((rd_T110 ((rd_T52 l0 x38_3).f2) x51_4).f2)).bind fun t999 => (if 0 ≤ x38_3 then (if x38_3 < (x3_4.length : Int) then (if ((rd_T110 ((rd_T52 l0 x38_3).f2) x51_4).f0) = 3 then (if 0 ≤ t999 then (if t999 < (x3_4.length : Int) then (if (wrap64 ((rd x3_4 x38_3) + 1)) > (rd x3_4 t999) then (impl_GraphDeep.l3 k4 l0 (x3_4.set (t999 : Int).toNat (wrap64 ((rd x3_4 x38_3) + 1))) x5_2 true x38_3 l0 (l0.length : Int) x38_3 ((rd_T52 l0 x38_3).f2) (((rd_T52 l0 x38_3).f2).length : Int) (wrap64 (x51_4 + 1))) else (impl_GraphDeep.l3 k4 l0 x3_4 x5_2 x6_4 x38_3 l0 (l0.length : Int) x38_3 ((rd_T52 l0 x38_3).f2) (((rd_T52 l0 x38_3).f2).length : Int) (wrap64 (x51_4 + 1)))) else (none)) else (none)) else (if 0 ≤ t999 then (if t999 < (x3_4.length : Int) then (if (rd x3_4 x38_3) > (rd x3_4 t999) then (impl_GraphDeep.l3 k4 l0 (x3_4.set (t999 : Int).toNat (rd x3_4 x38_3)) x5_2 true x38_3 l0 (l0.length : Int) x38_3 ((rd_T52 l0 x38_3).f2) (((rd_T52 l0 x38_3).f2).length : Int) (wrap64 (x51_4 + 1))) else (impl_GraphDeep.l3 k4 l0 x3_4 x5_2 x6_4 x38_3 l0 (l0.length : Int) x38_3 ((rd_T52 l0 x38_3).f2) (((rd_T52 l0 x38_3).f2).length : Int) (wrap64 (x51_4 + 1)))) else (none)) else (none))) else (none)) else (none))) = some r := by rw [if_pos rfl] at H; exact H
                           clear H
                           have H := H1
                           clear H1
                           replace H := Option.bind_eq_some_iff.mp H
                           obtain ⟨t999, A350, H⟩ := H
                           replace H : (if 0 ≤ x38_3 then (if x38_3 < (x3_4.length : Int) then (if ((rd_T110 ((rd_T52 l0 x38_3).f2) x51_4).f0) = 3 then (if 0 ≤ t999 then (if t999 < (x3_4.length : Int) then (if (wrap64 ((rd x3_4 x38_3) + 1)) > (rd x3_4 t999) then (impl_GraphDeep.l3 k4 l0 (x3_4.set (t999 : Int).toNat (wrap64 ((rd x3_4 x38_3) + 1))) x5_2 true x38_3 l0 (l0.length : Int) x38_3 ((rd_T52 l0 x38_3).f2) (((rd_T52 l0 x38_3).f2).length : Int) (wrap64 (x51_4 + 1))) else (impl_GraphDeep.l3 k4 l0 x3_4 x5_2 x6_4 x38_3 l0 (l0.length : Int) x38_3 ((rd_T52 l0 x38_3).f2) (((rd_T52 l0 x38_3).f2).length : Int) (wrap64 (x51_4 + 1)))) else (none)) else (none)) else (if 0 ≤ t999 then (if t999 < (x3_4.length : Int) then (if (rd x3_4 x38_3) > (rd x3_4 t999) then (impl_GraphDeep.l3 k4 l0 (x3_4.set (t999 : Int).toNat (rd x3_4 x38_3)) x5_2 true x38_3 l0 (l0.length : Int) x38_3 ((rd_T52 l0 x38_3).f2) (((rd_T52 l0 x38_3).f2).length : Int) (wrap64 (x51_4 + 1))) else (impl_GraphDeep.l3 k4 l0 x3_4 x5_2 x6_4 x38_3 l0 (l0.length : Int) x38_3 ((rd_T52 l0 x38_3).f2) (((rd_T52 l0 x38_3).f2).length : Int) (wrap64 (x51_4 + 1)))) else (none)) else (none))) else (none)) else (none)) = some r := H
                           have A35 := Aside0.mk A350; clear A350
                           by_cases c36 : 0 ≤ x38_3
                           · rw [if_pos c36] at H
                             have c36b0 : decide (0 ≤ x38_3) = true := decide_eq_true c36
                             clear c36
                             by_cases c37 : x38_3 < (x3_4.length : Int)
                             · rw [if_pos c37] at H
                               have c37b0 : decide (x38_3 < (x3_4.length : Int)) = true := decide_eq_true c37
                               clear c37
                               by_cases c38 : ((rd_T110 ((rd_T52 l0 x38_3).f2) x51_4).f0) = 3
                               · rw [if_pos c38] at H
                                 have c38b0 : (((rd_T110 ((rd_T52 l0 x38_3).f2) x51_4).f0) == 3) = true := beq_iff_eq.mpr c38
                                 have c38b1 : (((rd_T110 ((rd_T52 l0 x38_3).f2) x51_4).f0) != 3) = false := bne_eq_false_iff_eq.mpr c38
                                 clear c38
                                 by_cases c39 : 0 ≤ t999
                                 · rw [if_pos c39] at H
                                   have c39b0 : decide (0 ≤ t999) = true := decide_eq_true c39
                                   clear c39
                                   by_cases c40 : t999 < (x3_4.length : Int)
                                   · rw [if_pos c40] at H
                                     have c40b0 : decide (t999 < (x3_4.length : Int)) = true := decide_eq_true c40
                                     clear c40
                                     by_cases c41 : (wrap64 ((rd x3_4 x38_3) + 1)) > (rd x3_4 t999)
                                     · rw [if_pos c41] at H
                                       have c41b0 : decide ((rd x3_4 t999) < (wrap64 ((rd x3_4 x38_3) + 1))) = true := decide_eq_true c41
                                       clear c41
                                       obtain ⟨y1002, hy1002⟩ : ∃ y_ : List Int, y_ = (x3_4.set (t999 : Int).toNat (wrap64 ((rd x3_4 x38_3) + 1))) := ⟨_, rfl⟩
                                       replace H : (impl_GraphDeep.l3 k4 l0 y1002 x5_2 true x38_3 l0 (l0.length : Int) x38_3 ((rd_T52 l0 x38_3).f2) (((rd_T52 l0 x38_3).f2).length : Int) (wrap64 (x51_4 + 1))) = some r := by first | (rw [hy1002]; with_reducible exact H) | (have H2_ := (Option.bind_some _ _).symm.trans H; rw [hy1002]; with_reducible exact H2_) | (have H2_ := (Option.bind_some _ _).symm.trans H; with_reducible exact H2_) | with_reducible exact H | (rw [hy1002]; exact H) | exact H
                                       have Ny1002 := Aside0.mk hy1002; clear hy1002
                                       have H' := Aside0.mk H
                                       clear H
                                       have p996 : 0 ≤ (x51_4 : Int) := of_decide_eq_true (by first | (with_reducible assumption) | assumption)
                                       have q996 : x51_4 < (((rd_T52 l0 x38_3).f2).length : Int) := of_decide_eq_true (by first | (with_reducible assumption) | assumption)
                                       obtain ⟨ad996, e996, hx996_0, hx996_1, hx996_2⟩ := at_T110 HR993_2.out x51_4 p996 q996
                                       cases e996
                                       replace hx996_0 := (HB.out.cell (World.block_lt_of_cell? w _ hx996_0)).trans hx996_0
                                       replace hx996_1 := (HB.out.cell (World.block_lt_of_cell? w _ hx996_1)).trans hx996_1
                                       replace hx996_2 := (HB.out.cell (World.block_lt_of_cell? w _ hx996_2)).trans hx996_2
                                       replace p996 := eq_true p996; replace q996 := eq_true q996
                                       try go_wp2_with (first | ((with_reducible refine gate_dst (N := 10) rfl ?_); refine box_event ?hg (N := 10) ?hd (cs := #[.int .i64 0, .int .i64 0, .string (⟨#[]⟩ : ByteArray)]) (t := 110) ?hr ?_; (case hd => rfl); (case hg => rfl); (case hr => first | (go_simp; done) | (go_simp; rfl)); intro gb997 hg w43 hbox hb; have n0_ := Aside0.mk (Kd.R_below (by (with_reducible repeat (first | apply Kd.R_alloc | apply Kd.R_drewN | apply Kd.R_drew)); exact HO_3.out) hb); have n1_ := Aside0.mk (blk_below (g := gb994) (o := .cells #[.string ((rd_T52 l0 x38_3).f0), .bool ((rd_T52 l0 x38_3).f1), .slice (some ad996) ((rd_T52 l0 x38_3).f2).length c993_2] 52 (0, 0)) (by (with_reducible repeat (first | refine blk_drewN ?_ _ | refine blk_drew ?_ | refine blk_alloc ?_ _)); exact BK994.out) hb); have n2_ := Aside0.mk (below_step (by repeat (first | (with_reducible first | exact HB.out | apply below_alloc | apply pw_below_drewN | apply below_drew1 | refine below_set ?_ GE994.out) | exact HB.out)) hb); have n3_ := Aside0.mk (hbox); have n4_ := Aside0.mk ((by rw [hg]; exact (below_size (by repeat (first | (with_reducible first | exact HB.out | apply below_alloc | apply pw_below_drewN | apply below_drew1 | refine below_set ?_ GE994.out) | exact HB.out))) : w.heap.size ≤ gb997)); have n5_ := Aside0.mk ((by rw [hg]; exact (below_size (by repeat (first | (with_reducible first | exact HB.out | apply below_alloc | apply pw_below_drewN | apply below_drew1 | refine below_set ?_ GE994.out) | exact HB.out))) : w.heap.size ≤ gb997)); have n6_ := Aside0.mk ((by rw [hg]; exact Nat.ne_of_lt (blk_lt (g := gb994) (o := .cells #[.string ((rd_T52 l0 x38_3).f0), .bool ((rd_T52 l0 x38_3).f1), .slice (some ad996) ((rd_T52 l0 x38_3).f2).length c993_2] 52 (0, 0)) (by (with_reducible repeat (first | refine blk_drewN ?_ _ | refine blk_drew ?_ | refine blk_alloc ?_ _)); exact BK994.out)) : gb994 ≠ gb997)); have n7_ := Aside0.mk ((by rw [hg]; exact Nat.ne_of_gt (blk_lt (g := gb994) (o := .cells #[.string ((rd_T52 l0 x38_3).f0), .bool ((rd_T52 l0 x38_3).f1), .slice (some ad996) ((rd_T52 l0 x38_3).f2).length c993_2] 52 (0, 0)) (by (with_reducible repeat (first | refine blk_drewN ?_ _ | refine blk_drew ?_ | refine blk_alloc ?_ _)); exact BK994.out)) : gb997 ≠ gb994)); clear HO_3 BK994 HB; have HO_3 := n0_; have BK994 := n1_; have HB := n2_; have BK997 := n3_; have GW997 := n4_; have GE997 := n5_; have NB994_997 := n6_; have NB997_994 := n7_; clear n0_ n1_ n2_ n3_ n4_ n5_ n6_ n7_ hb hbox hg; have hnb44 := NB997_994.out; have hnc44 := NB994_997.out; have hcz45_0 : w43.cell? ⟨gb997, 0, none⟩ = some (.int .i64 0) := (blk_cell BK997.out 0).trans rfl; have hcz45_1 : w43.cell? ⟨gb997, 1, none⟩ = some (.int .i64 0) := (blk_cell BK997.out 1).trans rfl; have hcz45_2 : w43.cell? ⟨gb997, 2, none⟩ = some (.string (⟨#[]⟩ : ByteArray)) := (blk_cell BK997.out 2).trans rfl; have hfz45_0 := blk_frozen BK997.out 0; have hfz45_1 := blk_frozen BK997.out 1; have hfz45_2 := blk_frozen BK997.out 2) | ((with_reducible refine gate_callee (f := 92) rfl ?_); refine goesL_ (some 56) rfl rfl Try.func92 (by kernel_rfl) rfl #[.agg #[.int .i64 ((rd_T110 ((rd_T52 l0 x38_3).f2) x51_4).f0), .int .i64 ((rd_T110 ((rd_T52 l0 x38_3).f2) x51_4).f1), .string ((rd_T110 ((rd_T52 l0 x38_3).f2) x51_4).f2)]] rfl (by (try simp only [List.map_toArray, List.map_cons, List.map_nil]); first | done | rfl | (simp only [List.length_drop, List.length_take]; rfl)) ?_; (with_reducible refine (impl_InsRefs.calls ((rd_T110 ((rd_T52 l0 x38_3).f2) x51_4).f0) ((rd_T110 ((rd_T52 l0 x38_3).f2) x51_4).f1) ((rd_T110 ((rd_T52 l0 x38_3).f2) x51_4).f2) true _ A33.out).mono ?_); rintro e w46 ⟨rfl, hb⟩; refine ⟨_, rfl, ?_⟩; have n0_ := Aside0.mk (Kd.R_below (by (with_reducible repeat (first | apply Kd.R_alloc | apply Kd.R_drewN | apply Kd.R_drew)); exact (Kd.R_mono (Kd.R_far (p := ⟨gb997, 2, none⟩) (Kd.R_far (p := ⟨gb997, 1, none⟩) (Kd.R_far (p := ⟨gb997, 0, none⟩) (Kd.R_types HO_3.out BK997.out (by decide)) (fun _ hk => hk.2) (.int .i64 ((rd_T110 ((rd_T52 l0 x38_3).f2) x51_4).f0))) (fun _ hk => hk.2) (.int .i64 ((rd_T110 ((rd_T52 l0 x38_3).f2) x51_4).f1))) (fun _ hk => hk.2) (.string ((rd_T110 ((rd_T52 l0 x38_3).f2) x51_4).f2))) (fun _ h_ => h_.1))) hb); have n1_ := Aside0.mk (blk_below (g := gb994) (o := .cells #[.string ((rd_T52 l0 x38_3).f0), .bool ((rd_T52 l0 x38_3).f1), .slice (some ad996) ((rd_T52 l0 x38_3).f2).length c993_2] 52 (0, 0)) (by (with_reducible repeat (first | refine blk_drewN ?_ _ | refine blk_drew ?_ | refine blk_alloc ?_ _)); refine blk_far ?_ NB994_997.out _; (with_reducible repeat (first | refine blk_drewN ?_ _ | refine blk_drew ?_ | refine blk_alloc ?_ _)); refine blk_far ?_ NB994_997.out _; (with_reducible repeat (first | refine blk_drewN ?_ _ | refine blk_drew ?_ | refine blk_alloc ?_ _)); refine blk_far ?_ NB994_997.out _; (with_reducible repeat (first | refine blk_drewN ?_ _ | refine blk_drew ?_ | refine blk_alloc ?_ _)); exact BK994.out) hb); have n2_ := Aside0.mk (blk_below (g := gb997) (o := .cells #[.int .i64 ((rd_T110 ((rd_T52 l0 x38_3).f2) x51_4).f0), .int .i64 ((rd_T110 ((rd_T52 l0 x38_3).f2) x51_4).f1), .string ((rd_T110 ((rd_T52 l0 x38_3).f2) x51_4).f2)] 110 (0, 0)) (by (with_reducible repeat (first | refine blk_drewN ?_ _ | refine blk_drew ?_ | refine blk_alloc ?_ _)); refine blk_put (cs := #[.int .i64 ((rd_T110 ((rd_T52 l0 x38_3).f2) x51_4).f0), .int .i64 ((rd_T110 ((rd_T52 l0 x38_3).f2) x51_4).f1), .string (⟨#[]⟩ : ByteArray)]) ?_ 2 _ rfl; (with_reducible repeat (first | refine blk_drewN ?_ _ | refine blk_drew ?_ | refine blk_alloc ?_ _)); refine blk_put (cs := #[.int .i64 ((rd_T110 ((rd_T52 l0 x38_3).f2) x51_4).f0), .int .i64 0, .string (⟨#[]⟩ : ByteArray)]) ?_ 1 _ rfl; (with_reducible repeat (first | refine blk_drewN ?_ _ | refine blk_drew ?_ | refine blk_alloc ?_ _)); refine blk_put (cs := #[.int .i64 0, .int .i64 0, .string (⟨#[]⟩ : ByteArray)]) ?_ 0 _ rfl; (with_reducible repeat (first | refine blk_drewN ?_ _ | refine blk_drew ?_ | refine blk_alloc ?_ _)); exact BK997.out) hb); have n3_ := Aside0.mk (below_step (by repeat (first | (with_reducible first | exact HB.out | apply below_alloc | apply pw_below_drewN | apply below_drew1 | refine below_set ?_ GE994.out | refine below_set ?_ GE997.out) | exact HB.out)) hb); clear HO_3 BK994 BK997 HB; have HO_3 := n0_; have BK994 := n1_; have BK997 := n2_; have HB := n3_; clear n0_ n1_ n2_ n3_; (try clear hb); (try clear hb2); (try clear hk); (try clear hi)))
                                       have n0_ := Aside0.mk (Kd.R_drew HO_3.out)
                                       have n1_ := Aside0.mk (blk_drew BK994.out)
                                       have n2_ := Aside0.mk (blk_drew BK997.out)
                                       have n3_ := Aside0.mk (below_drew1 HB.out)
                                       clear HO_3 BK994 BK997; clear HB
                                       have HO_3 := n0_
                                       have BK994 := n1_
                                       have BK997 := n2_
                                       have HB := n3_
                                       clear n0_ n1_ n2_ n3_
                                       have p1000 : 0 ≤ (x38_3 : Int) := of_decide_eq_true (by first | (with_reducible assumption) | assumption)
                                       have q1000 : x38_3 < (x3_4.length : Int) := of_decide_eq_true (by first | (with_reducible assumption) | assumption)
                                       obtain ⟨ad1000, e1000, hx1000_0⟩ := Kd.at_int (Kd.R_reads' HO_3.out).2.2 x38_3 p1000 q1000
                                       obtain rfl : (⟨go17, 0, none⟩ : Addr) = ad1000 := (by injection e1000)
                                       (first | simp only [add_plain] at hx1000_0 | simp only [add_at] at hx1000_0 | simp only [Addr.add, Nat.zero_add] at hx1000_0 | skip)
                                       replace p1000 := eq_true p1000; replace q1000 := eq_true q1000
                                       refine start_ (n := 10) (S := fun w' => w'.cell? ⟨gb997, 0, none⟩ = some (.int .i64 ((rd_T110 ((rd_T52 l0 x38_3).f2) x51_4).f0)) ∧ w'.cell? ⟨gb997, 1, none⟩ = some (.int .i64 ((rd_T110 ((rd_T52 l0 x38_3).f2) x51_4).f1)) ∧ w'.cell? ⟨gb997, 2, none⟩ = some (.string ((rd_T110 ((rd_T52 l0 x38_3).f2) x51_4).f2)) ∧ w'.cell? ⟨go17, (x38_3).toNat, none⟩ = some (.int .i64 (rd x3_4 x38_3))) (ds := []) #[false, false, false, false, false, false, false, false, false, false] (by kernel_rfl) rfl rfl ⟨(blk_cell BK997.out 0).trans rfl, (blk_cell BK997.out 1).trans rfl, (blk_cell BK997.out 2).trans rfl, hx1000_0⟩ (fun hHeld => ?_); refine with_tabW impl_GraphDeep.tab22 impl_GraphDeep.bits22 (fun HT_ HW_ => ?_)
                                       generalize w46.drew = w47 at HO_3 BK994 BK997 HB hx1000_0 hHeld ⊢
                                       refine pure_ (i := 0) (N := some 58) (v := ?_) (a' := ?_) #[true, false, false, false, false, false, false, false, false, false] rfl rfl (any_of HT_.out (by kernel_rfl)) (fun _ _ _ h => h) (Or.inl ⟨by rfl, ?_⟩) ?_ ?_
                                       rotate_left
                                       · intro w'
                                         go_simp
                                         with_reducible rfl
                                       rotate_left
                                       · simp only [Act.put, List.setIfInBounds_toArray, List.set_cons_zero, List.set_cons_succ, i64_w, i32_w]
                                         rfl
                                       refine pure_ (i := 1) (N := some 59) (v := ?_) (a' := ?_) #[true, true, false, false, false, false, false, false, false, false] rfl rfl (any_of HT_.out (by kernel_rfl)) (fun _ _ _ h => h) (Or.inl ⟨by rfl, ?_⟩) ?_ ?_
                                       rotate_left
                                       · intro w'
                                         go_simp
                                         with_reducible rfl
                                       rotate_left
                                       · simp only [Act.put, List.setIfInBounds_toArray, List.set_cons_zero, List.set_cons_succ, i64_w, i32_w]
                                         rfl
                                       refine pure_ (i := 4) (N := some 62) (v := ?_) (a' := ?_) #[true, true, false, false, true, false, false, false, false, false] rfl rfl (any_of HT_.out (by kernel_rfl)) (fun _ _ _ h => h) (Or.inl ⟨by rfl, ?_⟩) ?_ ?_
                                       rotate_left
                                       · intro w'
                                         go_simp
                                         with_reducible rfl
                                       rotate_left
                                       · simp only [Act.put, List.setIfInBounds_toArray, List.set_cons_zero, List.set_cons_succ, i64_w, i32_w]
                                         rfl
                                       refine pure_ (i := 5) (N := some 63) (v := ?_) (a' := ?_) #[true, true, false, false, true, true, false, false, false, false] rfl rfl (any_of HT_.out (by kernel_rfl)) (fun _ _ _ h => h) (Or.inl ⟨by rfl, ?_⟩) ?_ ?_
                                       rotate_left
                                       · intro w'
                                         go_simp
                                         with_reducible rfl
                                       rotate_left
                                       · simp only [Act.put, List.setIfInBounds_toArray, List.set_cons_zero, List.set_cons_succ, i64_w, i32_w]
                                         rfl
                                       refine pure_ (i := 6) (N := some 64) (v := ?_) (a' := ?_) #[true, true, false, false, true, true, true, false, false, false] rfl rfl (any_of HT_.out (by kernel_rfl)) (fun _ _ _ h => h) (Or.inl ⟨by rfl, ?_⟩) ?_ ?_
                                       rotate_left
                                       · intro w'
                                         go_simp
                                         with_reducible rfl
                                       rotate_left
                                       · simp only [Act.put, List.setIfInBounds_toArray, List.set_cons_zero, List.set_cons_succ, i64_w, i32_w]
                                         rfl
                                       refine take_ (i := 2) (N := some 60) (v := ?_) (a' := ?_) #[true, true, true, false, true, true, true, false, false, false] rfl rfl (take_ofW HT_.out HW_.out (by kernel_rfl)) (fun _ _ _ h => h) (Or.inl ⟨by rfl, ?_⟩) hHeld ?_ ?_
                                       rotate_left
                                       · rintro w' ⟨s0, s1, s2, s3⟩
                                         go_simp
                                         with_reducible rfl
                                       rotate_left
                                       · simp only [Act.put, List.setIfInBounds_toArray, List.set_cons_zero, List.set_cons_succ, i64_w, i32_w]
                                         rfl
                                       refine take_ (i := 7) (N := some 65) (v := ?_) (a' := ?_) #[true, true, true, false, true, true, true, true, false, false] rfl rfl (take_ofW HT_.out HW_.out (by kernel_rfl)) (fun _ _ _ h => h) (Or.inl ⟨by rfl, ?_⟩) hHeld ?_ ?_
                                       rotate_left
                                       · rintro w' ⟨s0, s1, s2, s3⟩
                                         go_simp
                                         with_reducible rfl
                                       rotate_left
                                       · simp only [Act.put, List.setIfInBounds_toArray, List.set_cons_zero, List.set_cons_succ, i64_w, i32_w]
                                         rfl
                                       refine one_ (i := 3) (N := some 61) #[true, true, true, true, true, true, true, true, false, false] rfl rfl (one_of HT_.out (by kernel_rfl)) (by decide) (fun K hK => ?_)
                                       refine goes_ Try.func82 (by kernel_rfl) rfl #[.slice (some ad993) l0.length c0, .string ((rd_T110 ((rd_T52 l0 x38_3).f2) x51_4).f2)] (by rfl) rfl rfl (by (try simp only [List.map_toArray, List.map_cons, List.map_nil]); first | done | rfl | (simp only [List.length_drop, List.length_take]; rfl)) ?_
                                       with_reducible refine (impl_find.calls _ _ l0 ((rd_T110 ((rd_T52 l0 x38_3).f2) x51_4).f2) t999 _ ?side1 ?side2 A35.out).mono ?_
                                       (case side1 => repeat (first | exact (Kd.C_below HR0.out HB.out) | (with_reducible refine Kd.C_alloc ?_ _) | (with_reducible refine Kd.C_drewN ?_ _) | (with_reducible refine Kd.C_drew ?_)))
                                       (case side2 => exact HC0.out)
                                       rintro e w48 ⟨rfl, hb⟩
                                       have HS3_ := (hb.cell (World.block_lt_of_cell? _ _ (hHeld.2.2.2))).trans (hHeld.2.2.2)
                                       refine ⟨_, rfl, ?_⟩
                                       have n0_ := Aside0.mk (Kd.R_below (by (with_reducible repeat (first | apply Kd.R_alloc | apply Kd.R_drewN | apply Kd.R_drew)); exact HO_3.out) hb)
                                       have n1_ := Aside0.mk (blk_below (g := gb994) (o := .cells #[.string ((rd_T52 l0 x38_3).f0), .bool ((rd_T52 l0 x38_3).f1), .slice (some ad996) ((rd_T52 l0 x38_3).f2).length c993_2] 52 (0, 0)) (by (with_reducible repeat (first | refine blk_drewN ?_ _ | refine blk_drew ?_ | refine blk_alloc ?_ _)); exact BK994.out) hb)
                                       have n2_ := Aside0.mk (blk_below (g := gb997) (o := .cells #[.int .i64 ((rd_T110 ((rd_T52 l0 x38_3).f2) x51_4).f0), .int .i64 ((rd_T110 ((rd_T52 l0 x38_3).f2) x51_4).f1), .string ((rd_T110 ((rd_T52 l0 x38_3).f2) x51_4).f2)] 110 (0, 0)) (by (with_reducible repeat (first | refine blk_drewN ?_ _ | refine blk_drew ?_ | refine blk_alloc ?_ _)); exact BK997.out) hb)
                                       have n3_ := Aside0.mk (below_step (by repeat (first | (with_reducible first | exact HB.out | apply below_alloc | apply pw_below_drewN | apply below_drew1 | refine below_set ?_ GE994.out | refine below_set ?_ GE997.out) | exact HB.out)) hb)
                                       clear HO_3 BK994 BK997; clear HB
                                       have HO_3 := n0_
                                       have BK994 := n1_
                                       have BK997 := n2_
                                       have HB := n3_
                                       clear n0_ n1_ n2_ n3_
                                       (try clear hb)
                                       (try clear hb2)
                                       (try clear hk)
                                       (try clear hi)
                                       refine hK.out _ _ ⟨(blk_cell BK997.out 0).trans rfl, (blk_cell BK997.out 1).trans rfl, (blk_cell BK997.out 2).trans rfl, HS3_⟩ (fun hHeld => ?_)
                                       clear hK K
                                       refine norm_ (a' := ?_) ?_ ?_
                                       rotate_left
                                       · show Act.put _ (some 61) _ = _
                                         simp only [Act.put, List.setIfInBounds_toArray, List.set_cons_zero, List.set_cons_succ, i64_w, i32_w]
                                         rfl
                                       refine pure_ (i := 8) (N := some 11) (v := ?_) (a' := ?_) #[true, true, true, true, true, true, true, true, true, false] rfl rfl (any_of HT_.out (by kernel_rfl)) (fun _ _ _ h => h) (Or.inl ⟨by rfl, ?_⟩) ?_ ?_
                                       rotate_left
                                       · intro w'
                                         go_simp
                                         with_reducible rfl
                                       rotate_left
                                       · simp only [Act.put, List.setIfInBounds_toArray, List.set_cons_zero, List.set_cons_succ, i64_w, i32_w]
                                         rfl
                                       refine pure_ (i := 9) (N := some 12) (v := ?_) (a' := ?_) #[true, true, true, true, true, true, true, true, true, true] rfl rfl (any_of HT_.out (by kernel_rfl)) (fun _ _ _ h => h) (Or.inl ⟨by rfl, ?_⟩) ?_ ?_
                                       rotate_left
                                       · intro w'
                                         go_simp
                                         with_reducible rfl
                                       rotate_left
                                       · simp only [Act.put, List.setIfInBounds_toArray, List.set_cons_zero, List.set_cons_succ, i64_w, i32_w]
                                         rfl
                                       refine done_ (done_of HT_.out (by kernel_rfl)) ?_
                                       have hcz49_0 : w48.cell? ⟨gb997, 0, none⟩ = some (.int .i64 ((rd_T110 ((rd_T52 l0 x38_3).f2) x51_4).f0)) := (blk_cell BK997.out 0).trans rfl
                                       have hcz49_1 : w48.cell? ⟨gb997, 1, none⟩ = some (.int .i64 ((rd_T110 ((rd_T52 l0 x38_3).f2) x51_4).f1)) := (blk_cell BK997.out 1).trans rfl
                                       have hcz49_2 : w48.cell? ⟨gb997, 2, none⟩ = some (.string ((rd_T110 ((rd_T52 l0 x38_3).f2) x51_4).f2)) := (blk_cell BK997.out 2).trans rfl
                                       have hfz49_0 := blk_frozen BK997.out 0
                                       have hfz49_1 := blk_frozen BK997.out 1
                                       have hfz49_2 := blk_frozen BK997.out 2
                                       have p1001 : 0 ≤ (t999 : Int) := of_decide_eq_true (by first | (with_reducible assumption) | assumption)
                                       have q1001 : t999 < (x3_4.length : Int) := of_decide_eq_true (by first | (with_reducible assumption) | assumption)
                                       obtain ⟨ad1001, e1001, hx1001_0⟩ := Kd.at_int (Kd.R_reads' HO_3.out).2.2 t999 p1001 q1001
                                       obtain rfl : (⟨go17, 0, none⟩ : Addr) = ad1001 := (by injection e1001)
                                       (first | simp only [add_plain] at hx1001_0 | simp only [add_at] at hx1001_0 | simp only [Addr.add, Nat.zero_add] at hx1001_0 | skip)
                                       replace p1001 := eq_true p1001; replace q1001 := eq_true q1001
                                       have p42 : 0 ≤ (t999 : Int) := of_decide_eq_true (by first | (with_reducible assumption) | assumption)
                                       have q42 : (t999 : Int) < ((x3_4.length : Int) : Int) := of_decide_eq_true (by first | (with_reducible assumption) | assumption)
                                       obtain ⟨hx42_0, hf42_0⟩ := Kd.R_celln 0 HO_3.out (t999 : Int) p42 q42
                                       replace p42 := eq_true p42; replace q42 := eq_true q42
                                       obtain ⟨hy50_, hz50_⟩ := Kd.R_celln 0 HO_3.out (t999 : Int) (of_decide_eq_true (by first | (with_reducible assumption) | assumption)) (of_decide_eq_true (by first | (with_reducible assumption) | assumption))
                                       have HP50 := Kd.R_putg HO_3.out (t999 : Int) (wrap64 ((rd x3_4 x38_3) + 1))
                                       try go_wp2_with (first | ((with_reducible refine gate_store (t := 3) (p := 80) rfl ?_); refine store_event (t := 3) (p := 80) (v := ?vo_w51) (w1 := (w48.setCell ⟨go17, (t999 : Int).toNat, none⟩ (.int .i64 (wrap64 ((rd x3_4 x38_3) + 1))))) ?hg ?ho ?hn ?hr ?_; (case ho => rfl); (case hg => rfl); (case hn => rfl); (case hr => first | (go_simp; done) | (go_simp; rfl) | ((try (obtain ⟨_, _, e_⟩ := Kd.R_slice HO_3.out; subst e_)); first | (go_simp; done) | (go_simp; rfl))); intro w51 hw; have hg : w48.grownBy w51 (some go17) := (by rw [hw]; exact HP50.2); have hp_ : Kd.R (Kd.int .i64) 3 w51 w.heap.size (fun _ => True) (.slice (some ⟨go17, 0, none⟩) x3_4.length co9) y1002 := (by rw [hw, Ny1002.out]; exact HP50.1); clear HP50; have n0_ := Aside0.mk (hp_); have n1_ := Aside0.mk (blk_grown (g := gb994) (o := .cells #[.string ((rd_T52 l0 x38_3).f0), .bool ((rd_T52 l0 x38_3).f1), .slice (some ad996) ((rd_T52 l0 x38_3).f2).length c993_2] 52 (0, 0)) (by (with_reducible repeat (first | refine blk_drewN ?_ _ | refine blk_drew ?_ | refine blk_alloc ?_ _)); exact BK994.out) hg (Kd.R_ne HO_3.out BK994.out (by decide))); have n2_ := Aside0.mk (blk_grown (g := gb997) (o := .cells #[.int .i64 ((rd_T110 ((rd_T52 l0 x38_3).f2) x51_4).f0), .int .i64 ((rd_T110 ((rd_T52 l0 x38_3).f2) x51_4).f1), .string ((rd_T110 ((rd_T52 l0 x38_3).f2) x51_4).f2)] 110 (0, 0)) (by (with_reducible repeat (first | refine blk_drewN ?_ _ | refine blk_drew ?_ | refine blk_alloc ?_ _)); exact BK997.out) hg (Kd.R_ne HO_3.out BK997.out (by decide))); have n3_ := Aside0.mk ((by rw [hw]; exact below_set (HB.out) GB17.out : Below w.heap.size w w51)); clear HO_3 BK994 BK997 HB; have HO_3 := n0_; have BK994 := n1_; have BK997 := n2_; have HB := n3_; clear n0_ n1_ n2_ n3_ hg hw hp_))
                                       (try simp only [← hl3_4])
                                       go_roundg k4
                                       case measure => have := HK1.out; have := HK2.out; have := HK3.out; have := HK4.out; omega
                                       case rel => exact ⟨(y1002), (true), (wrap64 (x51_4 + 1)), (by first | rfl | (simp; done) | (simp [*]; done)), (by first | rfl | (simp; done) | (simp [*]; done)), H', ⟨by have := HK1.out; have := HK2.out; have := HK3.out; have := HK4.out; omega⟩, ⟨by (try simp only [hl3_1]); (try simp only [hl3_2]); (try simp only [hl3_3]); (try simp only [hl3_4]); (with_reducible repeat (first | apply Kd.R_alloc | apply Kd.R_drewN | apply Kd.R_drew)); exact HO_3.out⟩, ⟨by (try simp only [hl3_1]); (try simp only [hl3_2]); (try simp only [hl3_3]); (try simp only [hl3_4]); (with_reducible repeat (first | refine blk_drewN ?_ _ | refine blk_drew ?_ | refine blk_alloc ?_ _)); exact BK994.out⟩, ⟨by repeat (first | (with_reducible first | exact HB.out | apply below_alloc | apply pw_below_drewN | apply below_drew1 | refine below_set ?_ GE994.out | refine below_set ?_ GE997.out) | exact HB.out)⟩⟩
                                     rw [if_neg c41] at H
                                     have c41b0 : decide ((rd x3_4 t999) < (wrap64 ((rd x3_4 x38_3) + 1))) = false := decide_eq_false c41
                                     clear c41
                                     have H' := Aside0.mk H
                                     clear H
                                     have p996 : 0 ≤ (x51_4 : Int) := of_decide_eq_true (by first | (with_reducible assumption) | assumption)
                                     have q996 : x51_4 < (((rd_T52 l0 x38_3).f2).length : Int) := of_decide_eq_true (by first | (with_reducible assumption) | assumption)
                                     obtain ⟨ad996, e996, hx996_0, hx996_1, hx996_2⟩ := at_T110 HR993_2.out x51_4 p996 q996
                                     cases e996
                                     replace hx996_0 := (HB.out.cell (World.block_lt_of_cell? w _ hx996_0)).trans hx996_0
                                     replace hx996_1 := (HB.out.cell (World.block_lt_of_cell? w _ hx996_1)).trans hx996_1
                                     replace hx996_2 := (HB.out.cell (World.block_lt_of_cell? w _ hx996_2)).trans hx996_2
                                     replace p996 := eq_true p996; replace q996 := eq_true q996
                                     try go_wp2_with (first | ((with_reducible refine gate_dst (N := 10) rfl ?_); refine box_event ?hg (N := 10) ?hd (cs := #[.int .i64 0, .int .i64 0, .string (⟨#[]⟩ : ByteArray)]) (t := 110) ?hr ?_; (case hd => rfl); (case hg => rfl); (case hr => first | (go_simp; done) | (go_simp; rfl)); intro gb997 hg w52 hbox hb; have n0_ := Aside0.mk (Kd.R_below (by (with_reducible repeat (first | apply Kd.R_alloc | apply Kd.R_drewN | apply Kd.R_drew)); exact HO_3.out) hb); have n1_ := Aside0.mk (blk_below (g := gb994) (o := .cells #[.string ((rd_T52 l0 x38_3).f0), .bool ((rd_T52 l0 x38_3).f1), .slice (some ad996) ((rd_T52 l0 x38_3).f2).length c993_2] 52 (0, 0)) (by (with_reducible repeat (first | refine blk_drewN ?_ _ | refine blk_drew ?_ | refine blk_alloc ?_ _)); exact BK994.out) hb); have n2_ := Aside0.mk (below_step (by repeat (first | (with_reducible first | exact HB.out | apply below_alloc | apply pw_below_drewN | apply below_drew1 | refine below_set ?_ GE994.out) | exact HB.out)) hb); have n3_ := Aside0.mk (hbox); have n4_ := Aside0.mk ((by rw [hg]; exact (below_size (by repeat (first | (with_reducible first | exact HB.out | apply below_alloc | apply pw_below_drewN | apply below_drew1 | refine below_set ?_ GE994.out) | exact HB.out))) : w.heap.size ≤ gb997)); have n5_ := Aside0.mk ((by rw [hg]; exact (below_size (by repeat (first | (with_reducible first | exact HB.out | apply below_alloc | apply pw_below_drewN | apply below_drew1 | refine below_set ?_ GE994.out) | exact HB.out))) : w.heap.size ≤ gb997)); have n6_ := Aside0.mk ((by rw [hg]; exact Nat.ne_of_lt (blk_lt (g := gb994) (o := .cells #[.string ((rd_T52 l0 x38_3).f0), .bool ((rd_T52 l0 x38_3).f1), .slice (some ad996) ((rd_T52 l0 x38_3).f2).length c993_2] 52 (0, 0)) (by (with_reducible repeat (first | refine blk_drewN ?_ _ | refine blk_drew ?_ | refine blk_alloc ?_ _)); exact BK994.out)) : gb994 ≠ gb997)); have n7_ := Aside0.mk ((by rw [hg]; exact Nat.ne_of_gt (blk_lt (g := gb994) (o := .cells #[.string ((rd_T52 l0 x38_3).f0), .bool ((rd_T52 l0 x38_3).f1), .slice (some ad996) ((rd_T52 l0 x38_3).f2).length c993_2] 52 (0, 0)) (by (with_reducible repeat (first | refine blk_drewN ?_ _ | refine blk_drew ?_ | refine blk_alloc ?_ _)); exact BK994.out)) : gb997 ≠ gb994)); clear HO_3 BK994 HB; have HO_3 := n0_; have BK994 := n1_; have HB := n2_; have BK997 := n3_; have GW997 := n4_; have GE997 := n5_; have NB994_997 := n6_; have NB997_994 := n7_; clear n0_ n1_ n2_ n3_ n4_ n5_ n6_ n7_ hb hbox hg; have hnb53 := NB997_994.out; have hnc53 := NB994_997.out; have hcz54_0 : w52.cell? ⟨gb997, 0, none⟩ = some (.int .i64 0) := (blk_cell BK997.out 0).trans rfl; have hcz54_1 : w52.cell? ⟨gb997, 1, none⟩ = some (.int .i64 0) := (blk_cell BK997.out 1).trans rfl; have hcz54_2 : w52.cell? ⟨gb997, 2, none⟩ = some (.string (⟨#[]⟩ : ByteArray)) := (blk_cell BK997.out 2).trans rfl; have hfz54_0 := blk_frozen BK997.out 0; have hfz54_1 := blk_frozen BK997.out 1; have hfz54_2 := blk_frozen BK997.out 2) | ((with_reducible refine gate_callee (f := 92) rfl ?_); refine goesL_ (some 56) rfl rfl Try.func92 (by kernel_rfl) rfl #[.agg #[.int .i64 ((rd_T110 ((rd_T52 l0 x38_3).f2) x51_4).f0), .int .i64 ((rd_T110 ((rd_T52 l0 x38_3).f2) x51_4).f1), .string ((rd_T110 ((rd_T52 l0 x38_3).f2) x51_4).f2)]] rfl (by (try simp only [List.map_toArray, List.map_cons, List.map_nil]); first | done | rfl | (simp only [List.length_drop, List.length_take]; rfl)) ?_; (with_reducible refine (impl_InsRefs.calls ((rd_T110 ((rd_T52 l0 x38_3).f2) x51_4).f0) ((rd_T110 ((rd_T52 l0 x38_3).f2) x51_4).f1) ((rd_T110 ((rd_T52 l0 x38_3).f2) x51_4).f2) true _ A33.out).mono ?_); rintro e w55 ⟨rfl, hb⟩; refine ⟨_, rfl, ?_⟩; have n0_ := Aside0.mk (Kd.R_below (by (with_reducible repeat (first | apply Kd.R_alloc | apply Kd.R_drewN | apply Kd.R_drew)); exact (Kd.R_mono (Kd.R_far (p := ⟨gb997, 2, none⟩) (Kd.R_far (p := ⟨gb997, 1, none⟩) (Kd.R_far (p := ⟨gb997, 0, none⟩) (Kd.R_types HO_3.out BK997.out (by decide)) (fun _ hk => hk.2) (.int .i64 ((rd_T110 ((rd_T52 l0 x38_3).f2) x51_4).f0))) (fun _ hk => hk.2) (.int .i64 ((rd_T110 ((rd_T52 l0 x38_3).f2) x51_4).f1))) (fun _ hk => hk.2) (.string ((rd_T110 ((rd_T52 l0 x38_3).f2) x51_4).f2))) (fun _ h_ => h_.1))) hb); have n1_ := Aside0.mk (blk_below (g := gb994) (o := .cells #[.string ((rd_T52 l0 x38_3).f0), .bool ((rd_T52 l0 x38_3).f1), .slice (some ad996) ((rd_T52 l0 x38_3).f2).length c993_2] 52 (0, 0)) (by (with_reducible repeat (first | refine blk_drewN ?_ _ | refine blk_drew ?_ | refine blk_alloc ?_ _)); refine blk_far ?_ NB994_997.out _; (with_reducible repeat (first | refine blk_drewN ?_ _ | refine blk_drew ?_ | refine blk_alloc ?_ _)); refine blk_far ?_ NB994_997.out _; (with_reducible repeat (first | refine blk_drewN ?_ _ | refine blk_drew ?_ | refine blk_alloc ?_ _)); refine blk_far ?_ NB994_997.out _; (with_reducible repeat (first | refine blk_drewN ?_ _ | refine blk_drew ?_ | refine blk_alloc ?_ _)); exact BK994.out) hb); have n2_ := Aside0.mk (blk_below (g := gb997) (o := .cells #[.int .i64 ((rd_T110 ((rd_T52 l0 x38_3).f2) x51_4).f0), .int .i64 ((rd_T110 ((rd_T52 l0 x38_3).f2) x51_4).f1), .string ((rd_T110 ((rd_T52 l0 x38_3).f2) x51_4).f2)] 110 (0, 0)) (by (with_reducible repeat (first | refine blk_drewN ?_ _ | refine blk_drew ?_ | refine blk_alloc ?_ _)); refine blk_put (cs := #[.int .i64 ((rd_T110 ((rd_T52 l0 x38_3).f2) x51_4).f0), .int .i64 ((rd_T110 ((rd_T52 l0 x38_3).f2) x51_4).f1), .string (⟨#[]⟩ : ByteArray)]) ?_ 2 _ rfl; (with_reducible repeat (first | refine blk_drewN ?_ _ | refine blk_drew ?_ | refine blk_alloc ?_ _)); refine blk_put (cs := #[.int .i64 ((rd_T110 ((rd_T52 l0 x38_3).f2) x51_4).f0), .int .i64 0, .string (⟨#[]⟩ : ByteArray)]) ?_ 1 _ rfl; (with_reducible repeat (first | refine blk_drewN ?_ _ | refine blk_drew ?_ | refine blk_alloc ?_ _)); refine blk_put (cs := #[.int .i64 0, .int .i64 0, .string (⟨#[]⟩ : ByteArray)]) ?_ 0 _ rfl; (with_reducible repeat (first | refine blk_drewN ?_ _ | refine blk_drew ?_ | refine blk_alloc ?_ _)); exact BK997.out) hb); have n3_ := Aside0.mk (below_step (by repeat (first | (with_reducible first | exact HB.out | apply below_alloc | apply pw_below_drewN | apply below_drew1 | refine below_set ?_ GE994.out | refine below_set ?_ GE997.out) | exact HB.out)) hb); clear HO_3 BK994 BK997 HB; have HO_3 := n0_; have BK994 := n1_; have BK997 := n2_; have HB := n3_; clear n0_ n1_ n2_ n3_; (try clear hb); (try clear hb2); (try clear hk); (try clear hi)))
                                     have n0_ := Aside0.mk (Kd.R_drew HO_3.out)
                                     have n1_ := Aside0.mk (blk_drew BK994.out)
                                     have n2_ := Aside0.mk (blk_drew BK997.out)
                                     have n3_ := Aside0.mk (below_drew1 HB.out)
                                     clear HO_3 BK994 BK997; clear HB
                                     have HO_3 := n0_
                                     have BK994 := n1_
                                     have BK997 := n2_
                                     have HB := n3_
                                     clear n0_ n1_ n2_ n3_
                                     have p1000 : 0 ≤ (x38_3 : Int) := of_decide_eq_true (by first | (with_reducible assumption) | assumption)
                                     have q1000 : x38_3 < (x3_4.length : Int) := of_decide_eq_true (by first | (with_reducible assumption) | assumption)
                                     obtain ⟨ad1000, e1000, hx1000_0⟩ := Kd.at_int (Kd.R_reads' HO_3.out).2.2 x38_3 p1000 q1000
                                     obtain rfl : (⟨go17, 0, none⟩ : Addr) = ad1000 := (by injection e1000)
                                     (first | simp only [add_plain] at hx1000_0 | simp only [add_at] at hx1000_0 | simp only [Addr.add, Nat.zero_add] at hx1000_0 | skip)
                                     replace p1000 := eq_true p1000; replace q1000 := eq_true q1000
                                     refine start_ (n := 10) (S := fun w' => w'.cell? ⟨gb997, 0, none⟩ = some (.int .i64 ((rd_T110 ((rd_T52 l0 x38_3).f2) x51_4).f0)) ∧ w'.cell? ⟨gb997, 1, none⟩ = some (.int .i64 ((rd_T110 ((rd_T52 l0 x38_3).f2) x51_4).f1)) ∧ w'.cell? ⟨gb997, 2, none⟩ = some (.string ((rd_T110 ((rd_T52 l0 x38_3).f2) x51_4).f2)) ∧ w'.cell? ⟨go17, (x38_3).toNat, none⟩ = some (.int .i64 (rd x3_4 x38_3))) (ds := []) #[false, false, false, false, false, false, false, false, false, false] (by kernel_rfl) rfl rfl ⟨(blk_cell BK997.out 0).trans rfl, (blk_cell BK997.out 1).trans rfl, (blk_cell BK997.out 2).trans rfl, hx1000_0⟩ (fun hHeld => ?_); refine with_tabW impl_GraphDeep.tab22 impl_GraphDeep.bits22 (fun HT_ HW_ => ?_)
                                     generalize w55.drew = w56 at HO_3 BK994 BK997 HB hx1000_0 hHeld ⊢
                                     refine pure_ (i := 0) (N := some 58) (v := ?_) (a' := ?_) #[true, false, false, false, false, false, false, false, false, false] rfl rfl (any_of HT_.out (by kernel_rfl)) (fun _ _ _ h => h) (Or.inl ⟨by rfl, ?_⟩) ?_ ?_
                                     rotate_left
                                     · intro w'
                                       go_simp
                                       with_reducible rfl
                                     rotate_left
                                     · simp only [Act.put, List.setIfInBounds_toArray, List.set_cons_zero, List.set_cons_succ, i64_w, i32_w]
                                       rfl
                                     refine pure_ (i := 1) (N := some 59) (v := ?_) (a' := ?_) #[true, true, false, false, false, false, false, false, false, false] rfl rfl (any_of HT_.out (by kernel_rfl)) (fun _ _ _ h => h) (Or.inl ⟨by rfl, ?_⟩) ?_ ?_
                                     rotate_left
                                     · intro w'
                                       go_simp
                                       with_reducible rfl
                                     rotate_left
                                     · simp only [Act.put, List.setIfInBounds_toArray, List.set_cons_zero, List.set_cons_succ, i64_w, i32_w]
                                       rfl
                                     refine pure_ (i := 4) (N := some 62) (v := ?_) (a' := ?_) #[true, true, false, false, true, false, false, false, false, false] rfl rfl (any_of HT_.out (by kernel_rfl)) (fun _ _ _ h => h) (Or.inl ⟨by rfl, ?_⟩) ?_ ?_
                                     rotate_left
                                     · intro w'
                                       go_simp
                                       with_reducible rfl
                                     rotate_left
                                     · simp only [Act.put, List.setIfInBounds_toArray, List.set_cons_zero, List.set_cons_succ, i64_w, i32_w]
                                       rfl
                                     refine pure_ (i := 5) (N := some 63) (v := ?_) (a' := ?_) #[true, true, false, false, true, true, false, false, false, false] rfl rfl (any_of HT_.out (by kernel_rfl)) (fun _ _ _ h => h) (Or.inl ⟨by rfl, ?_⟩) ?_ ?_
                                     rotate_left
                                     · intro w'
                                       go_simp
                                       with_reducible rfl
                                     rotate_left
                                     · simp only [Act.put, List.setIfInBounds_toArray, List.set_cons_zero, List.set_cons_succ, i64_w, i32_w]
                                       rfl
                                     refine pure_ (i := 6) (N := some 64) (v := ?_) (a' := ?_) #[true, true, false, false, true, true, true, false, false, false] rfl rfl (any_of HT_.out (by kernel_rfl)) (fun _ _ _ h => h) (Or.inl ⟨by rfl, ?_⟩) ?_ ?_
                                     rotate_left
                                     · intro w'
                                       go_simp
                                       with_reducible rfl
                                     rotate_left
                                     · simp only [Act.put, List.setIfInBounds_toArray, List.set_cons_zero, List.set_cons_succ, i64_w, i32_w]
                                       rfl
                                     refine take_ (i := 2) (N := some 60) (v := ?_) (a' := ?_) #[true, true, true, false, true, true, true, false, false, false] rfl rfl (take_ofW HT_.out HW_.out (by kernel_rfl)) (fun _ _ _ h => h) (Or.inl ⟨by rfl, ?_⟩) hHeld ?_ ?_
                                     rotate_left
                                     · rintro w' ⟨s0, s1, s2, s3⟩
                                       go_simp
                                       with_reducible rfl
                                     rotate_left
                                     · simp only [Act.put, List.setIfInBounds_toArray, List.set_cons_zero, List.set_cons_succ, i64_w, i32_w]
                                       rfl
                                     refine take_ (i := 7) (N := some 65) (v := ?_) (a' := ?_) #[true, true, true, false, true, true, true, true, false, false] rfl rfl (take_ofW HT_.out HW_.out (by kernel_rfl)) (fun _ _ _ h => h) (Or.inl ⟨by rfl, ?_⟩) hHeld ?_ ?_
                                     rotate_left
                                     · rintro w' ⟨s0, s1, s2, s3⟩
                                       go_simp
                                       with_reducible rfl
                                     rotate_left
                                     · simp only [Act.put, List.setIfInBounds_toArray, List.set_cons_zero, List.set_cons_succ, i64_w, i32_w]
                                       rfl
                                     refine one_ (i := 3) (N := some 61) #[true, true, true, true, true, true, true, true, false, false] rfl rfl (one_of HT_.out (by kernel_rfl)) (by decide) (fun K hK => ?_)
                                     refine goes_ Try.func82 (by kernel_rfl) rfl #[.slice (some ad993) l0.length c0, .string ((rd_T110 ((rd_T52 l0 x38_3).f2) x51_4).f2)] (by rfl) rfl rfl (by (try simp only [List.map_toArray, List.map_cons, List.map_nil]); first | done | rfl | (simp only [List.length_drop, List.length_take]; rfl)) ?_
                                     with_reducible refine (impl_find.calls _ _ l0 ((rd_T110 ((rd_T52 l0 x38_3).f2) x51_4).f2) t999 _ ?side1 ?side2 A35.out).mono ?_
                                     (case side1 => repeat (first | exact (Kd.C_below HR0.out HB.out) | (with_reducible refine Kd.C_alloc ?_ _) | (with_reducible refine Kd.C_drewN ?_ _) | (with_reducible refine Kd.C_drew ?_)))
                                     (case side2 => exact HC0.out)
                                     rintro e w57 ⟨rfl, hb⟩
                                     have HS3_ := (hb.cell (World.block_lt_of_cell? _ _ (hHeld.2.2.2))).trans (hHeld.2.2.2)
                                     refine ⟨_, rfl, ?_⟩
                                     have n0_ := Aside0.mk (Kd.R_below (by (with_reducible repeat (first | apply Kd.R_alloc | apply Kd.R_drewN | apply Kd.R_drew)); exact HO_3.out) hb)
                                     have n1_ := Aside0.mk (blk_below (g := gb994) (o := .cells #[.string ((rd_T52 l0 x38_3).f0), .bool ((rd_T52 l0 x38_3).f1), .slice (some ad996) ((rd_T52 l0 x38_3).f2).length c993_2] 52 (0, 0)) (by (with_reducible repeat (first | refine blk_drewN ?_ _ | refine blk_drew ?_ | refine blk_alloc ?_ _)); exact BK994.out) hb)
                                     have n2_ := Aside0.mk (blk_below (g := gb997) (o := .cells #[.int .i64 ((rd_T110 ((rd_T52 l0 x38_3).f2) x51_4).f0), .int .i64 ((rd_T110 ((rd_T52 l0 x38_3).f2) x51_4).f1), .string ((rd_T110 ((rd_T52 l0 x38_3).f2) x51_4).f2)] 110 (0, 0)) (by (with_reducible repeat (first | refine blk_drewN ?_ _ | refine blk_drew ?_ | refine blk_alloc ?_ _)); exact BK997.out) hb)
                                     have n3_ := Aside0.mk (below_step (by repeat (first | (with_reducible first | exact HB.out | apply below_alloc | apply pw_below_drewN | apply below_drew1 | refine below_set ?_ GE994.out | refine below_set ?_ GE997.out) | exact HB.out)) hb)
                                     clear HO_3 BK994 BK997; clear HB
                                     have HO_3 := n0_
                                     have BK994 := n1_
                                     have BK997 := n2_
                                     have HB := n3_
                                     clear n0_ n1_ n2_ n3_
                                     (try clear hb)
                                     (try clear hb2)
                                     (try clear hk)
                                     (try clear hi)
                                     refine hK.out _ _ ⟨(blk_cell BK997.out 0).trans rfl, (blk_cell BK997.out 1).trans rfl, (blk_cell BK997.out 2).trans rfl, HS3_⟩ (fun hHeld => ?_)
                                     clear hK K
                                     refine norm_ (a' := ?_) ?_ ?_
                                     rotate_left
                                     · show Act.put _ (some 61) _ = _
                                       simp only [Act.put, List.setIfInBounds_toArray, List.set_cons_zero, List.set_cons_succ, i64_w, i32_w]
                                       rfl
                                     refine pure_ (i := 8) (N := some 11) (v := ?_) (a' := ?_) #[true, true, true, true, true, true, true, true, true, false] rfl rfl (any_of HT_.out (by kernel_rfl)) (fun _ _ _ h => h) (Or.inl ⟨by rfl, ?_⟩) ?_ ?_
                                     rotate_left
                                     · intro w'
                                       go_simp
                                       with_reducible rfl
                                     rotate_left
                                     · simp only [Act.put, List.setIfInBounds_toArray, List.set_cons_zero, List.set_cons_succ, i64_w, i32_w]
                                       rfl
                                     refine pure_ (i := 9) (N := some 12) (v := ?_) (a' := ?_) #[true, true, true, true, true, true, true, true, true, true] rfl rfl (any_of HT_.out (by kernel_rfl)) (fun _ _ _ h => h) (Or.inl ⟨by rfl, ?_⟩) ?_ ?_
                                     rotate_left
                                     · intro w'
                                       go_simp
                                       with_reducible rfl
                                     rotate_left
                                     · simp only [Act.put, List.setIfInBounds_toArray, List.set_cons_zero, List.set_cons_succ, i64_w, i32_w]
                                       rfl
                                     refine done_ (done_of HT_.out (by kernel_rfl)) ?_
                                     have hcz58_0 : w57.cell? ⟨gb997, 0, none⟩ = some (.int .i64 ((rd_T110 ((rd_T52 l0 x38_3).f2) x51_4).f0)) := (blk_cell BK997.out 0).trans rfl
                                     have hcz58_1 : w57.cell? ⟨gb997, 1, none⟩ = some (.int .i64 ((rd_T110 ((rd_T52 l0 x38_3).f2) x51_4).f1)) := (blk_cell BK997.out 1).trans rfl
                                     have hcz58_2 : w57.cell? ⟨gb997, 2, none⟩ = some (.string ((rd_T110 ((rd_T52 l0 x38_3).f2) x51_4).f2)) := (blk_cell BK997.out 2).trans rfl
                                     have hfz58_0 := blk_frozen BK997.out 0
                                     have hfz58_1 := blk_frozen BK997.out 1
                                     have hfz58_2 := blk_frozen BK997.out 2
                                     have p1001 : 0 ≤ (t999 : Int) := of_decide_eq_true (by first | (with_reducible assumption) | assumption)
                                     have q1001 : t999 < (x3_4.length : Int) := of_decide_eq_true (by first | (with_reducible assumption) | assumption)
                                     obtain ⟨ad1001, e1001, hx1001_0⟩ := Kd.at_int (Kd.R_reads' HO_3.out).2.2 t999 p1001 q1001
                                     obtain rfl : (⟨go17, 0, none⟩ : Addr) = ad1001 := (by injection e1001)
                                     (first | simp only [add_plain] at hx1001_0 | simp only [add_at] at hx1001_0 | simp only [Addr.add, Nat.zero_add] at hx1001_0 | skip)
                                     replace p1001 := eq_true p1001; replace q1001 := eq_true q1001
                                     try go_wp2
                                     (try simp only [← hl3_4])
                                     go_roundg k4
                                     case measure => have := HK1.out; have := HK2.out; have := HK3.out; have := HK4.out; omega
                                     case rel => exact ⟨(x3_4), (x6_4), (wrap64 (x51_4 + 1)), (by first | rfl | (simp; done) | (simp [*]; done)), (by first | rfl | (simp; done) | (simp [*]; done)), H', ⟨by have := HK1.out; have := HK2.out; have := HK3.out; have := HK4.out; omega⟩, ⟨by (try simp only [hl3_1]); (try simp only [hl3_2]); (try simp only [hl3_3]); (try simp only [hl3_4]); (with_reducible repeat (first | apply Kd.R_alloc | apply Kd.R_drewN | apply Kd.R_drew)); exact HO_3.out⟩, ⟨by (try simp only [hl3_1]); (try simp only [hl3_2]); (try simp only [hl3_3]); (try simp only [hl3_4]); (with_reducible repeat (first | refine blk_drewN ?_ _ | refine blk_drew ?_ | refine blk_alloc ?_ _)); exact BK994.out⟩, ⟨by repeat (first | (with_reducible first | exact HB.out | apply below_alloc | apply pw_below_drewN | apply below_drew1 | refine below_set ?_ GE994.out | refine below_set ?_ GE997.out) | exact HB.out)⟩⟩
                                   rw [if_neg c40] at H
                                   exact absurd H (by simp)
                                 rw [if_neg c39] at H
                                 exact absurd H (by simp)
                               rw [if_neg c38] at H
                               have c38b0 : (((rd_T110 ((rd_T52 l0 x38_3).f2) x51_4).f0) == 3) = false := beq_eq_false_iff_ne.mpr c38
                               have c38b1 : (((rd_T110 ((rd_T52 l0 x38_3).f2) x51_4).f0) != 3) = true := bne_iff_ne.mpr c38
                               by_cases c59 : 0 ≤ t999
                               · rw [if_pos c59] at H
                                 have c59b0 : decide (0 ≤ t999) = true := decide_eq_true c59
                                 clear c59
                                 by_cases c60 : t999 < (x3_4.length : Int)
                                 · rw [if_pos c60] at H
                                   have c60b0 : decide (t999 < (x3_4.length : Int)) = true := decide_eq_true c60
                                   clear c60
                                   by_cases c61 : (rd x3_4 x38_3) > (rd x3_4 t999)
                                   · rw [if_pos c61] at H
                                     have c61b0 : decide ((rd x3_4 t999) < (rd x3_4 x38_3)) = true := decide_eq_true c61
                                     clear c61
                                     obtain ⟨y1004, hy1004⟩ : ∃ y_ : List Int, y_ = (x3_4.set (t999 : Int).toNat (rd x3_4 x38_3)) := ⟨_, rfl⟩
                                     replace H : (impl_GraphDeep.l3 k4 l0 y1004 x5_2 true x38_3 l0 (l0.length : Int) x38_3 ((rd_T52 l0 x38_3).f2) (((rd_T52 l0 x38_3).f2).length : Int) (wrap64 (x51_4 + 1))) = some r := by first | (rw [hy1004]; with_reducible exact H) | (have H2_ := (Option.bind_some _ _).symm.trans H; rw [hy1004]; with_reducible exact H2_) | (have H2_ := (Option.bind_some _ _).symm.trans H; with_reducible exact H2_) | with_reducible exact H | (rw [hy1004]; exact H) | exact H
                                     have Ny1004 := Aside0.mk hy1004; clear hy1004
                                     have H' := Aside0.mk H
                                     clear H
                                     have p996 : 0 ≤ (x51_4 : Int) := of_decide_eq_true (by first | (with_reducible assumption) | assumption)
                                     have q996 : x51_4 < (((rd_T52 l0 x38_3).f2).length : Int) := of_decide_eq_true (by first | (with_reducible assumption) | assumption)
                                     obtain ⟨ad996, e996, hx996_0, hx996_1, hx996_2⟩ := at_T110 HR993_2.out x51_4 p996 q996
                                     cases e996
                                     replace hx996_0 := (HB.out.cell (World.block_lt_of_cell? w _ hx996_0)).trans hx996_0
                                     replace hx996_1 := (HB.out.cell (World.block_lt_of_cell? w _ hx996_1)).trans hx996_1
                                     replace hx996_2 := (HB.out.cell (World.block_lt_of_cell? w _ hx996_2)).trans hx996_2
                                     replace p996 := eq_true p996; replace q996 := eq_true q996
                                     try go_wp2_with (first | ((with_reducible refine gate_dst (N := 10) rfl ?_); refine box_event ?hg (N := 10) ?hd (cs := #[.int .i64 0, .int .i64 0, .string (⟨#[]⟩ : ByteArray)]) (t := 110) ?hr ?_; (case hd => rfl); (case hg => rfl); (case hr => first | (go_simp; done) | (go_simp; rfl)); intro gb997 hg w63 hbox hb; have n0_ := Aside0.mk (Kd.R_below (by (with_reducible repeat (first | apply Kd.R_alloc | apply Kd.R_drewN | apply Kd.R_drew)); exact HO_3.out) hb); have n1_ := Aside0.mk (blk_below (g := gb994) (o := .cells #[.string ((rd_T52 l0 x38_3).f0), .bool ((rd_T52 l0 x38_3).f1), .slice (some ad996) ((rd_T52 l0 x38_3).f2).length c993_2] 52 (0, 0)) (by (with_reducible repeat (first | refine blk_drewN ?_ _ | refine blk_drew ?_ | refine blk_alloc ?_ _)); exact BK994.out) hb); have n2_ := Aside0.mk (below_step (by repeat (first | (with_reducible first | exact HB.out | apply below_alloc | apply pw_below_drewN | apply below_drew1 | refine below_set ?_ GE994.out) | exact HB.out)) hb); have n3_ := Aside0.mk (hbox); have n4_ := Aside0.mk ((by rw [hg]; exact (below_size (by repeat (first | (with_reducible first | exact HB.out | apply below_alloc | apply pw_below_drewN | apply below_drew1 | refine below_set ?_ GE994.out) | exact HB.out))) : w.heap.size ≤ gb997)); have n5_ := Aside0.mk ((by rw [hg]; exact (below_size (by repeat (first | (with_reducible first | exact HB.out | apply below_alloc | apply pw_below_drewN | apply below_drew1 | refine below_set ?_ GE994.out) | exact HB.out))) : w.heap.size ≤ gb997)); have n6_ := Aside0.mk ((by rw [hg]; exact Nat.ne_of_lt (blk_lt (g := gb994) (o := .cells #[.string ((rd_T52 l0 x38_3).f0), .bool ((rd_T52 l0 x38_3).f1), .slice (some ad996) ((rd_T52 l0 x38_3).f2).length c993_2] 52 (0, 0)) (by (with_reducible repeat (first | refine blk_drewN ?_ _ | refine blk_drew ?_ | refine blk_alloc ?_ _)); exact BK994.out)) : gb994 ≠ gb997)); have n7_ := Aside0.mk ((by rw [hg]; exact Nat.ne_of_gt (blk_lt (g := gb994) (o := .cells #[.string ((rd_T52 l0 x38_3).f0), .bool ((rd_T52 l0 x38_3).f1), .slice (some ad996) ((rd_T52 l0 x38_3).f2).length c993_2] 52 (0, 0)) (by (with_reducible repeat (first | refine blk_drewN ?_ _ | refine blk_drew ?_ | refine blk_alloc ?_ _)); exact BK994.out)) : gb997 ≠ gb994)); clear HO_3 BK994 HB; have HO_3 := n0_; have BK994 := n1_; have HB := n2_; have BK997 := n3_; have GW997 := n4_; have GE997 := n5_; have NB994_997 := n6_; have NB997_994 := n7_; clear n0_ n1_ n2_ n3_ n4_ n5_ n6_ n7_ hb hbox hg; have hnb64 := NB997_994.out; have hnc64 := NB994_997.out; have hcz65_0 : w63.cell? ⟨gb997, 0, none⟩ = some (.int .i64 0) := (blk_cell BK997.out 0).trans rfl; have hcz65_1 : w63.cell? ⟨gb997, 1, none⟩ = some (.int .i64 0) := (blk_cell BK997.out 1).trans rfl; have hcz65_2 : w63.cell? ⟨gb997, 2, none⟩ = some (.string (⟨#[]⟩ : ByteArray)) := (blk_cell BK997.out 2).trans rfl; have hfz65_0 := blk_frozen BK997.out 0; have hfz65_1 := blk_frozen BK997.out 1; have hfz65_2 := blk_frozen BK997.out 2) | ((with_reducible refine gate_callee (f := 92) rfl ?_); refine goesL_ (some 56) rfl rfl Try.func92 (by kernel_rfl) rfl #[.agg #[.int .i64 ((rd_T110 ((rd_T52 l0 x38_3).f2) x51_4).f0), .int .i64 ((rd_T110 ((rd_T52 l0 x38_3).f2) x51_4).f1), .string ((rd_T110 ((rd_T52 l0 x38_3).f2) x51_4).f2)]] rfl (by (try simp only [List.map_toArray, List.map_cons, List.map_nil]); first | done | rfl | (simp only [List.length_drop, List.length_take]; rfl)) ?_; (with_reducible refine (impl_InsRefs.calls ((rd_T110 ((rd_T52 l0 x38_3).f2) x51_4).f0) ((rd_T110 ((rd_T52 l0 x38_3).f2) x51_4).f1) ((rd_T110 ((rd_T52 l0 x38_3).f2) x51_4).f2) true _ A33.out).mono ?_); rintro e w66 ⟨rfl, hb⟩; refine ⟨_, rfl, ?_⟩; have n0_ := Aside0.mk (Kd.R_below (by (with_reducible repeat (first | apply Kd.R_alloc | apply Kd.R_drewN | apply Kd.R_drew)); exact (Kd.R_mono (Kd.R_far (p := ⟨gb997, 2, none⟩) (Kd.R_far (p := ⟨gb997, 1, none⟩) (Kd.R_far (p := ⟨gb997, 0, none⟩) (Kd.R_types HO_3.out BK997.out (by decide)) (fun _ hk => hk.2) (.int .i64 ((rd_T110 ((rd_T52 l0 x38_3).f2) x51_4).f0))) (fun _ hk => hk.2) (.int .i64 ((rd_T110 ((rd_T52 l0 x38_3).f2) x51_4).f1))) (fun _ hk => hk.2) (.string ((rd_T110 ((rd_T52 l0 x38_3).f2) x51_4).f2))) (fun _ h_ => h_.1))) hb); have n1_ := Aside0.mk (blk_below (g := gb994) (o := .cells #[.string ((rd_T52 l0 x38_3).f0), .bool ((rd_T52 l0 x38_3).f1), .slice (some ad996) ((rd_T52 l0 x38_3).f2).length c993_2] 52 (0, 0)) (by (with_reducible repeat (first | refine blk_drewN ?_ _ | refine blk_drew ?_ | refine blk_alloc ?_ _)); refine blk_far ?_ NB994_997.out _; (with_reducible repeat (first | refine blk_drewN ?_ _ | refine blk_drew ?_ | refine blk_alloc ?_ _)); refine blk_far ?_ NB994_997.out _; (with_reducible repeat (first | refine blk_drewN ?_ _ | refine blk_drew ?_ | refine blk_alloc ?_ _)); refine blk_far ?_ NB994_997.out _; (with_reducible repeat (first | refine blk_drewN ?_ _ | refine blk_drew ?_ | refine blk_alloc ?_ _)); exact BK994.out) hb); have n2_ := Aside0.mk (blk_below (g := gb997) (o := .cells #[.int .i64 ((rd_T110 ((rd_T52 l0 x38_3).f2) x51_4).f0), .int .i64 ((rd_T110 ((rd_T52 l0 x38_3).f2) x51_4).f1), .string ((rd_T110 ((rd_T52 l0 x38_3).f2) x51_4).f2)] 110 (0, 0)) (by (with_reducible repeat (first | refine blk_drewN ?_ _ | refine blk_drew ?_ | refine blk_alloc ?_ _)); refine blk_put (cs := #[.int .i64 ((rd_T110 ((rd_T52 l0 x38_3).f2) x51_4).f0), .int .i64 ((rd_T110 ((rd_T52 l0 x38_3).f2) x51_4).f1), .string (⟨#[]⟩ : ByteArray)]) ?_ 2 _ rfl; (with_reducible repeat (first | refine blk_drewN ?_ _ | refine blk_drew ?_ | refine blk_alloc ?_ _)); refine blk_put (cs := #[.int .i64 ((rd_T110 ((rd_T52 l0 x38_3).f2) x51_4).f0), .int .i64 0, .string (⟨#[]⟩ : ByteArray)]) ?_ 1 _ rfl; (with_reducible repeat (first | refine blk_drewN ?_ _ | refine blk_drew ?_ | refine blk_alloc ?_ _)); refine blk_put (cs := #[.int .i64 0, .int .i64 0, .string (⟨#[]⟩ : ByteArray)]) ?_ 0 _ rfl; (with_reducible repeat (first | refine blk_drewN ?_ _ | refine blk_drew ?_ | refine blk_alloc ?_ _)); exact BK997.out) hb); have n3_ := Aside0.mk (below_step (by repeat (first | (with_reducible first | exact HB.out | apply below_alloc | apply pw_below_drewN | apply below_drew1 | refine below_set ?_ GE994.out | refine below_set ?_ GE997.out) | exact HB.out)) hb); clear HO_3 BK994 BK997 HB; have HO_3 := n0_; have BK994 := n1_; have BK997 := n2_; have HB := n3_; clear n0_ n1_ n2_ n3_; (try clear hb); (try clear hb2); (try clear hk); (try clear hi)))
                                     have n0_ := Aside0.mk (Kd.R_drew HO_3.out)
                                     have n1_ := Aside0.mk (blk_drew BK994.out)
                                     have n2_ := Aside0.mk (blk_drew BK997.out)
                                     have n3_ := Aside0.mk (below_drew1 HB.out)
                                     clear HO_3 BK994 BK997; clear HB
                                     have HO_3 := n0_
                                     have BK994 := n1_
                                     have BK997 := n2_
                                     have HB := n3_
                                     clear n0_ n1_ n2_ n3_
                                     have p1000 : 0 ≤ (x38_3 : Int) := of_decide_eq_true (by first | (with_reducible assumption) | assumption)
                                     have q1000 : x38_3 < (x3_4.length : Int) := of_decide_eq_true (by first | (with_reducible assumption) | assumption)
                                     obtain ⟨ad1000, e1000, hx1000_0⟩ := Kd.at_int (Kd.R_reads' HO_3.out).2.2 x38_3 p1000 q1000
                                     obtain rfl : (⟨go17, 0, none⟩ : Addr) = ad1000 := (by injection e1000)
                                     (first | simp only [add_plain] at hx1000_0 | simp only [add_at] at hx1000_0 | simp only [Addr.add, Nat.zero_add] at hx1000_0 | skip)
                                     replace p1000 := eq_true p1000; replace q1000 := eq_true q1000
                                     refine start_ (n := 10) (S := fun w' => w'.cell? ⟨gb997, 0, none⟩ = some (.int .i64 ((rd_T110 ((rd_T52 l0 x38_3).f2) x51_4).f0)) ∧ w'.cell? ⟨gb997, 1, none⟩ = some (.int .i64 ((rd_T110 ((rd_T52 l0 x38_3).f2) x51_4).f1)) ∧ w'.cell? ⟨gb997, 2, none⟩ = some (.string ((rd_T110 ((rd_T52 l0 x38_3).f2) x51_4).f2)) ∧ w'.cell? ⟨go17, (x38_3).toNat, none⟩ = some (.int .i64 (rd x3_4 x38_3))) (ds := []) #[false, false, false, false, false, false, false, false, false, false] (by kernel_rfl) rfl rfl ⟨(blk_cell BK997.out 0).trans rfl, (blk_cell BK997.out 1).trans rfl, (blk_cell BK997.out 2).trans rfl, hx1000_0⟩ (fun hHeld => ?_); refine with_tabW impl_GraphDeep.tab22 impl_GraphDeep.bits22 (fun HT_ HW_ => ?_)
                                     generalize w66.drew = w67 at HO_3 BK994 BK997 HB hx1000_0 hHeld ⊢
                                     refine pure_ (i := 0) (N := some 58) (v := ?_) (a' := ?_) #[true, false, false, false, false, false, false, false, false, false] rfl rfl (any_of HT_.out (by kernel_rfl)) (fun _ _ _ h => h) (Or.inl ⟨by rfl, ?_⟩) ?_ ?_
                                     rotate_left
                                     · intro w'
                                       go_simp
                                       with_reducible rfl
                                     rotate_left
                                     · simp only [Act.put, List.setIfInBounds_toArray, List.set_cons_zero, List.set_cons_succ, i64_w, i32_w]
                                       rfl
                                     refine pure_ (i := 1) (N := some 59) (v := ?_) (a' := ?_) #[true, true, false, false, false, false, false, false, false, false] rfl rfl (any_of HT_.out (by kernel_rfl)) (fun _ _ _ h => h) (Or.inl ⟨by rfl, ?_⟩) ?_ ?_
                                     rotate_left
                                     · intro w'
                                       go_simp
                                       with_reducible rfl
                                     rotate_left
                                     · simp only [Act.put, List.setIfInBounds_toArray, List.set_cons_zero, List.set_cons_succ, i64_w, i32_w]
                                       rfl
                                     refine pure_ (i := 4) (N := some 62) (v := ?_) (a' := ?_) #[true, true, false, false, true, false, false, false, false, false] rfl rfl (any_of HT_.out (by kernel_rfl)) (fun _ _ _ h => h) (Or.inl ⟨by rfl, ?_⟩) ?_ ?_
                                     rotate_left
                                     · intro w'
                                       go_simp
                                       with_reducible rfl
                                     rotate_left
                                     · simp only [Act.put, List.setIfInBounds_toArray, List.set_cons_zero, List.set_cons_succ, i64_w, i32_w]
                                       rfl
                                     refine pure_ (i := 5) (N := some 63) (v := ?_) (a' := ?_) #[true, true, false, false, true, true, false, false, false, false] rfl rfl (any_of HT_.out (by kernel_rfl)) (fun _ _ _ h => h) (Or.inl ⟨by rfl, ?_⟩) ?_ ?_
                                     rotate_left
                                     · intro w'
                                       go_simp
                                       with_reducible rfl
                                     rotate_left
                                     · simp only [Act.put, List.setIfInBounds_toArray, List.set_cons_zero, List.set_cons_succ, i64_w, i32_w]
                                       rfl
                                     refine pure_ (i := 6) (N := some 64) (v := ?_) (a' := ?_) #[true, true, false, false, true, true, true, false, false, false] rfl rfl (any_of HT_.out (by kernel_rfl)) (fun _ _ _ h => h) (Or.inl ⟨by rfl, ?_⟩) ?_ ?_
                                     rotate_left
                                     · intro w'
                                       go_simp
                                       with_reducible rfl
                                     rotate_left
                                     · simp only [Act.put, List.setIfInBounds_toArray, List.set_cons_zero, List.set_cons_succ, i64_w, i32_w]
                                       rfl
                                     refine take_ (i := 2) (N := some 60) (v := ?_) (a' := ?_) #[true, true, true, false, true, true, true, false, false, false] rfl rfl (take_ofW HT_.out HW_.out (by kernel_rfl)) (fun _ _ _ h => h) (Or.inl ⟨by rfl, ?_⟩) hHeld ?_ ?_
                                     rotate_left
                                     · rintro w' ⟨s0, s1, s2, s3⟩
                                       go_simp
                                       with_reducible rfl
                                     rotate_left
                                     · simp only [Act.put, List.setIfInBounds_toArray, List.set_cons_zero, List.set_cons_succ, i64_w, i32_w]
                                       rfl
                                     refine take_ (i := 7) (N := some 65) (v := ?_) (a' := ?_) #[true, true, true, false, true, true, true, true, false, false] rfl rfl (take_ofW HT_.out HW_.out (by kernel_rfl)) (fun _ _ _ h => h) (Or.inl ⟨by rfl, ?_⟩) hHeld ?_ ?_
                                     rotate_left
                                     · rintro w' ⟨s0, s1, s2, s3⟩
                                       go_simp
                                       with_reducible rfl
                                     rotate_left
                                     · simp only [Act.put, List.setIfInBounds_toArray, List.set_cons_zero, List.set_cons_succ, i64_w, i32_w]
                                       rfl
                                     refine one_ (i := 3) (N := some 61) #[true, true, true, true, true, true, true, true, false, false] rfl rfl (one_of HT_.out (by kernel_rfl)) (by decide) (fun K hK => ?_)
                                     refine goes_ Try.func82 (by kernel_rfl) rfl #[.slice (some ad993) l0.length c0, .string ((rd_T110 ((rd_T52 l0 x38_3).f2) x51_4).f2)] (by rfl) rfl rfl (by (try simp only [List.map_toArray, List.map_cons, List.map_nil]); first | done | rfl | (simp only [List.length_drop, List.length_take]; rfl)) ?_
                                     with_reducible refine (impl_find.calls _ _ l0 ((rd_T110 ((rd_T52 l0 x38_3).f2) x51_4).f2) t999 _ ?side1 ?side2 A35.out).mono ?_
                                     (case side1 => repeat (first | exact (Kd.C_below HR0.out HB.out) | (with_reducible refine Kd.C_alloc ?_ _) | (with_reducible refine Kd.C_drewN ?_ _) | (with_reducible refine Kd.C_drew ?_)))
                                     (case side2 => exact HC0.out)
                                     rintro e w68 ⟨rfl, hb⟩
                                     have HS3_ := (hb.cell (World.block_lt_of_cell? _ _ (hHeld.2.2.2))).trans (hHeld.2.2.2)
                                     refine ⟨_, rfl, ?_⟩
                                     have n0_ := Aside0.mk (Kd.R_below (by (with_reducible repeat (first | apply Kd.R_alloc | apply Kd.R_drewN | apply Kd.R_drew)); exact HO_3.out) hb)
                                     have n1_ := Aside0.mk (blk_below (g := gb994) (o := .cells #[.string ((rd_T52 l0 x38_3).f0), .bool ((rd_T52 l0 x38_3).f1), .slice (some ad996) ((rd_T52 l0 x38_3).f2).length c993_2] 52 (0, 0)) (by (with_reducible repeat (first | refine blk_drewN ?_ _ | refine blk_drew ?_ | refine blk_alloc ?_ _)); exact BK994.out) hb)
                                     have n2_ := Aside0.mk (blk_below (g := gb997) (o := .cells #[.int .i64 ((rd_T110 ((rd_T52 l0 x38_3).f2) x51_4).f0), .int .i64 ((rd_T110 ((rd_T52 l0 x38_3).f2) x51_4).f1), .string ((rd_T110 ((rd_T52 l0 x38_3).f2) x51_4).f2)] 110 (0, 0)) (by (with_reducible repeat (first | refine blk_drewN ?_ _ | refine blk_drew ?_ | refine blk_alloc ?_ _)); exact BK997.out) hb)
                                     have n3_ := Aside0.mk (below_step (by repeat (first | (with_reducible first | exact HB.out | apply below_alloc | apply pw_below_drewN | apply below_drew1 | refine below_set ?_ GE994.out | refine below_set ?_ GE997.out) | exact HB.out)) hb)
                                     clear HO_3 BK994 BK997; clear HB
                                     have HO_3 := n0_
                                     have BK994 := n1_
                                     have BK997 := n2_
                                     have HB := n3_
                                     clear n0_ n1_ n2_ n3_
                                     (try clear hb)
                                     (try clear hb2)
                                     (try clear hk)
                                     (try clear hi)
                                     refine hK.out _ _ ⟨(blk_cell BK997.out 0).trans rfl, (blk_cell BK997.out 1).trans rfl, (blk_cell BK997.out 2).trans rfl, HS3_⟩ (fun hHeld => ?_)
                                     clear hK K
                                     refine norm_ (a' := ?_) ?_ ?_
                                     rotate_left
                                     · show Act.put _ (some 61) _ = _
                                       simp only [Act.put, List.setIfInBounds_toArray, List.set_cons_zero, List.set_cons_succ, i64_w, i32_w]
                                       rfl
                                     refine pure_ (i := 8) (N := some 11) (v := ?_) (a' := ?_) #[true, true, true, true, true, true, true, true, true, false] rfl rfl (any_of HT_.out (by kernel_rfl)) (fun _ _ _ h => h) (Or.inl ⟨by rfl, ?_⟩) ?_ ?_
                                     rotate_left
                                     · intro w'
                                       go_simp
                                       with_reducible rfl
                                     rotate_left
                                     · simp only [Act.put, List.setIfInBounds_toArray, List.set_cons_zero, List.set_cons_succ, i64_w, i32_w]
                                       rfl
                                     refine pure_ (i := 9) (N := some 12) (v := ?_) (a' := ?_) #[true, true, true, true, true, true, true, true, true, true] rfl rfl (any_of HT_.out (by kernel_rfl)) (fun _ _ _ h => h) (Or.inl ⟨by rfl, ?_⟩) ?_ ?_
                                     rotate_left
                                     · intro w'
                                       go_simp
                                       with_reducible rfl
                                     rotate_left
                                     · simp only [Act.put, List.setIfInBounds_toArray, List.set_cons_zero, List.set_cons_succ, i64_w, i32_w]
                                       rfl
                                     refine done_ (done_of HT_.out (by kernel_rfl)) ?_
                                     have hcz69_0 : w68.cell? ⟨gb997, 0, none⟩ = some (.int .i64 ((rd_T110 ((rd_T52 l0 x38_3).f2) x51_4).f0)) := (blk_cell BK997.out 0).trans rfl
                                     have hcz69_1 : w68.cell? ⟨gb997, 1, none⟩ = some (.int .i64 ((rd_T110 ((rd_T52 l0 x38_3).f2) x51_4).f1)) := (blk_cell BK997.out 1).trans rfl
                                     have hcz69_2 : w68.cell? ⟨gb997, 2, none⟩ = some (.string ((rd_T110 ((rd_T52 l0 x38_3).f2) x51_4).f2)) := (blk_cell BK997.out 2).trans rfl
                                     have hfz69_0 := blk_frozen BK997.out 0
                                     have hfz69_1 := blk_frozen BK997.out 1
                                     have hfz69_2 := blk_frozen BK997.out 2
                                     have p1003 : 0 ≤ (t999 : Int) := of_decide_eq_true (by first | (with_reducible assumption) | assumption)
                                     have q1003 : t999 < (x3_4.length : Int) := of_decide_eq_true (by first | (with_reducible assumption) | assumption)
                                     obtain ⟨ad1003, e1003, hx1003_0⟩ := Kd.at_int (Kd.R_reads' HO_3.out).2.2 t999 p1003 q1003
                                     obtain rfl : (⟨go17, 0, none⟩ : Addr) = ad1003 := (by injection e1003)
                                     (first | simp only [add_plain] at hx1003_0 | simp only [add_at] at hx1003_0 | simp only [Addr.add, Nat.zero_add] at hx1003_0 | skip)
                                     replace p1003 := eq_true p1003; replace q1003 := eq_true q1003
                                     have p62 : 0 ≤ (t999 : Int) := of_decide_eq_true (by first | (with_reducible assumption) | assumption)
                                     have q62 : (t999 : Int) < ((x3_4.length : Int) : Int) := of_decide_eq_true (by first | (with_reducible assumption) | assumption)
                                     obtain ⟨hx62_0, hf62_0⟩ := Kd.R_celln 0 HO_3.out (t999 : Int) p62 q62
                                     replace p62 := eq_true p62; replace q62 := eq_true q62
                                     obtain ⟨hy70_, hz70_⟩ := Kd.R_celln 0 HO_3.out (t999 : Int) (of_decide_eq_true (by first | (with_reducible assumption) | assumption)) (of_decide_eq_true (by first | (with_reducible assumption) | assumption))
                                     have HP70 := Kd.R_putg HO_3.out (t999 : Int) (rd x3_4 x38_3)
                                     try go_wp2_with (first | ((with_reducible refine gate_store (t := 3) (p := 80) rfl ?_); refine store_event (t := 3) (p := 80) (v := ?vo_w71) (w1 := (w68.setCell ⟨go17, (t999 : Int).toNat, none⟩ (.int .i64 (rd x3_4 x38_3)))) ?hg ?ho ?hn ?hr ?_; (case ho => rfl); (case hg => rfl); (case hn => rfl); (case hr => first | (go_simp; done) | (go_simp; rfl) | ((try (obtain ⟨_, _, e_⟩ := Kd.R_slice HO_3.out; subst e_)); first | (go_simp; done) | (go_simp; rfl))); intro w71 hw; have hg : w68.grownBy w71 (some go17) := (by rw [hw]; exact HP70.2); have hp_ : Kd.R (Kd.int .i64) 3 w71 w.heap.size (fun _ => True) (.slice (some ⟨go17, 0, none⟩) x3_4.length co9) y1004 := (by rw [hw, Ny1004.out]; exact HP70.1); clear HP70; have n0_ := Aside0.mk (hp_); have n1_ := Aside0.mk (blk_grown (g := gb994) (o := .cells #[.string ((rd_T52 l0 x38_3).f0), .bool ((rd_T52 l0 x38_3).f1), .slice (some ad996) ((rd_T52 l0 x38_3).f2).length c993_2] 52 (0, 0)) (by (with_reducible repeat (first | refine blk_drewN ?_ _ | refine blk_drew ?_ | refine blk_alloc ?_ _)); exact BK994.out) hg (Kd.R_ne HO_3.out BK994.out (by decide))); have n2_ := Aside0.mk (blk_grown (g := gb997) (o := .cells #[.int .i64 ((rd_T110 ((rd_T52 l0 x38_3).f2) x51_4).f0), .int .i64 ((rd_T110 ((rd_T52 l0 x38_3).f2) x51_4).f1), .string ((rd_T110 ((rd_T52 l0 x38_3).f2) x51_4).f2)] 110 (0, 0)) (by (with_reducible repeat (first | refine blk_drewN ?_ _ | refine blk_drew ?_ | refine blk_alloc ?_ _)); exact BK997.out) hg (Kd.R_ne HO_3.out BK997.out (by decide))); have n3_ := Aside0.mk ((by rw [hw]; exact below_set (HB.out) GB17.out : Below w.heap.size w w71)); clear HO_3 BK994 BK997 HB; have HO_3 := n0_; have BK994 := n1_; have BK997 := n2_; have HB := n3_; clear n0_ n1_ n2_ n3_ hg hw hp_))
                                     (try simp only [← hl3_4])
                                     go_roundg k4
                                     case measure => have := HK1.out; have := HK2.out; have := HK3.out; have := HK4.out; omega
                                     case rel => exact ⟨(y1004), (true), (wrap64 (x51_4 + 1)), (by first | rfl | (simp; done) | (simp [*]; done)), (by first | rfl | (simp; done) | (simp [*]; done)), H', ⟨by have := HK1.out; have := HK2.out; have := HK3.out; have := HK4.out; omega⟩, ⟨by (try simp only [hl3_1]); (try simp only [hl3_2]); (try simp only [hl3_3]); (try simp only [hl3_4]); (with_reducible repeat (first | apply Kd.R_alloc | apply Kd.R_drewN | apply Kd.R_drew)); exact HO_3.out⟩, ⟨by (try simp only [hl3_1]); (try simp only [hl3_2]); (try simp only [hl3_3]); (try simp only [hl3_4]); (with_reducible repeat (first | refine blk_drewN ?_ _ | refine blk_drew ?_ | refine blk_alloc ?_ _)); exact BK994.out⟩, ⟨by repeat (first | (with_reducible first | exact HB.out | apply below_alloc | apply pw_below_drewN | apply below_drew1 | refine below_set ?_ GE994.out | refine below_set ?_ GE997.out) | exact HB.out)⟩⟩
                                   rw [if_neg c61] at H
                                   have c61b0 : decide ((rd x3_4 t999) < (rd x3_4 x38_3)) = false := decide_eq_false c61
                                   clear c61
                                   have H' := Aside0.mk H
                                   clear H
                                   have p996 : 0 ≤ (x51_4 : Int) := of_decide_eq_true (by first | (with_reducible assumption) | assumption)
                                   have q996 : x51_4 < (((rd_T52 l0 x38_3).f2).length : Int) := of_decide_eq_true (by first | (with_reducible assumption) | assumption)
                                   obtain ⟨ad996, e996, hx996_0, hx996_1, hx996_2⟩ := at_T110 HR993_2.out x51_4 p996 q996
                                   cases e996
                                   replace hx996_0 := (HB.out.cell (World.block_lt_of_cell? w _ hx996_0)).trans hx996_0
                                   replace hx996_1 := (HB.out.cell (World.block_lt_of_cell? w _ hx996_1)).trans hx996_1
                                   replace hx996_2 := (HB.out.cell (World.block_lt_of_cell? w _ hx996_2)).trans hx996_2
                                   replace p996 := eq_true p996; replace q996 := eq_true q996
                                   try go_wp2_with (first | ((with_reducible refine gate_dst (N := 10) rfl ?_); refine box_event ?hg (N := 10) ?hd (cs := #[.int .i64 0, .int .i64 0, .string (⟨#[]⟩ : ByteArray)]) (t := 110) ?hr ?_; (case hd => rfl); (case hg => rfl); (case hr => first | (go_simp; done) | (go_simp; rfl)); intro gb997 hg w72 hbox hb; have n0_ := Aside0.mk (Kd.R_below (by (with_reducible repeat (first | apply Kd.R_alloc | apply Kd.R_drewN | apply Kd.R_drew)); exact HO_3.out) hb); have n1_ := Aside0.mk (blk_below (g := gb994) (o := .cells #[.string ((rd_T52 l0 x38_3).f0), .bool ((rd_T52 l0 x38_3).f1), .slice (some ad996) ((rd_T52 l0 x38_3).f2).length c993_2] 52 (0, 0)) (by (with_reducible repeat (first | refine blk_drewN ?_ _ | refine blk_drew ?_ | refine blk_alloc ?_ _)); exact BK994.out) hb); have n2_ := Aside0.mk (below_step (by repeat (first | (with_reducible first | exact HB.out | apply below_alloc | apply pw_below_drewN | apply below_drew1 | refine below_set ?_ GE994.out) | exact HB.out)) hb); have n3_ := Aside0.mk (hbox); have n4_ := Aside0.mk ((by rw [hg]; exact (below_size (by repeat (first | (with_reducible first | exact HB.out | apply below_alloc | apply pw_below_drewN | apply below_drew1 | refine below_set ?_ GE994.out) | exact HB.out))) : w.heap.size ≤ gb997)); have n5_ := Aside0.mk ((by rw [hg]; exact (below_size (by repeat (first | (with_reducible first | exact HB.out | apply below_alloc | apply pw_below_drewN | apply below_drew1 | refine below_set ?_ GE994.out) | exact HB.out))) : w.heap.size ≤ gb997)); have n6_ := Aside0.mk ((by rw [hg]; exact Nat.ne_of_lt (blk_lt (g := gb994) (o := .cells #[.string ((rd_T52 l0 x38_3).f0), .bool ((rd_T52 l0 x38_3).f1), .slice (some ad996) ((rd_T52 l0 x38_3).f2).length c993_2] 52 (0, 0)) (by (with_reducible repeat (first | refine blk_drewN ?_ _ | refine blk_drew ?_ | refine blk_alloc ?_ _)); exact BK994.out)) : gb994 ≠ gb997)); have n7_ := Aside0.mk ((by rw [hg]; exact Nat.ne_of_gt (blk_lt (g := gb994) (o := .cells #[.string ((rd_T52 l0 x38_3).f0), .bool ((rd_T52 l0 x38_3).f1), .slice (some ad996) ((rd_T52 l0 x38_3).f2).length c993_2] 52 (0, 0)) (by (with_reducible repeat (first | refine blk_drewN ?_ _ | refine blk_drew ?_ | refine blk_alloc ?_ _)); exact BK994.out)) : gb997 ≠ gb994)); clear HO_3 BK994 HB; have HO_3 := n0_; have BK994 := n1_; have HB := n2_; have BK997 := n3_; have GW997 := n4_; have GE997 := n5_; have NB994_997 := n6_; have NB997_994 := n7_; clear n0_ n1_ n2_ n3_ n4_ n5_ n6_ n7_ hb hbox hg; have hnb73 := NB997_994.out; have hnc73 := NB994_997.out; have hcz74_0 : w72.cell? ⟨gb997, 0, none⟩ = some (.int .i64 0) := (blk_cell BK997.out 0).trans rfl; have hcz74_1 : w72.cell? ⟨gb997, 1, none⟩ = some (.int .i64 0) := (blk_cell BK997.out 1).trans rfl; have hcz74_2 : w72.cell? ⟨gb997, 2, none⟩ = some (.string (⟨#[]⟩ : ByteArray)) := (blk_cell BK997.out 2).trans rfl; have hfz74_0 := blk_frozen BK997.out 0; have hfz74_1 := blk_frozen BK997.out 1; have hfz74_2 := blk_frozen BK997.out 2) | ((with_reducible refine gate_callee (f := 92) rfl ?_); refine goesL_ (some 56) rfl rfl Try.func92 (by kernel_rfl) rfl #[.agg #[.int .i64 ((rd_T110 ((rd_T52 l0 x38_3).f2) x51_4).f0), .int .i64 ((rd_T110 ((rd_T52 l0 x38_3).f2) x51_4).f1), .string ((rd_T110 ((rd_T52 l0 x38_3).f2) x51_4).f2)]] rfl (by (try simp only [List.map_toArray, List.map_cons, List.map_nil]); first | done | rfl | (simp only [List.length_drop, List.length_take]; rfl)) ?_; (with_reducible refine (impl_InsRefs.calls ((rd_T110 ((rd_T52 l0 x38_3).f2) x51_4).f0) ((rd_T110 ((rd_T52 l0 x38_3).f2) x51_4).f1) ((rd_T110 ((rd_T52 l0 x38_3).f2) x51_4).f2) true _ A33.out).mono ?_); rintro e w75 ⟨rfl, hb⟩; refine ⟨_, rfl, ?_⟩; have n0_ := Aside0.mk (Kd.R_below (by (with_reducible repeat (first | apply Kd.R_alloc | apply Kd.R_drewN | apply Kd.R_drew)); exact (Kd.R_mono (Kd.R_far (p := ⟨gb997, 2, none⟩) (Kd.R_far (p := ⟨gb997, 1, none⟩) (Kd.R_far (p := ⟨gb997, 0, none⟩) (Kd.R_types HO_3.out BK997.out (by decide)) (fun _ hk => hk.2) (.int .i64 ((rd_T110 ((rd_T52 l0 x38_3).f2) x51_4).f0))) (fun _ hk => hk.2) (.int .i64 ((rd_T110 ((rd_T52 l0 x38_3).f2) x51_4).f1))) (fun _ hk => hk.2) (.string ((rd_T110 ((rd_T52 l0 x38_3).f2) x51_4).f2))) (fun _ h_ => h_.1))) hb); have n1_ := Aside0.mk (blk_below (g := gb994) (o := .cells #[.string ((rd_T52 l0 x38_3).f0), .bool ((rd_T52 l0 x38_3).f1), .slice (some ad996) ((rd_T52 l0 x38_3).f2).length c993_2] 52 (0, 0)) (by (with_reducible repeat (first | refine blk_drewN ?_ _ | refine blk_drew ?_ | refine blk_alloc ?_ _)); refine blk_far ?_ NB994_997.out _; (with_reducible repeat (first | refine blk_drewN ?_ _ | refine blk_drew ?_ | refine blk_alloc ?_ _)); refine blk_far ?_ NB994_997.out _; (with_reducible repeat (first | refine blk_drewN ?_ _ | refine blk_drew ?_ | refine blk_alloc ?_ _)); refine blk_far ?_ NB994_997.out _; (with_reducible repeat (first | refine blk_drewN ?_ _ | refine blk_drew ?_ | refine blk_alloc ?_ _)); exact BK994.out) hb); have n2_ := Aside0.mk (blk_below (g := gb997) (o := .cells #[.int .i64 ((rd_T110 ((rd_T52 l0 x38_3).f2) x51_4).f0), .int .i64 ((rd_T110 ((rd_T52 l0 x38_3).f2) x51_4).f1), .string ((rd_T110 ((rd_T52 l0 x38_3).f2) x51_4).f2)] 110 (0, 0)) (by (with_reducible repeat (first | refine blk_drewN ?_ _ | refine blk_drew ?_ | refine blk_alloc ?_ _)); refine blk_put (cs := #[.int .i64 ((rd_T110 ((rd_T52 l0 x38_3).f2) x51_4).f0), .int .i64 ((rd_T110 ((rd_T52 l0 x38_3).f2) x51_4).f1), .string (⟨#[]⟩ : ByteArray)]) ?_ 2 _ rfl; (with_reducible repeat (first | refine blk_drewN ?_ _ | refine blk_drew ?_ | refine blk_alloc ?_ _)); refine blk_put (cs := #[.int .i64 ((rd_T110 ((rd_T52 l0 x38_3).f2) x51_4).f0), .int .i64 0, .string (⟨#[]⟩ : ByteArray)]) ?_ 1 _ rfl; (with_reducible repeat (first | refine blk_drewN ?_ _ | refine blk_drew ?_ | refine blk_alloc ?_ _)); refine blk_put (cs := #[.int .i64 0, .int .i64 0, .string (⟨#[]⟩ : ByteArray)]) ?_ 0 _ rfl; (with_reducible repeat (first | refine blk_drewN ?_ _ | refine blk_drew ?_ | refine blk_alloc ?_ _)); exact BK997.out) hb); have n3_ := Aside0.mk (below_step (by repeat (first | (with_reducible first | exact HB.out | apply below_alloc | apply pw_below_drewN | apply below_drew1 | refine below_set ?_ GE994.out | refine below_set ?_ GE997.out) | exact HB.out)) hb); clear HO_3 BK994 BK997 HB; have HO_3 := n0_; have BK994 := n1_; have BK997 := n2_; have HB := n3_; clear n0_ n1_ n2_ n3_; (try clear hb); (try clear hb2); (try clear hk); (try clear hi)))
                                   have n0_ := Aside0.mk (Kd.R_drew HO_3.out)
                                   have n1_ := Aside0.mk (blk_drew BK994.out)
                                   have n2_ := Aside0.mk (blk_drew BK997.out)
                                   have n3_ := Aside0.mk (below_drew1 HB.out)
                                   clear HO_3 BK994 BK997; clear HB
                                   have HO_3 := n0_
                                   have BK994 := n1_
                                   have BK997 := n2_
                                   have HB := n3_
                                   clear n0_ n1_ n2_ n3_
                                   have p1000 : 0 ≤ (x38_3 : Int) := of_decide_eq_true (by first | (with_reducible assumption) | assumption)
                                   have q1000 : x38_3 < (x3_4.length : Int) := of_decide_eq_true (by first | (with_reducible assumption) | assumption)
                                   obtain ⟨ad1000, e1000, hx1000_0⟩ := Kd.at_int (Kd.R_reads' HO_3.out).2.2 x38_3 p1000 q1000
                                   obtain rfl : (⟨go17, 0, none⟩ : Addr) = ad1000 := (by injection e1000)
                                   (first | simp only [add_plain] at hx1000_0 | simp only [add_at] at hx1000_0 | simp only [Addr.add, Nat.zero_add] at hx1000_0 | skip)
                                   replace p1000 := eq_true p1000; replace q1000 := eq_true q1000
                                   refine start_ (n := 10) (S := fun w' => w'.cell? ⟨gb997, 0, none⟩ = some (.int .i64 ((rd_T110 ((rd_T52 l0 x38_3).f2) x51_4).f0)) ∧ w'.cell? ⟨gb997, 1, none⟩ = some (.int .i64 ((rd_T110 ((rd_T52 l0 x38_3).f2) x51_4).f1)) ∧ w'.cell? ⟨gb997, 2, none⟩ = some (.string ((rd_T110 ((rd_T52 l0 x38_3).f2) x51_4).f2)) ∧ w'.cell? ⟨go17, (x38_3).toNat, none⟩ = some (.int .i64 (rd x3_4 x38_3))) (ds := []) #[false, false, false, false, false, false, false, false, false, false] (by kernel_rfl) rfl rfl ⟨(blk_cell BK997.out 0).trans rfl, (blk_cell BK997.out 1).trans rfl, (blk_cell BK997.out 2).trans rfl, hx1000_0⟩ (fun hHeld => ?_); refine with_tabW impl_GraphDeep.tab22 impl_GraphDeep.bits22 (fun HT_ HW_ => ?_)
                                   generalize w75.drew = w76 at HO_3 BK994 BK997 HB hx1000_0 hHeld ⊢
                                   refine pure_ (i := 0) (N := some 58) (v := ?_) (a' := ?_) #[true, false, false, false, false, false, false, false, false, false] rfl rfl (any_of HT_.out (by kernel_rfl)) (fun _ _ _ h => h) (Or.inl ⟨by rfl, ?_⟩) ?_ ?_
                                   rotate_left
                                   · intro w'
                                     go_simp
                                     with_reducible rfl
                                   rotate_left
                                   · simp only [Act.put, List.setIfInBounds_toArray, List.set_cons_zero, List.set_cons_succ, i64_w, i32_w]
                                     rfl
                                   refine pure_ (i := 1) (N := some 59) (v := ?_) (a' := ?_) #[true, true, false, false, false, false, false, false, false, false] rfl rfl (any_of HT_.out (by kernel_rfl)) (fun _ _ _ h => h) (Or.inl ⟨by rfl, ?_⟩) ?_ ?_
                                   rotate_left
                                   · intro w'
                                     go_simp
                                     with_reducible rfl
                                   rotate_left
                                   · simp only [Act.put, List.setIfInBounds_toArray, List.set_cons_zero, List.set_cons_succ, i64_w, i32_w]
                                     rfl
                                   refine pure_ (i := 4) (N := some 62) (v := ?_) (a' := ?_) #[true, true, false, false, true, false, false, false, false, false] rfl rfl (any_of HT_.out (by kernel_rfl)) (fun _ _ _ h => h) (Or.inl ⟨by rfl, ?_⟩) ?_ ?_
                                   rotate_left
                                   · intro w'
                                     go_simp
                                     with_reducible rfl
                                   rotate_left
                                   · simp only [Act.put, List.setIfInBounds_toArray, List.set_cons_zero, List.set_cons_succ, i64_w, i32_w]
                                     rfl
                                   refine pure_ (i := 5) (N := some 63) (v := ?_) (a' := ?_) #[true, true, false, false, true, true, false, false, false, false] rfl rfl (any_of HT_.out (by kernel_rfl)) (fun _ _ _ h => h) (Or.inl ⟨by rfl, ?_⟩) ?_ ?_
                                   rotate_left
                                   · intro w'
                                     go_simp
                                     with_reducible rfl
                                   rotate_left
                                   · simp only [Act.put, List.setIfInBounds_toArray, List.set_cons_zero, List.set_cons_succ, i64_w, i32_w]
                                     rfl
                                   refine pure_ (i := 6) (N := some 64) (v := ?_) (a' := ?_) #[true, true, false, false, true, true, true, false, false, false] rfl rfl (any_of HT_.out (by kernel_rfl)) (fun _ _ _ h => h) (Or.inl ⟨by rfl, ?_⟩) ?_ ?_
                                   rotate_left
                                   · intro w'
                                     go_simp
                                     with_reducible rfl
                                   rotate_left
                                   · simp only [Act.put, List.setIfInBounds_toArray, List.set_cons_zero, List.set_cons_succ, i64_w, i32_w]
                                     rfl
                                   refine take_ (i := 2) (N := some 60) (v := ?_) (a' := ?_) #[true, true, true, false, true, true, true, false, false, false] rfl rfl (take_ofW HT_.out HW_.out (by kernel_rfl)) (fun _ _ _ h => h) (Or.inl ⟨by rfl, ?_⟩) hHeld ?_ ?_
                                   rotate_left
                                   · rintro w' ⟨s0, s1, s2, s3⟩
                                     go_simp
                                     with_reducible rfl
                                   rotate_left
                                   · simp only [Act.put, List.setIfInBounds_toArray, List.set_cons_zero, List.set_cons_succ, i64_w, i32_w]
                                     rfl
                                   refine take_ (i := 7) (N := some 65) (v := ?_) (a' := ?_) #[true, true, true, false, true, true, true, true, false, false] rfl rfl (take_ofW HT_.out HW_.out (by kernel_rfl)) (fun _ _ _ h => h) (Or.inl ⟨by rfl, ?_⟩) hHeld ?_ ?_
                                   rotate_left
                                   · rintro w' ⟨s0, s1, s2, s3⟩
                                     go_simp
                                     with_reducible rfl
                                   rotate_left
                                   · simp only [Act.put, List.setIfInBounds_toArray, List.set_cons_zero, List.set_cons_succ, i64_w, i32_w]
                                     rfl
                                   refine one_ (i := 3) (N := some 61) #[true, true, true, true, true, true, true, true, false, false] rfl rfl (one_of HT_.out (by kernel_rfl)) (by decide) (fun K hK => ?_)
                                   refine goes_ Try.func82 (by kernel_rfl) rfl #[.slice (some ad993) l0.length c0, .string ((rd_T110 ((rd_T52 l0 x38_3).f2) x51_4).f2)] (by rfl) rfl rfl (by (try simp only [List.map_toArray, List.map_cons, List.map_nil]); first | done | rfl | (simp only [List.length_drop, List.length_take]; rfl)) ?_
                                   with_reducible refine (impl_find.calls _ _ l0 ((rd_T110 ((rd_T52 l0 x38_3).f2) x51_4).f2) t999 _ ?side1 ?side2 A35.out).mono ?_
                                   (case side1 => repeat (first | exact (Kd.C_below HR0.out HB.out) | (with_reducible refine Kd.C_alloc ?_ _) | (with_reducible refine Kd.C_drewN ?_ _) | (with_reducible refine Kd.C_drew ?_)))
                                   (case side2 => exact HC0.out)
                                   rintro e w77 ⟨rfl, hb⟩
                                   have HS3_ := (hb.cell (World.block_lt_of_cell? _ _ (hHeld.2.2.2))).trans (hHeld.2.2.2)
                                   refine ⟨_, rfl, ?_⟩
                                   have n0_ := Aside0.mk (Kd.R_below (by (with_reducible repeat (first | apply Kd.R_alloc | apply Kd.R_drewN | apply Kd.R_drew)); exact HO_3.out) hb)
                                   have n1_ := Aside0.mk (blk_below (g := gb994) (o := .cells #[.string ((rd_T52 l0 x38_3).f0), .bool ((rd_T52 l0 x38_3).f1), .slice (some ad996) ((rd_T52 l0 x38_3).f2).length c993_2] 52 (0, 0)) (by (with_reducible repeat (first | refine blk_drewN ?_ _ | refine blk_drew ?_ | refine blk_alloc ?_ _)); exact BK994.out) hb)
                                   have n2_ := Aside0.mk (blk_below (g := gb997) (o := .cells #[.int .i64 ((rd_T110 ((rd_T52 l0 x38_3).f2) x51_4).f0), .int .i64 ((rd_T110 ((rd_T52 l0 x38_3).f2) x51_4).f1), .string ((rd_T110 ((rd_T52 l0 x38_3).f2) x51_4).f2)] 110 (0, 0)) (by (with_reducible repeat (first | refine blk_drewN ?_ _ | refine blk_drew ?_ | refine blk_alloc ?_ _)); exact BK997.out) hb)
                                   have n3_ := Aside0.mk (below_step (by repeat (first | (with_reducible first | exact HB.out | apply below_alloc | apply pw_below_drewN | apply below_drew1 | refine below_set ?_ GE994.out | refine below_set ?_ GE997.out) | exact HB.out)) hb)
                                   clear HO_3 BK994 BK997; clear HB
                                   have HO_3 := n0_
                                   have BK994 := n1_
                                   have BK997 := n2_
                                   have HB := n3_
                                   clear n0_ n1_ n2_ n3_
                                   (try clear hb)
                                   (try clear hb2)
                                   (try clear hk)
                                   (try clear hi)
                                   refine hK.out _ _ ⟨(blk_cell BK997.out 0).trans rfl, (blk_cell BK997.out 1).trans rfl, (blk_cell BK997.out 2).trans rfl, HS3_⟩ (fun hHeld => ?_)
                                   clear hK K
                                   refine norm_ (a' := ?_) ?_ ?_
                                   rotate_left
                                   · show Act.put _ (some 61) _ = _
                                     simp only [Act.put, List.setIfInBounds_toArray, List.set_cons_zero, List.set_cons_succ, i64_w, i32_w]
                                     rfl
                                   refine pure_ (i := 8) (N := some 11) (v := ?_) (a' := ?_) #[true, true, true, true, true, true, true, true, true, false] rfl rfl (any_of HT_.out (by kernel_rfl)) (fun _ _ _ h => h) (Or.inl ⟨by rfl, ?_⟩) ?_ ?_
                                   rotate_left
                                   · intro w'
                                     go_simp
                                     with_reducible rfl
                                   rotate_left
                                   · simp only [Act.put, List.setIfInBounds_toArray, List.set_cons_zero, List.set_cons_succ, i64_w, i32_w]
                                     rfl
                                   refine pure_ (i := 9) (N := some 12) (v := ?_) (a' := ?_) #[true, true, true, true, true, true, true, true, true, true] rfl rfl (any_of HT_.out (by kernel_rfl)) (fun _ _ _ h => h) (Or.inl ⟨by rfl, ?_⟩) ?_ ?_
                                   rotate_left
                                   · intro w'
                                     go_simp
                                     with_reducible rfl
                                   rotate_left
                                   · simp only [Act.put, List.setIfInBounds_toArray, List.set_cons_zero, List.set_cons_succ, i64_w, i32_w]
                                     rfl
                                   refine done_ (done_of HT_.out (by kernel_rfl)) ?_
                                   have hcz78_0 : w77.cell? ⟨gb997, 0, none⟩ = some (.int .i64 ((rd_T110 ((rd_T52 l0 x38_3).f2) x51_4).f0)) := (blk_cell BK997.out 0).trans rfl
                                   have hcz78_1 : w77.cell? ⟨gb997, 1, none⟩ = some (.int .i64 ((rd_T110 ((rd_T52 l0 x38_3).f2) x51_4).f1)) := (blk_cell BK997.out 1).trans rfl
                                   have hcz78_2 : w77.cell? ⟨gb997, 2, none⟩ = some (.string ((rd_T110 ((rd_T52 l0 x38_3).f2) x51_4).f2)) := (blk_cell BK997.out 2).trans rfl
                                   have hfz78_0 := blk_frozen BK997.out 0
                                   have hfz78_1 := blk_frozen BK997.out 1
                                   have hfz78_2 := blk_frozen BK997.out 2
                                   have p1003 : 0 ≤ (t999 : Int) := of_decide_eq_true (by first | (with_reducible assumption) | assumption)
                                   have q1003 : t999 < (x3_4.length : Int) := of_decide_eq_true (by first | (with_reducible assumption) | assumption)
                                   obtain ⟨ad1003, e1003, hx1003_0⟩ := Kd.at_int (Kd.R_reads' HO_3.out).2.2 t999 p1003 q1003
                                   obtain rfl : (⟨go17, 0, none⟩ : Addr) = ad1003 := (by injection e1003)
                                   (first | simp only [add_plain] at hx1003_0 | simp only [add_at] at hx1003_0 | simp only [Addr.add, Nat.zero_add] at hx1003_0 | skip)
                                   replace p1003 := eq_true p1003; replace q1003 := eq_true q1003
                                   try go_wp2
                                   (try simp only [← hl3_4])
                                   go_roundg k4
                                   case measure => have := HK1.out; have := HK2.out; have := HK3.out; have := HK4.out; omega
                                   case rel => exact ⟨(x3_4), (x6_4), (wrap64 (x51_4 + 1)), (by first | rfl | (simp; done) | (simp [*]; done)), (by first | rfl | (simp; done) | (simp [*]; done)), H', ⟨by have := HK1.out; have := HK2.out; have := HK3.out; have := HK4.out; omega⟩, ⟨by (try simp only [hl3_1]); (try simp only [hl3_2]); (try simp only [hl3_3]); (try simp only [hl3_4]); (with_reducible repeat (first | apply Kd.R_alloc | apply Kd.R_drewN | apply Kd.R_drew)); exact HO_3.out⟩, ⟨by (try simp only [hl3_1]); (try simp only [hl3_2]); (try simp only [hl3_3]); (try simp only [hl3_4]); (with_reducible repeat (first | refine blk_drewN ?_ _ | refine blk_drew ?_ | refine blk_alloc ?_ _)); exact BK994.out⟩, ⟨by repeat (first | (with_reducible first | exact HB.out | apply below_alloc | apply pw_below_drewN | apply below_drew1 | refine below_set ?_ GE994.out | refine below_set ?_ GE997.out) | exact HB.out)⟩⟩
                                 rw [if_neg c60] at H
                                 exact absurd H (by simp)
                               rw [if_neg c59] at H
                               exact absurd H (by simp)
                             rw [if_neg c37] at H
                             exact absurd H (by simp)
                           rw [if_neg c36] at H
                           exact absurd H (by simp)
                         replace c34 := Bool.eq_false_iff.mpr c34
                         subst c34
                         have H1 : (impl_GraphDeep.l3 k4 l0 x3_4 x5_2 x6_4 x38_3 l0 (l0.length : Int) x38_3 ((rd_T52 l0 x38_3).f2) (((rd_T52 l0 x38_3).f2).length : Int) (wrap64 (x51_4 + 1))) = some r := by rw [if_neg (show ¬ (false = true) by decide)] at H; exact H
                         clear H
                         have H := H1
                         clear H1
                         have H' := Aside0.mk H
                         clear H
                         have p996 : 0 ≤ (x51_4 : Int) := of_decide_eq_true (by first | (with_reducible assumption) | assumption)
                         have q996 : x51_4 < (((rd_T52 l0 x38_3).f2).length : Int) := of_decide_eq_true (by first | (with_reducible assumption) | assumption)
                         obtain ⟨ad996, e996, hx996_0, hx996_1, hx996_2⟩ := at_T110 HR993_2.out x51_4 p996 q996
                         cases e996
                         replace hx996_0 := (HB.out.cell (World.block_lt_of_cell? w _ hx996_0)).trans hx996_0
                         replace hx996_1 := (HB.out.cell (World.block_lt_of_cell? w _ hx996_1)).trans hx996_1
                         replace hx996_2 := (HB.out.cell (World.block_lt_of_cell? w _ hx996_2)).trans hx996_2
                         replace p996 := eq_true p996; replace q996 := eq_true q996
                         go_wp2_with (first | ((with_reducible refine gate_dst (N := 10) rfl ?_); refine box_event ?hg (N := 10) ?hd (cs := #[.int .i64 0, .int .i64 0, .string (⟨#[]⟩ : ByteArray)]) (t := 110) ?hr ?_; (case hd => rfl); (case hg => rfl); (case hr => first | (go_simp; done) | (go_simp; rfl)); intro gb997 hg w79 hbox hb; have n0_ := Aside0.mk (Kd.R_below (by (with_reducible repeat (first | apply Kd.R_alloc | apply Kd.R_drewN | apply Kd.R_drew)); exact HO_3.out) hb); have n1_ := Aside0.mk (blk_below (g := gb994) (o := .cells #[.string ((rd_T52 l0 x38_3).f0), .bool ((rd_T52 l0 x38_3).f1), .slice (some ad996) ((rd_T52 l0 x38_3).f2).length c993_2] 52 (0, 0)) (by (with_reducible repeat (first | refine blk_drewN ?_ _ | refine blk_drew ?_ | refine blk_alloc ?_ _)); exact BK994.out) hb); have n2_ := Aside0.mk (below_step (by repeat (first | (with_reducible first | exact HB.out | apply below_alloc | apply pw_below_drewN | apply below_drew1 | refine below_set ?_ GE994.out) | exact HB.out)) hb); have n3_ := Aside0.mk (hbox); have n4_ := Aside0.mk ((by rw [hg]; exact (below_size (by repeat (first | (with_reducible first | exact HB.out | apply below_alloc | apply pw_below_drewN | apply below_drew1 | refine below_set ?_ GE994.out) | exact HB.out))) : w.heap.size ≤ gb997)); have n5_ := Aside0.mk ((by rw [hg]; exact (below_size (by repeat (first | (with_reducible first | exact HB.out | apply below_alloc | apply pw_below_drewN | apply below_drew1 | refine below_set ?_ GE994.out) | exact HB.out))) : w.heap.size ≤ gb997)); have n6_ := Aside0.mk ((by rw [hg]; exact Nat.ne_of_lt (blk_lt (g := gb994) (o := .cells #[.string ((rd_T52 l0 x38_3).f0), .bool ((rd_T52 l0 x38_3).f1), .slice (some ad996) ((rd_T52 l0 x38_3).f2).length c993_2] 52 (0, 0)) (by (with_reducible repeat (first | refine blk_drewN ?_ _ | refine blk_drew ?_ | refine blk_alloc ?_ _)); exact BK994.out)) : gb994 ≠ gb997)); have n7_ := Aside0.mk ((by rw [hg]; exact Nat.ne_of_gt (blk_lt (g := gb994) (o := .cells #[.string ((rd_T52 l0 x38_3).f0), .bool ((rd_T52 l0 x38_3).f1), .slice (some ad996) ((rd_T52 l0 x38_3).f2).length c993_2] 52 (0, 0)) (by (with_reducible repeat (first | refine blk_drewN ?_ _ | refine blk_drew ?_ | refine blk_alloc ?_ _)); exact BK994.out)) : gb997 ≠ gb994)); clear HO_3 BK994 HB; have HO_3 := n0_; have BK994 := n1_; have HB := n2_; have BK997 := n3_; have GW997 := n4_; have GE997 := n5_; have NB994_997 := n6_; have NB997_994 := n7_; clear n0_ n1_ n2_ n3_ n4_ n5_ n6_ n7_ hb hbox hg; have hnb80 := NB997_994.out; have hnc80 := NB994_997.out; have hcz81_0 : w79.cell? ⟨gb997, 0, none⟩ = some (.int .i64 0) := (blk_cell BK997.out 0).trans rfl; have hcz81_1 : w79.cell? ⟨gb997, 1, none⟩ = some (.int .i64 0) := (blk_cell BK997.out 1).trans rfl; have hcz81_2 : w79.cell? ⟨gb997, 2, none⟩ = some (.string (⟨#[]⟩ : ByteArray)) := (blk_cell BK997.out 2).trans rfl; have hfz81_0 := blk_frozen BK997.out 0; have hfz81_1 := blk_frozen BK997.out 1; have hfz81_2 := blk_frozen BK997.out 2) | ((with_reducible refine gate_callee (f := 92) rfl ?_); refine goesL_ (some 56) rfl rfl Try.func92 (by kernel_rfl) rfl #[.agg #[.int .i64 ((rd_T110 ((rd_T52 l0 x38_3).f2) x51_4).f0), .int .i64 ((rd_T110 ((rd_T52 l0 x38_3).f2) x51_4).f1), .string ((rd_T110 ((rd_T52 l0 x38_3).f2) x51_4).f2)]] rfl (by (try simp only [List.map_toArray, List.map_cons, List.map_nil]); first | done | rfl | (simp only [List.length_drop, List.length_take]; rfl)) ?_; (with_reducible refine (impl_InsRefs.calls ((rd_T110 ((rd_T52 l0 x38_3).f2) x51_4).f0) ((rd_T110 ((rd_T52 l0 x38_3).f2) x51_4).f1) ((rd_T110 ((rd_T52 l0 x38_3).f2) x51_4).f2) false _ A33.out).mono ?_); rintro e w82 ⟨rfl, hb⟩; refine ⟨_, rfl, ?_⟩; have n0_ := Aside0.mk (Kd.R_below (by (with_reducible repeat (first | apply Kd.R_alloc | apply Kd.R_drewN | apply Kd.R_drew)); exact (Kd.R_mono (Kd.R_far (p := ⟨gb997, 2, none⟩) (Kd.R_far (p := ⟨gb997, 1, none⟩) (Kd.R_far (p := ⟨gb997, 0, none⟩) (Kd.R_types HO_3.out BK997.out (by decide)) (fun _ hk => hk.2) (.int .i64 ((rd_T110 ((rd_T52 l0 x38_3).f2) x51_4).f0))) (fun _ hk => hk.2) (.int .i64 ((rd_T110 ((rd_T52 l0 x38_3).f2) x51_4).f1))) (fun _ hk => hk.2) (.string ((rd_T110 ((rd_T52 l0 x38_3).f2) x51_4).f2))) (fun _ h_ => h_.1))) hb); have n1_ := Aside0.mk (blk_below (g := gb994) (o := .cells #[.string ((rd_T52 l0 x38_3).f0), .bool ((rd_T52 l0 x38_3).f1), .slice (some ad996) ((rd_T52 l0 x38_3).f2).length c993_2] 52 (0, 0)) (by (with_reducible repeat (first | refine blk_drewN ?_ _ | refine blk_drew ?_ | refine blk_alloc ?_ _)); refine blk_far ?_ NB994_997.out _; (with_reducible repeat (first | refine blk_drewN ?_ _ | refine blk_drew ?_ | refine blk_alloc ?_ _)); refine blk_far ?_ NB994_997.out _; (with_reducible repeat (first | refine blk_drewN ?_ _ | refine blk_drew ?_ | refine blk_alloc ?_ _)); refine blk_far ?_ NB994_997.out _; (with_reducible repeat (first | refine blk_drewN ?_ _ | refine blk_drew ?_ | refine blk_alloc ?_ _)); exact BK994.out) hb); have n2_ := Aside0.mk (blk_below (g := gb997) (o := .cells #[.int .i64 ((rd_T110 ((rd_T52 l0 x38_3).f2) x51_4).f0), .int .i64 ((rd_T110 ((rd_T52 l0 x38_3).f2) x51_4).f1), .string ((rd_T110 ((rd_T52 l0 x38_3).f2) x51_4).f2)] 110 (0, 0)) (by (with_reducible repeat (first | refine blk_drewN ?_ _ | refine blk_drew ?_ | refine blk_alloc ?_ _)); refine blk_put (cs := #[.int .i64 ((rd_T110 ((rd_T52 l0 x38_3).f2) x51_4).f0), .int .i64 ((rd_T110 ((rd_T52 l0 x38_3).f2) x51_4).f1), .string (⟨#[]⟩ : ByteArray)]) ?_ 2 _ rfl; (with_reducible repeat (first | refine blk_drewN ?_ _ | refine blk_drew ?_ | refine blk_alloc ?_ _)); refine blk_put (cs := #[.int .i64 ((rd_T110 ((rd_T52 l0 x38_3).f2) x51_4).f0), .int .i64 0, .string (⟨#[]⟩ : ByteArray)]) ?_ 1 _ rfl; (with_reducible repeat (first | refine blk_drewN ?_ _ | refine blk_drew ?_ | refine blk_alloc ?_ _)); refine blk_put (cs := #[.int .i64 0, .int .i64 0, .string (⟨#[]⟩ : ByteArray)]) ?_ 0 _ rfl; (with_reducible repeat (first | refine blk_drewN ?_ _ | refine blk_drew ?_ | refine blk_alloc ?_ _)); exact BK997.out) hb); have n3_ := Aside0.mk (below_step (by repeat (first | (with_reducible first | exact HB.out | apply below_alloc | apply pw_below_drewN | apply below_drew1 | refine below_set ?_ GE994.out | refine below_set ?_ GE997.out) | exact HB.out)) hb); clear HO_3 BK994 BK997 HB; have HO_3 := n0_; have BK994 := n1_; have BK997 := n2_; have HB := n3_; clear n0_ n1_ n2_ n3_; (try clear hb); (try clear hb2); (try clear hk); (try clear hi)))
                         (try simp only [← hl3_4])
                         go_roundg k4
                         case measure => have := HK1.out; have := HK2.out; have := HK3.out; have := HK4.out; omega
                         case rel => exact ⟨(x3_4), (x6_4), (wrap64 (x51_4 + 1)), (by first | rfl | (simp; done) | (simp [*]; done)), (by first | rfl | (simp; done) | (simp [*]; done)), H', ⟨by have := HK1.out; have := HK2.out; have := HK3.out; have := HK4.out; omega⟩, ⟨by (try simp only [hl3_1]); (try simp only [hl3_2]); (try simp only [hl3_3]); (try simp only [hl3_4]); (with_reducible repeat (first | apply Kd.R_alloc | apply Kd.R_drewN | apply Kd.R_drew)); exact HO_3.out⟩, ⟨by (try simp only [hl3_1]); (try simp only [hl3_2]); (try simp only [hl3_3]); (try simp only [hl3_4]); (with_reducible repeat (first | refine blk_drewN ?_ _ | refine blk_drew ?_ | refine blk_alloc ?_ _)); exact BK994.out⟩, ⟨by repeat (first | (with_reducible first | exact HB.out | apply below_alloc | apply pw_below_drewN | apply below_drew1 | refine below_set ?_ GE994.out | refine below_set ?_ GE997.out) | exact HB.out)⟩⟩
                       rw [if_neg c32] at H
                       exact absurd H (by simp)
                     rw [if_neg c31] at H
                     exact absurd H (by simp)
                   rw [if_neg c30] at H
                   have c30b0 : decide (x51_4 < (((rd_T52 l0 x38_3).f2).length : Int)) = false := decide_eq_false c30
                   clear c30
                   have H' := Aside0.mk H
                   clear H
                   go_wp2
                   (try simp only [← hl3_3, ← hl3_4])
                   go_roundg k4
                   case measure => have := HK1.out; have := HK2.out; have := HK3.out; have := HK4.out; omega
                   case rel => exact ⟨(x3_4), (x6_4), (wrap64 (x38_3 + 1)), (by first | rfl | (simp; done) | (simp [*]; done)), (by first | rfl | (simp; done) | (simp [*]; done)), H', ⟨by have := HK1.out; have := HK2.out; have := HK3.out; have := HK4.out; omega⟩, ⟨by (try simp only [hl3_1]); (try simp only [hl3_2]); (try simp only [hl3_3]); (try simp only [hl3_4]); (with_reducible repeat (first | apply Kd.R_alloc | apply Kd.R_drewN | apply Kd.R_drew)); exact HO_3.out⟩, ⟨by repeat (first | (with_reducible first | exact HB.out | apply below_alloc | apply pw_below_drewN | apply below_drew1 | refine below_set ?_ GE994.out) | exact HB.out)⟩⟩
                 rw [if_neg c24] at H
                 exact absurd H (by simp)
               rw [if_neg c23] at H
               exact absurd H (by simp)
             rw [if_neg c22] at H
             exact absurd H (by simp)
           rw [if_neg c21] at H
           have c21b0 : decide (x38_3 < (l0.length : Int)) = false := decide_eq_false c21
           clear c21
           by_cases c83 : x6_3 = true
           · subst c83
             have H1 : (impl_GraphDeep.l1 k3 l0 x3_3 (wrap64 (x5_2 + 1))) = some r := by rw [if_pos rfl] at H; exact H
             clear H
             have H := H1
             clear H1
             have H' := Aside0.mk H
             clear H
             go_wp2
             (try simp only [← hl3_2, ← hl3_3])
             go_roundg k3
             case measure => have := HK1.out; have := HK2.out; have := HK3.out; omega
             case rel => exact ⟨(x3_3), (wrap64 (x5_2 + 1)), (by first | rfl | (simp; done) | (simp [*]; done)), H', ⟨by have := HK1.out; have := HK2.out; have := HK3.out; omega⟩, ⟨by (try simp only [hl3_1]); (try simp only [hl3_2]); (try simp only [hl3_3]); (with_reducible repeat (first | apply Kd.R_alloc | apply Kd.R_drewN | apply Kd.R_drew)); exact HO_3.out⟩, ⟨by repeat (first | (with_reducible first | exact HB.out | apply below_alloc | apply pw_below_drewN | apply below_drew1) | exact HB.out)⟩⟩
           replace c83 := Bool.eq_false_iff.mpr c83
           subst c83
           have H1 : ((slices_Max_sint_int.f x3_3).bind fun t1005 => (some t1005)) = some r := by rw [if_neg (show ¬ (false = true) by decide)] at H; exact H
           clear H
           have H := H1
           clear H1
           replace H := Option.bind_eq_some_iff.mp H
           obtain ⟨t1005, A840, H⟩ := H
           replace H : (some t1005) = some r := H
           have A84 := Aside0.mk A840; clear A840
           obtain rfl := Option.some.inj H
           go_wp2_with (first | ((with_reducible refine gate_callee (f := 93) rfl ?_); refine goesL_ (some 86) rfl rfl Try.func93 (by kernel_rfl) rfl #[.slice (some ⟨go17, 0, none⟩) x3_3.length co9] rfl (by (try simp only [List.map_toArray, List.map_cons, List.map_nil]); first | done | rfl | (simp only [List.length_drop, List.length_take]; rfl)) ?_; (with_reducible refine (slices_Max_sint_int.calls _ _ x3_3 t1005 _ ?side1 ?side2 A84.out).mono ?_); (case side1 => repeat (first | exact (Kd.R_reads' HO_3.out).2.2 | (with_reducible refine Kd.C_alloc ?_ _) | (with_reducible refine Kd.C_drewN ?_ _) | (with_reducible refine Kd.C_drew ?_))); (case side2 => exact (Kd.R_reads' HO_3.out).2.1); rintro e w' ⟨rfl, ⟨nd, rfl⟩⟩; refine ⟨_, rfl, ?_⟩))
           go_ret
           exact ⟨by first | rfl | (simp [errW_none, errW_some] <;> rfl) | (simp [*, errW_none, errW_some] <;> rfl), by repeat (first | (with_reducible first | exact HB.out | apply below_alloc | apply pw_below_drewN | apply below_drew1) | exact HB.out)⟩
         rw [if_neg c20] at H
         have c20b0 : decide (x5_2 ≤ (l0.length : Int)) = false := decide_eq_false c20
         clear c20
         obtain rfl := Option.some.inj H
         go_wp2
         go_ret
         exact ⟨by first | rfl | (simp [errW_none, errW_some] <;> rfl) | (simp [*, errW_none, errW_some] <;> rfl), by repeat (first | (with_reducible first | exact HB.out | apply below_alloc | apply pw_below_drewN | apply below_drew1) | exact HB.out)⟩
       rw [if_neg c16] at H
       exact absurd H (by simp)
     rw [if_neg c5] at H
     exact absurd H (by simp)
   rw [if_neg c4] at H
   exact absurd H (by simp)
 replace c3 := Bool.eq_false_iff.mpr c3
 subst c3
 have H1 : (some (-1)) = some r := by rw [if_neg (show ¬ (false = true) by decide)] at H; exact H
 clear H
 have H := H1
 clear H1
 obtain rfl := Option.some.inj H
 go_enter Try.func45, Try.ntmps45
 go_wp2_with (first | ((with_reducible refine gate_callee (f := 32) rfl ?_); refine goesL_ (some 14) rfl rfl Try.func32 (by kernel_rfl) rfl #[.slice A0 l0.length c0] rfl (by (try simp only [List.map_toArray, List.map_cons, List.map_nil]); first | done | rfl | (simp only [List.length_drop, List.length_take]; rfl)) ?_; (with_reducible refine (impl_KeepOk.calls k _ _ l0 false _ ?side1 ?side2 A2.out).mono ?_); (case side1 => repeat (first | exact HR0.out | (with_reducible refine Kd.C_alloc ?_ _) | (with_reducible refine Kd.C_drewN ?_ _) | (with_reducible refine Kd.C_drew ?_))); (case side2 => exact HC0.out); rintro e w85 ⟨rfl, hb⟩; refine ⟨_, rfl, ?_⟩; have n0_ := Aside0.mk (below_step (by repeat (first | (with_reducible first | exact HB.out | apply below_alloc | apply pw_below_drewN | apply below_drew1) | exact HB.out)) hb); clear HB; have HB := n0_; clear n0_; (try clear hb); (try clear hb2); (try clear hk); (try clear hi)))
 go_ret
 exact ⟨by first | rfl | (simp [errW_none, errW_some] <;> rfl) | (simp [*, errW_none, errW_some] <;> rfl), by repeat (first | (with_reducible first | exact HB.out | apply below_alloc | apply pw_below_drewN | apply below_drew1) | exact HB.out)⟩

end Go.Proofs.Ytppmalfpggkpdaa.P
