-- put together by squash.py
import Derived.Test.YtpckkkcaffhhnaaSqFnPickWants3
import Derived.Test.YtpckkkcaffhhnaaSqFnPickWants5
import Derived.Test.YtpckkkcaffhhnaaProg
import Derived.Ground.NamesProg
import Derived.Shelf.Lay
import Derived.Shelf.Slices.In.CompactS
import Derived.Shelf.Slices.In.SortAlone
import Derived.Shelf.Slices.In.SortNone
import Derived.Sort.OwnSorted
import Derived.Sort.EveryDepth
import Derived.Sort.Grow
import Derived.Lib.OwnBridge
import Derived.Lib.RowBridge
import Derived.Test.YtpckkkcaffhhnaaSqFnPickWants4
set_option linter.unusedVariables false
set_option linter.unusedSimpArgs false

namespace Go.Proofs.Ytpckkkcaffhhnaa.P
open Go.RowKit Go.Proofs.YtpckkkcaffhhnaaW.PrintWords Go.Proofs.YtpckkkcaffhhnaaW.PrintLast Go.Proofs.YtpckkkcaffhhnaaW.PrintMore
attribute [local go_sem] max2_int min2_int max_two min_two max_three min_three max_four min_four
def spec_UnitSame.l0 : Nat → List (S30) → List (S30) → Int → Option (Bool)
  | 0, _, _, _ => none
  | k + 1, x0, x1, x5 => if x5 < (x0.length : Int) then (if 0 ≤ x5 then (if x5 < (x1.length : Int) then ((spec_FunSame.f k ((rd_T30 x0 x5).f0) ((rd_T30 x0 x5).f1) ((rd_T30 x0 x5).f2) ((rd_T30 x1 x5).f0) ((rd_T30 x1 x5).f1) ((rd_T30 x1 x5).f2)).bind fun t955 => (if t955 = true then (spec_UnitSame.l0 k x0 x1 (wrap64 (x5 + 1))) else (some false))) else (none)) else (none)) else (some true)
def spec_UnitSame.f (k : Nat) (l0 : List (S30)) (l1 : List (S30)) : Option (Bool) := if (l0.length : Int) = (l1.length : Int) then (spec_UnitSame.l0 k l0 l1 0) else (some false)
def spec_UnitSame.T6 : Bool × List (List Nat × List Nat) := (true, [([], []), ([], []), ([0, 1], [0, 1]), ([2], [2]), ([], []), ([], []), ([4, 5], [4, 5]), ([6], [6]), ([3, 7], [3, 7]), ([8], [8])])
def spec_UnitSame.B6 : List Nat := [0, 0, 3, 7, 0, 0, 48, 112, 255, 511]
theorem spec_UnitSame.tab6 : rtab .any (opsOf Try.f94 6) = spec_UnitSame.T6 := by kernel_rfl
theorem spec_UnitSame.bits6 : waitsOk spec_UnitSame.T6.2 spec_UnitSame.B6 = true := by kernel_rfl
set_option maxHeartbeats 8000000 in
set_option maxRecDepth 100000 in
theorem spec_UnitSame.calls (k : Nat) (A0 : Option Addr) (c0 : Nat) (l0 : List (S30)) (A1 : Option Addr) (c1 : Nat) (l1 : List (S30)) (r : Bool) (w : World) (hr0 : Kd.C k30 w A0 l0.length l0) (hc0 : l0.length ≤ c0) (hr1 : Kd.C k30 w A1 l1.length l1) (hc1 : l1.length ≤ c1) (h : spec_UnitSame.f k l0 l1 = some r) :
    Calls Try.prog 94 #[.slice A0 l0.length c0, .slice A1 l1.length c1] w fun e w' => e = .returned (.bool r) ∧ Below w.heap.size w w' := by
 have hu30 := Try.underlying30
 have HR0 := aM hr0; have HC0 := aM hc0; clear hr0 hc0; have HR1 := aM hr1; have HC1 := aM hc1; clear hr1 hc1
 have HB := aM (Below.refl w.heap.size w)
 have H : (if (l0.length : Int) = (l1.length : Int) then (spec_UnitSame.l0 k l0 l1 0) else (some false)) = some r := h
 clear h
 by_cases c3 : (l0.length : Int) = (l1.length : Int)
 · rw [if_pos c3] at H
   have c3b0 : ((l0.length : Int) == (l1.length : Int)) = true := beq_iff_eq.mpr c3
   have c3b1 : ((l0.length : Int) != (l1.length : Int)) = false := bne_eq_false_iff_eq.mpr c3
   have c3b2 : (l0.length == l1.length) = true := by first | simpa using c3 | (simp at c3 ⊢; omega)
   clear c3
   have H' := aM H
   clear H
   go_enter Try.func94, Try.ntmps94
   go_wp2
   go_loopg [5] k (fun kq v5 w' => ∃ (x5_1 : Int), v5 = .int .i64 x5_1 ∧ Aside0 (spec_UnitSame.l0 kq l0 l1 x5_1 = some r) ∧ Aside0 (kq ≤ k) ∧ Aside0 (Below w.heap.size w w'))
   case atStart => exact ⟨(0), (by first | rfl | (simp; done) | (simp [*]; done)), H', ⟨Nat.le_refl _⟩, ⟨by repeat (with_reducible first | exact HB.out | apply bA | apply bN | apply bD)⟩⟩
   clear H'
   try clear c1; try clear p2; try clear c3; try clear c3b0; try clear c3b1; try clear c3b2
   obtain ⟨x5_1, rfl, HA, HK1, HB⟩ := hrel
   obtain _ | k1 := gk
   · exact absurd HA.out (by simp [spec_UnitSame.l0])
   have H := HA.out
   clear HA
   simp only [spec_UnitSame.l0] at H
   by_cases c4 : x5_1 < (l0.length : Int)
   · rw [if_pos c4] at H
     have c4b0 : decide (x5_1 < (l0.length : Int)) = true := decide_eq_true c4
     clear c4
     by_cases c5 : 0 ≤ x5_1
     · rw [if_pos c5] at H
       have c5b0 : decide (0 ≤ x5_1) = true := decide_eq_true c5
       clear c5
       by_cases c6 : x5_1 < (l1.length : Int)
       · rw [if_pos c6] at H
         have c6b0 : decide (x5_1 < (l1.length : Int)) = true := decide_eq_true c6
         clear c6
         replace H := Option.bind_eq_some_iff.mp H
         obtain ⟨t955, A70, H⟩ := H
         replace H : (if t955 = true then (spec_UnitSame.l0 k1 l0 l1 (wrap64 (x5_1 + 1))) else (some false)) = some r := H
         have A7 := aM A70; clear A70
         by_cases c8 : t955 = true
         · subst c8
           have H1 : (spec_UnitSame.l0 k1 l0 l1 (wrap64 (x5_1 + 1))) = some r := by rw [if_pos rfl] at H; exact H
           clear H
           have H := H1
           clear H1
           have H' := aM H
           clear H
           try go_wp2
           have n0_ := aM (below_drew1 HB.out)
           clear HB
           have HB := n0_
           clear n0_
           have p953 : 0 ≤ (x5_1 : Int) := oD (by first | with_reducible assumption | assumption)
           have q953 : x5_1 < (l0.length : Int) := oD (by first | with_reducible assumption | assumption)
           obtain ⟨ad953, A953_2, c953_2, e953, hx953_0, hx953_1, hx953_2, hl953_2, hi953_2⟩ := at_T30 HR0.out x5_1 p953 q953
           have hw953_2 := hx953_2
           have hw953_1 := hx953_1
           have hw953_0 := hx953_0
           cases e953
           replace hx953_0 := (HB.out.cell (World.block_lt_of_cell? w _ hx953_0)).trans hx953_0
           replace hx953_1 := (HB.out.cell (World.block_lt_of_cell? w _ hx953_1)).trans hx953_1
           replace hx953_2 := (HB.out.cell (World.block_lt_of_cell? w _ hx953_2)).trans hx953_2
           have HR953_2 := aM hi953_2; have HC953_2 := aM hl953_2; clear hi953_2 hl953_2; replace p953 := eq_true p953; replace q953 := eq_true q953
           have p954 : 0 ≤ (x5_1 : Int) := oD (by first | with_reducible assumption | assumption)
           have q954 : x5_1 < (l1.length : Int) := oD (by first | with_reducible assumption | assumption)
           obtain ⟨ad954, A954_2, c954_2, e954, hx954_0, hx954_1, hx954_2, hl954_2, hi954_2⟩ := at_T30 HR1.out x5_1 p954 q954
           have hw954_2 := hx954_2
           have hw954_1 := hx954_1
           have hw954_0 := hx954_0
           cases e954
           replace hx954_0 := (HB.out.cell (World.block_lt_of_cell? w _ hx954_0)).trans hx954_0
           replace hx954_1 := (HB.out.cell (World.block_lt_of_cell? w _ hx954_1)).trans hx954_1
           replace hx954_2 := (HB.out.cell (World.block_lt_of_cell? w _ hx954_2)).trans hx954_2
           have HR954_2 := aM hi954_2; have HC954_2 := aM hl954_2; clear hi954_2 hl954_2; replace p954 := eq_true p954; replace q954 := eq_true q954
           refine start_ (n := 10) (S := fun w' => w'.cell? (ad953.add ((x5_1).toNat * 3)) = some (.string ((rd_T30 l0 x5_1).f0)) ∧ w'.cell? ⟨(ad953.add ((x5_1).toNat * 3)).block, (ad953.add ((x5_1).toNat * 3)).off + 1, none⟩ = some (.bool ((rd_T30 l0 x5_1).f1)) ∧ w'.cell? ⟨(ad953.add ((x5_1).toNat * 3)).block, (ad953.add ((x5_1).toNat * 3)).off + 2, none⟩ = some (.slice A953_2 ((rd_T30 l0 x5_1).f2).length c953_2) ∧ w'.cell? (ad954.add ((x5_1).toNat * 3)) = some (.string ((rd_T30 l1 x5_1).f0)) ∧ w'.cell? ⟨(ad954.add ((x5_1).toNat * 3)).block, (ad954.add ((x5_1).toNat * 3)).off + 1, none⟩ = some (.bool ((rd_T30 l1 x5_1).f1)) ∧ w'.cell? ⟨(ad954.add ((x5_1).toNat * 3)).block, (ad954.add ((x5_1).toNat * 3)).off + 2, none⟩ = some (.slice A954_2 ((rd_T30 l1 x5_1).f2).length c954_2)) (ds := []) #[false, false, false, false, false, false, false, false, false, false] (by kernel_rfl) rfl rfl ⟨((HB.out.cell (World.block_lt_of_cell? w _ hw953_0)).trans hw953_0), ((HB.out.cell (World.block_lt_of_cell? w _ hw953_1)).trans hw953_1), ((HB.out.cell (World.block_lt_of_cell? w _ hw953_2)).trans hw953_2), ((HB.out.cell (World.block_lt_of_cell? w _ hw954_0)).trans hw954_0), ((HB.out.cell (World.block_lt_of_cell? w _ hw954_1)).trans hw954_1), ((HB.out.cell (World.block_lt_of_cell? w _ hw954_2)).trans hw954_2)⟩ (fun hHeld => ?_); refine with_tabW spec_UnitSame.tab6 spec_UnitSame.bits6 (fun HT_ HW_ => ?_)
           generalize wr.drew = w9 at HB HR953_2 HR954_2 hx953_0 hx953_1 hx953_2 hx954_0 hx954_1 hx954_2 hHeld ⊢
           refine pure_ (i := 0) (N := some 17) (v := ?_) (a' := ?_) #[true, false, false, false, false, false, false, false, false, false] rfl rfl (any_of HT_.out (by kernel_rfl)) (fun _ _ _ h => h) (Or.inl ⟨by rfl, ?_⟩) ?_ ?_
           rotate_left
           · intro w'
             go_simp
             with_reducible rfl
           rotate_left
           · simp only [Act.put, List.setIfInBounds_toArray, List.set_cons_zero, List.set_cons_succ, i64_w, i32_w]
             rfl
           refine pure_ (i := 1) (N := some 18) (v := ?_) (a' := ?_) #[true, true, false, false, false, false, false, false, false, false] rfl rfl (any_of HT_.out (by kernel_rfl)) (fun _ _ _ h => h) (Or.inl ⟨by rfl, ?_⟩) ?_ ?_
           rotate_left
           · intro w'
             go_simp
             with_reducible rfl
           rotate_left
           · simp only [Act.put, List.setIfInBounds_toArray, List.set_cons_zero, List.set_cons_succ, i64_w, i32_w]
             rfl
           refine pure_ (i := 2) (N := some 19) (v := ?_) (a' := ?_) #[true, true, true, false, false, false, false, false, false, false] rfl rfl (any_of HT_.out (by kernel_rfl)) (fun _ _ _ h => h) (Or.inl ⟨by rfl, ?_⟩) ?_ ?_
           rotate_left
           · intro w'
             go_simp
             with_reducible rfl
           rotate_left
           · simp only [Act.put, List.setIfInBounds_toArray, List.set_cons_zero, List.set_cons_succ, i64_w, i32_w]
             rfl
           refine pure_ (i := 4) (N := some 21) (v := ?_) (a' := ?_) #[true, true, true, false, true, false, false, false, false, false] rfl rfl (any_of HT_.out (by kernel_rfl)) (fun _ _ _ h => h) (Or.inl ⟨by rfl, ?_⟩) ?_ ?_
           rotate_left
           · intro w'
             go_simp
             with_reducible rfl
           rotate_left
           · simp only [Act.put, List.setIfInBounds_toArray, List.set_cons_zero, List.set_cons_succ, i64_w, i32_w]
             rfl
           refine pure_ (i := 5) (N := some 22) (v := ?_) (a' := ?_) #[true, true, true, false, true, true, false, false, false, false] rfl rfl (any_of HT_.out (by kernel_rfl)) (fun _ _ _ h => h) (Or.inl ⟨by rfl, ?_⟩) ?_ ?_
           rotate_left
           · intro w'
             go_simp
             with_reducible rfl
           rotate_left
           · simp only [Act.put, List.setIfInBounds_toArray, List.set_cons_zero, List.set_cons_succ, i64_w, i32_w]
             rfl
           refine pure_ (i := 6) (N := some 23) (v := ?_) (a' := ?_) #[true, true, true, false, true, true, true, false, false, false] rfl rfl (any_of HT_.out (by kernel_rfl)) (fun _ _ _ h => h) (Or.inl ⟨by rfl, ?_⟩) ?_ ?_
           rotate_left
           · intro w'
             go_simp
             with_reducible rfl
           rotate_left
           · simp only [Act.put, List.setIfInBounds_toArray, List.set_cons_zero, List.set_cons_succ, i64_w, i32_w]
             rfl
           refine take_ (i := 3) (N := some 20) (v := ?_) (a' := ?_) #[true, true, true, true, true, true, true, false, false, false] rfl rfl (take_ofW HT_.out HW_.out (by kernel_rfl)) (fun _ _ _ h => h) (Or.inl ⟨by rfl, ?_⟩) hHeld ?_ ?_
           rotate_left
           · rintro w' ⟨s0, s1, s2, s3, s4, s5⟩
             go_simp
             with_reducible rfl
           rotate_left
           · simp only [Act.put, List.setIfInBounds_toArray, List.set_cons_zero, List.set_cons_succ, i64_w, i32_w]
             rfl
           refine take_ (i := 7) (N := some 24) (v := ?_) (a' := ?_) #[true, true, true, true, true, true, true, true, false, false] rfl rfl (take_ofW HT_.out HW_.out (by kernel_rfl)) (fun _ _ _ h => h) (Or.inl ⟨by rfl, ?_⟩) hHeld ?_ ?_
           rotate_left
           · rintro w' ⟨s0, s1, s2, s3, s4, s5⟩
             go_simp
             with_reducible rfl
           rotate_left
           · simp only [Act.put, List.setIfInBounds_toArray, List.set_cons_zero, List.set_cons_succ, i64_w, i32_w]
             rfl
           refine one_ (i := 8) (N := some 25) #[true, true, true, true, true, true, true, true, true, false] rfl rfl (one_of HT_.out (by kernel_rfl)) (by decide) (fun K hK => ?_)
           refine goes_ Try.func27 (by kernel_rfl) rfl #[.agg #[.string ((rd_T30 l0 x5_1).f0), .bool ((rd_T30 l0 x5_1).f1), .slice A953_2 ((rd_T30 l0 x5_1).f2).length c953_2], .agg #[.string ((rd_T30 l1 x5_1).f0), .bool ((rd_T30 l1 x5_1).f1), .slice A954_2 ((rd_T30 l1 x5_1).f2).length c954_2]] (by rfl) rfl rfl (by (try simp only [List.map_toArray, List.map_cons, List.map_nil]); first | done | rfl) ?_
           with_reducible refine (spec_FunSame.calls k1 ((rd_T30 l0 x5_1).f0) ((rd_T30 l0 x5_1).f1) _ _ ((rd_T30 l0 x5_1).f2) ((rd_T30 l1 x5_1).f0) ((rd_T30 l1 x5_1).f1) _ _ ((rd_T30 l1 x5_1).f2) true _ ?side1 ?side2 ?side3 ?side4 A7.out).mono ?_
           (case side1 => repeat (first | exact (Kd.C_below HR953_2.out HB.out) | (with_reducible first | refine Ca ?_ _ | refine Cn ?_ _ | refine Cd ?_)))
           (case side2 => exact HC953_2.out)
           (case side3 => repeat (first | exact (Kd.C_below HR954_2.out HB.out) | (with_reducible first | refine Ca ?_ _ | refine Cn ?_ _ | refine Cd ?_)))
           (case side4 => exact HC954_2.out)
           rintro e w10 ⟨rfl, hb⟩
           refine ⟨_, rfl, ?_⟩
           have n0_ := aM (below_step (by repeat (with_reducible first | exact HB.out | apply bA | apply bN | apply bD)) hb)
           clear HB
           have HB := n0_
           clear n0_
           refine hK.out _ _ ⟨((HB.out.cell (World.block_lt_of_cell? w _ hw953_0)).trans hw953_0), ((HB.out.cell (World.block_lt_of_cell? w _ hw953_1)).trans hw953_1), ((HB.out.cell (World.block_lt_of_cell? w _ hw953_2)).trans hw953_2), ((HB.out.cell (World.block_lt_of_cell? w _ hw954_0)).trans hw954_0), ((HB.out.cell (World.block_lt_of_cell? w _ hw954_1)).trans hw954_1), ((HB.out.cell (World.block_lt_of_cell? w _ hw954_2)).trans hw954_2)⟩ (fun hHeld => ?_)
           clear hK K
           refine norm_ (a' := ?_) ?_ ?_
           rotate_left
           · show Act.put _ (some 25) _ = _
             simp only [Act.put, List.setIfInBounds_toArray, List.set_cons_zero, List.set_cons_succ, i64_w, i32_w]
             rfl
           refine pure_ (i := 9) (N := some 26) (v := ?_) (a' := ?_) #[true, true, true, true, true, true, true, true, true, true] rfl rfl (any_of HT_.out (by kernel_rfl)) (fun _ _ _ h => h) (Or.inl ⟨by rfl, ?_⟩) ?_ ?_
           rotate_left
           · intro w'
             go_simp
             with_reducible rfl
           rotate_left
           · simp only [Act.put, List.setIfInBounds_toArray, List.set_cons_zero, List.set_cons_succ, i64_w, i32_w]
             rfl
           refine done_ (done_of HT_.out (by kernel_rfl)) ?_
           try go_wp2
           go_roundg k1
           case measure => have := HK1.out; omega
           case rel => exact ⟨(wrap64 (x5_1 + 1)), (by first | rfl | (simp; done) | (simp [*]; done)), H', ⟨by have := HK1.out; omega⟩, ⟨by repeat (with_reducible first | exact HB.out | apply bA | apply bN | apply bD)⟩⟩
         replace c8 := Bool.eq_false_iff.mpr c8
         subst c8
         have H1 : (some false) = some r := by rw [if_neg (show ¬ (false = true) by decide)] at H; exact H
         clear H
         have H := H1
         clear H1
         obtain rfl := Option.some.inj H
         try go_wp2
         have n0_ := aM (below_drew1 HB.out)
         clear HB
         have HB := n0_
         clear n0_
         have p953 : 0 ≤ (x5_1 : Int) := oD (by first | with_reducible assumption | assumption)
         have q953 : x5_1 < (l0.length : Int) := oD (by first | with_reducible assumption | assumption)
         obtain ⟨ad953, A953_2, c953_2, e953, hx953_0, hx953_1, hx953_2, hl953_2, hi953_2⟩ := at_T30 HR0.out x5_1 p953 q953
         have hw953_2 := hx953_2
         have hw953_1 := hx953_1
         have hw953_0 := hx953_0
         cases e953
         replace hx953_0 := (HB.out.cell (World.block_lt_of_cell? w _ hx953_0)).trans hx953_0
         replace hx953_1 := (HB.out.cell (World.block_lt_of_cell? w _ hx953_1)).trans hx953_1
         replace hx953_2 := (HB.out.cell (World.block_lt_of_cell? w _ hx953_2)).trans hx953_2
         have HR953_2 := aM hi953_2; have HC953_2 := aM hl953_2; clear hi953_2 hl953_2; replace p953 := eq_true p953; replace q953 := eq_true q953
         have p954 : 0 ≤ (x5_1 : Int) := oD (by first | with_reducible assumption | assumption)
         have q954 : x5_1 < (l1.length : Int) := oD (by first | with_reducible assumption | assumption)
         obtain ⟨ad954, A954_2, c954_2, e954, hx954_0, hx954_1, hx954_2, hl954_2, hi954_2⟩ := at_T30 HR1.out x5_1 p954 q954
         have hw954_2 := hx954_2
         have hw954_1 := hx954_1
         have hw954_0 := hx954_0
         cases e954
         replace hx954_0 := (HB.out.cell (World.block_lt_of_cell? w _ hx954_0)).trans hx954_0
         replace hx954_1 := (HB.out.cell (World.block_lt_of_cell? w _ hx954_1)).trans hx954_1
         replace hx954_2 := (HB.out.cell (World.block_lt_of_cell? w _ hx954_2)).trans hx954_2
         have HR954_2 := aM hi954_2; have HC954_2 := aM hl954_2; clear hi954_2 hl954_2; replace p954 := eq_true p954; replace q954 := eq_true q954
         refine start_ (n := 10) (S := fun w' => w'.cell? (ad953.add ((x5_1).toNat * 3)) = some (.string ((rd_T30 l0 x5_1).f0)) ∧ w'.cell? ⟨(ad953.add ((x5_1).toNat * 3)).block, (ad953.add ((x5_1).toNat * 3)).off + 1, none⟩ = some (.bool ((rd_T30 l0 x5_1).f1)) ∧ w'.cell? ⟨(ad953.add ((x5_1).toNat * 3)).block, (ad953.add ((x5_1).toNat * 3)).off + 2, none⟩ = some (.slice A953_2 ((rd_T30 l0 x5_1).f2).length c953_2) ∧ w'.cell? (ad954.add ((x5_1).toNat * 3)) = some (.string ((rd_T30 l1 x5_1).f0)) ∧ w'.cell? ⟨(ad954.add ((x5_1).toNat * 3)).block, (ad954.add ((x5_1).toNat * 3)).off + 1, none⟩ = some (.bool ((rd_T30 l1 x5_1).f1)) ∧ w'.cell? ⟨(ad954.add ((x5_1).toNat * 3)).block, (ad954.add ((x5_1).toNat * 3)).off + 2, none⟩ = some (.slice A954_2 ((rd_T30 l1 x5_1).f2).length c954_2)) (ds := []) #[false, false, false, false, false, false, false, false, false, false] (by kernel_rfl) rfl rfl ⟨((HB.out.cell (World.block_lt_of_cell? w _ hw953_0)).trans hw953_0), ((HB.out.cell (World.block_lt_of_cell? w _ hw953_1)).trans hw953_1), ((HB.out.cell (World.block_lt_of_cell? w _ hw953_2)).trans hw953_2), ((HB.out.cell (World.block_lt_of_cell? w _ hw954_0)).trans hw954_0), ((HB.out.cell (World.block_lt_of_cell? w _ hw954_1)).trans hw954_1), ((HB.out.cell (World.block_lt_of_cell? w _ hw954_2)).trans hw954_2)⟩ (fun hHeld => ?_); refine with_tabW spec_UnitSame.tab6 spec_UnitSame.bits6 (fun HT_ HW_ => ?_)
         generalize wr.drew = w11 at HB HR953_2 HR954_2 hx953_0 hx953_1 hx953_2 hx954_0 hx954_1 hx954_2 hHeld ⊢
         refine pure_ (i := 0) (N := some 17) (v := ?_) (a' := ?_) #[true, false, false, false, false, false, false, false, false, false] rfl rfl (any_of HT_.out (by kernel_rfl)) (fun _ _ _ h => h) (Or.inl ⟨by rfl, ?_⟩) ?_ ?_
         rotate_left
         · intro w'
           go_simp
           with_reducible rfl
         rotate_left
         · simp only [Act.put, List.setIfInBounds_toArray, List.set_cons_zero, List.set_cons_succ, i64_w, i32_w]
           rfl
         refine pure_ (i := 1) (N := some 18) (v := ?_) (a' := ?_) #[true, true, false, false, false, false, false, false, false, false] rfl rfl (any_of HT_.out (by kernel_rfl)) (fun _ _ _ h => h) (Or.inl ⟨by rfl, ?_⟩) ?_ ?_
         rotate_left
         · intro w'
           go_simp
           with_reducible rfl
         rotate_left
         · simp only [Act.put, List.setIfInBounds_toArray, List.set_cons_zero, List.set_cons_succ, i64_w, i32_w]
           rfl
         refine pure_ (i := 2) (N := some 19) (v := ?_) (a' := ?_) #[true, true, true, false, false, false, false, false, false, false] rfl rfl (any_of HT_.out (by kernel_rfl)) (fun _ _ _ h => h) (Or.inl ⟨by rfl, ?_⟩) ?_ ?_
         rotate_left
         · intro w'
           go_simp
           with_reducible rfl
         rotate_left
         · simp only [Act.put, List.setIfInBounds_toArray, List.set_cons_zero, List.set_cons_succ, i64_w, i32_w]
           rfl
         refine pure_ (i := 4) (N := some 21) (v := ?_) (a' := ?_) #[true, true, true, false, true, false, false, false, false, false] rfl rfl (any_of HT_.out (by kernel_rfl)) (fun _ _ _ h => h) (Or.inl ⟨by rfl, ?_⟩) ?_ ?_
         rotate_left
         · intro w'
           go_simp
           with_reducible rfl
         rotate_left
         · simp only [Act.put, List.setIfInBounds_toArray, List.set_cons_zero, List.set_cons_succ, i64_w, i32_w]
           rfl
         refine pure_ (i := 5) (N := some 22) (v := ?_) (a' := ?_) #[true, true, true, false, true, true, false, false, false, false] rfl rfl (any_of HT_.out (by kernel_rfl)) (fun _ _ _ h => h) (Or.inl ⟨by rfl, ?_⟩) ?_ ?_
         rotate_left
         · intro w'
           go_simp
           with_reducible rfl
         rotate_left
         · simp only [Act.put, List.setIfInBounds_toArray, List.set_cons_zero, List.set_cons_succ, i64_w, i32_w]
           rfl
         refine pure_ (i := 6) (N := some 23) (v := ?_) (a' := ?_) #[true, true, true, false, true, true, true, false, false, false] rfl rfl (any_of HT_.out (by kernel_rfl)) (fun _ _ _ h => h) (Or.inl ⟨by rfl, ?_⟩) ?_ ?_
         rotate_left
         · intro w'
           go_simp
           with_reducible rfl
         rotate_left
         · simp only [Act.put, List.setIfInBounds_toArray, List.set_cons_zero, List.set_cons_succ, i64_w, i32_w]
           rfl
         refine take_ (i := 3) (N := some 20) (v := ?_) (a' := ?_) #[true, true, true, true, true, true, true, false, false, false] rfl rfl (take_ofW HT_.out HW_.out (by kernel_rfl)) (fun _ _ _ h => h) (Or.inl ⟨by rfl, ?_⟩) hHeld ?_ ?_
         rotate_left
         · rintro w' ⟨s0, s1, s2, s3, s4, s5⟩
           go_simp
           with_reducible rfl
         rotate_left
         · simp only [Act.put, List.setIfInBounds_toArray, List.set_cons_zero, List.set_cons_succ, i64_w, i32_w]
           rfl
         refine take_ (i := 7) (N := some 24) (v := ?_) (a' := ?_) #[true, true, true, true, true, true, true, true, false, false] rfl rfl (take_ofW HT_.out HW_.out (by kernel_rfl)) (fun _ _ _ h => h) (Or.inl ⟨by rfl, ?_⟩) hHeld ?_ ?_
         rotate_left
         · rintro w' ⟨s0, s1, s2, s3, s4, s5⟩
           go_simp
           with_reducible rfl
         rotate_left
         · simp only [Act.put, List.setIfInBounds_toArray, List.set_cons_zero, List.set_cons_succ, i64_w, i32_w]
           rfl
         refine one_ (i := 8) (N := some 25) #[true, true, true, true, true, true, true, true, true, false] rfl rfl (one_of HT_.out (by kernel_rfl)) (by decide) (fun K hK => ?_)
         refine goes_ Try.func27 (by kernel_rfl) rfl #[.agg #[.string ((rd_T30 l0 x5_1).f0), .bool ((rd_T30 l0 x5_1).f1), .slice A953_2 ((rd_T30 l0 x5_1).f2).length c953_2], .agg #[.string ((rd_T30 l1 x5_1).f0), .bool ((rd_T30 l1 x5_1).f1), .slice A954_2 ((rd_T30 l1 x5_1).f2).length c954_2]] (by rfl) rfl rfl (by (try simp only [List.map_toArray, List.map_cons, List.map_nil]); first | done | rfl) ?_
         with_reducible refine (spec_FunSame.calls k1 ((rd_T30 l0 x5_1).f0) ((rd_T30 l0 x5_1).f1) _ _ ((rd_T30 l0 x5_1).f2) ((rd_T30 l1 x5_1).f0) ((rd_T30 l1 x5_1).f1) _ _ ((rd_T30 l1 x5_1).f2) false _ ?side1 ?side2 ?side3 ?side4 A7.out).mono ?_
         (case side1 => repeat (first | exact (Kd.C_below HR953_2.out HB.out) | (with_reducible first | refine Ca ?_ _ | refine Cn ?_ _ | refine Cd ?_)))
         (case side2 => exact HC953_2.out)
         (case side3 => repeat (first | exact (Kd.C_below HR954_2.out HB.out) | (with_reducible first | refine Ca ?_ _ | refine Cn ?_ _ | refine Cd ?_)))
         (case side4 => exact HC954_2.out)
         rintro e w12 ⟨rfl, hb⟩
         refine ⟨_, rfl, ?_⟩
         have n0_ := aM (below_step (by repeat (with_reducible first | exact HB.out | apply bA | apply bN | apply bD)) hb)
         clear HB
         have HB := n0_
         clear n0_
         refine hK.out _ _ ⟨((HB.out.cell (World.block_lt_of_cell? w _ hw953_0)).trans hw953_0), ((HB.out.cell (World.block_lt_of_cell? w _ hw953_1)).trans hw953_1), ((HB.out.cell (World.block_lt_of_cell? w _ hw953_2)).trans hw953_2), ((HB.out.cell (World.block_lt_of_cell? w _ hw954_0)).trans hw954_0), ((HB.out.cell (World.block_lt_of_cell? w _ hw954_1)).trans hw954_1), ((HB.out.cell (World.block_lt_of_cell? w _ hw954_2)).trans hw954_2)⟩ (fun hHeld => ?_)
         clear hK K
         refine norm_ (a' := ?_) ?_ ?_
         rotate_left
         · show Act.put _ (some 25) _ = _
           simp only [Act.put, List.setIfInBounds_toArray, List.set_cons_zero, List.set_cons_succ, i64_w, i32_w]
           rfl
         refine pure_ (i := 9) (N := some 26) (v := ?_) (a' := ?_) #[true, true, true, true, true, true, true, true, true, true] rfl rfl (any_of HT_.out (by kernel_rfl)) (fun _ _ _ h => h) (Or.inl ⟨by rfl, ?_⟩) ?_ ?_
         rotate_left
         · intro w'
           go_simp
           with_reducible rfl
         rotate_left
         · simp only [Act.put, List.setIfInBounds_toArray, List.set_cons_zero, List.set_cons_succ, i64_w, i32_w]
           rfl
         refine done_ (done_of HT_.out (by kernel_rfl)) ?_
         try go_wp2
         go_ret
         exact ⟨by first | rfl | (simp [*, errW_none, errW_some] <;> rfl), by repeat (with_reducible first | exact HB.out | apply bA | apply bN | apply bD)⟩
       rw [if_neg c6] at H
       exact absurd H (by simp)
     rw [if_neg c5] at H
     exact absurd H (by simp)
   rw [if_neg c4] at H
   have c4b0 : decide (x5_1 < (l0.length : Int)) = false := decide_eq_false c4
   clear c4
   obtain rfl := Option.some.inj H
   go_wp2
   go_ret
   exact ⟨by first | rfl | (simp [*, errW_none, errW_some] <;> rfl), by repeat (with_reducible first | exact HB.out | apply bA | apply bN | apply bD)⟩
 rw [if_neg c3] at H
 have c3b0 : ((l0.length : Int) == (l1.length : Int)) = false := beq_eq_false_iff_ne.mpr c3
 have c3b1 : ((l0.length : Int) != (l1.length : Int)) = true := bne_iff_ne.mpr c3
 have c3b2 : (l0.length == l1.length) = false := by first | simpa using c3 | (simp at c3 ⊢; omega)
 obtain rfl := Option.some.inj H
 go_enter Try.func94, Try.ntmps94
 go_wp2
 go_ret
 exact ⟨by first | rfl | (simp [*, errW_none, errW_some] <;> rfl), by repeat (with_reducible first | exact HB.out | apply bA | apply bN | apply bD)⟩
def spec_PickSame.l0 : Nat → List (List (S30)) → List (List (S30)) → Int → Option (Bool)
  | 0, _, _, _ => none
  | k + 1, x0, x1, x5 => if x5 < (x0.length : Int) then (if 0 ≤ x5 then (if x5 < (x1.length : Int) then ((spec_UnitSame.f k (rd_L13 x0 x5) (rd_L13 x1 x5)).bind fun t958 => (if t958 = true then (spec_PickSame.l0 k x0 x1 (wrap64 (x5 + 1))) else (some false))) else (none)) else (none)) else (some true)
def spec_PickSame.f (k : Nat) (l0 : List (List (S30))) (l1 : List (List (S30))) : Option (Bool) := if (l0.length : Int) = (l1.length : Int) then (spec_PickSame.l0 k l0 l1 0) else (some false)
def spec_PickSame.T6 : Bool × List (List Nat × List Nat) := (true, [([], []), ([], []), ([0, 1], [0, 1]), ([2], [2]), ([], []), ([], []), ([4, 5], [4, 5]), ([6], [6]), ([3, 7], [3, 7]), ([8], [8])])
def spec_PickSame.B6 : List Nat := [0, 0, 3, 7, 0, 0, 48, 112, 255, 511]
theorem spec_PickSame.tab6 : rtab .any (opsOf Try.f44 6) = spec_PickSame.T6 := by kernel_rfl
theorem spec_PickSame.bits6 : waitsOk spec_PickSame.T6.2 spec_PickSame.B6 = true := by kernel_rfl
set_option maxHeartbeats 8000000 in
set_option maxRecDepth 100000 in
theorem spec_PickSame.calls (k : Nat) (A0 : Option Addr) (c0 : Nat) (l0 : List (List (S30))) (A1 : Option Addr) (c1 : Nat) (l1 : List (List (S30))) (r : Bool) (w : World) (hr0 : Kd.C (Kd.slice 30 k30) w A0 l0.length l0) (hc0 : l0.length ≤ c0) (hr1 : Kd.C (Kd.slice 30 k30) w A1 l1.length l1) (hc1 : l1.length ≤ c1) (h : spec_PickSame.f k l0 l1 = some r) :
    Calls Try.prog 44 #[.slice A0 l0.length c0, .slice A1 l1.length c1] w fun e w' => e = .returned (.bool r) ∧ Below w.heap.size w w' := by
 have HR0 := aM hr0; have HC0 := aM hc0; clear hr0 hc0; have HR1 := aM hr1; have HC1 := aM hc1; clear hr1 hc1
 have HB := aM (Below.refl w.heap.size w)
 have H : (if (l0.length : Int) = (l1.length : Int) then (spec_PickSame.l0 k l0 l1 0) else (some false)) = some r := h
 clear h
 by_cases c3 : (l0.length : Int) = (l1.length : Int)
 · rw [if_pos c3] at H
   have c3b0 : ((l0.length : Int) == (l1.length : Int)) = true := beq_iff_eq.mpr c3
   have c3b1 : ((l0.length : Int) != (l1.length : Int)) = false := bne_eq_false_iff_eq.mpr c3
   have c3b2 : (l0.length == l1.length) = true := by first | simpa using c3 | (simp at c3 ⊢; omega)
   clear c3
   have H' := aM H
   clear H
   go_enter Try.func44, Try.ntmps44
   go_wp2
   go_loopg [5] k (fun kq v5 w' => ∃ (x5_1 : Int), v5 = .int .i64 x5_1 ∧ Aside0 (spec_PickSame.l0 kq l0 l1 x5_1 = some r) ∧ Aside0 (kq ≤ k) ∧ Aside0 (Below w.heap.size w w'))
   case atStart => exact ⟨(0), (by first | rfl | (simp; done) | (simp [*]; done)), H', ⟨Nat.le_refl _⟩, ⟨by repeat (with_reducible first | exact HB.out | apply bA | apply bN | apply bD)⟩⟩
   clear H'
   try clear c1; try clear p2; try clear c3; try clear c3b0; try clear c3b1; try clear c3b2
   obtain ⟨x5_1, rfl, HA, HK1, HB⟩ := hrel
   obtain _ | k1 := gk
   · exact absurd HA.out (by simp [spec_PickSame.l0])
   have H := HA.out
   clear HA
   simp only [spec_PickSame.l0] at H
   by_cases c4 : x5_1 < (l0.length : Int)
   · rw [if_pos c4] at H
     have c4b0 : decide (x5_1 < (l0.length : Int)) = true := decide_eq_true c4
     clear c4
     by_cases c5 : 0 ≤ x5_1
     · rw [if_pos c5] at H
       have c5b0 : decide (0 ≤ x5_1) = true := decide_eq_true c5
       clear c5
       by_cases c6 : x5_1 < (l1.length : Int)
       · rw [if_pos c6] at H
         have c6b0 : decide (x5_1 < (l1.length : Int)) = true := decide_eq_true c6
         clear c6
         replace H := Option.bind_eq_some_iff.mp H
         obtain ⟨t958, A70, H⟩ := H
         replace H : (if t958 = true then (spec_PickSame.l0 k1 l0 l1 (wrap64 (x5_1 + 1))) else (some false)) = some r := H
         have A7 := aM A70; clear A70
         by_cases c8 : t958 = true
         · subst c8
           have H1 : (spec_PickSame.l0 k1 l0 l1 (wrap64 (x5_1 + 1))) = some r := by rw [if_pos rfl] at H; exact H
           clear H
           have H := H1
           clear H1
           have H' := aM H
           clear H
           try go_wp2
           have n0_ := aM (below_drew1 HB.out)
           clear HB
           have HB := n0_
           clear n0_
           have p956 : 0 ≤ (x5_1 : Int) := oD (by first | with_reducible assumption | assumption)
           have q956 : x5_1 < (l0.length : Int) := oD (by first | with_reducible assumption | assumption)
           obtain ⟨ad956, A956_0, c956_0, e956, hx956_0, hl956_0, hi956_0⟩ := at_L13 HR0.out x5_1 p956 q956
           have hw956_0 := hx956_0
           cases e956
           replace hx956_0 := (HB.out.cell (World.block_lt_of_cell? w _ hx956_0)).trans hx956_0
           have HR956_0 := aM hi956_0; have HC956_0 := aM hl956_0; clear hi956_0 hl956_0; replace p956 := eq_true p956; replace q956 := eq_true q956
           have p957 : 0 ≤ (x5_1 : Int) := oD (by first | with_reducible assumption | assumption)
           have q957 : x5_1 < (l1.length : Int) := oD (by first | with_reducible assumption | assumption)
           obtain ⟨ad957, A957_0, c957_0, e957, hx957_0, hl957_0, hi957_0⟩ := at_L13 HR1.out x5_1 p957 q957
           have hw957_0 := hx957_0
           cases e957
           replace hx957_0 := (HB.out.cell (World.block_lt_of_cell? w _ hx957_0)).trans hx957_0
           have HR957_0 := aM hi957_0; have HC957_0 := aM hl957_0; clear hi957_0 hl957_0; replace p957 := eq_true p957; replace q957 := eq_true q957
           refine start_ (n := 10) (S := fun w' => w'.cell? (ad956.add (x5_1).toNat) = some (.slice A956_0 (rd_L13 l0 x5_1).length c956_0) ∧ w'.cell? (ad957.add (x5_1).toNat) = some (.slice A957_0 (rd_L13 l1 x5_1).length c957_0)) (ds := []) #[false, false, false, false, false, false, false, false, false, false] (by kernel_rfl) rfl rfl ⟨((HB.out.cell (World.block_lt_of_cell? w _ hw956_0)).trans hw956_0), ((HB.out.cell (World.block_lt_of_cell? w _ hw957_0)).trans hw957_0)⟩ (fun hHeld => ?_); refine with_tabW spec_PickSame.tab6 spec_PickSame.bits6 (fun HT_ HW_ => ?_)
           generalize wr.drew = w9 at HB HR956_0 HR957_0 hx956_0 hx957_0 hHeld ⊢
           refine pure_ (i := 0) (N := some 17) (v := ?_) (a' := ?_) #[true, false, false, false, false, false, false, false, false, false] rfl rfl (any_of HT_.out (by kernel_rfl)) (fun _ _ _ h => h) (Or.inl ⟨by rfl, ?_⟩) ?_ ?_
           rotate_left
           · intro w'
             go_simp
             with_reducible rfl
           rotate_left
           · simp only [Act.put, List.setIfInBounds_toArray, List.set_cons_zero, List.set_cons_succ, i64_w, i32_w]
             rfl
           refine pure_ (i := 1) (N := some 18) (v := ?_) (a' := ?_) #[true, true, false, false, false, false, false, false, false, false] rfl rfl (any_of HT_.out (by kernel_rfl)) (fun _ _ _ h => h) (Or.inl ⟨by rfl, ?_⟩) ?_ ?_
           rotate_left
           · intro w'
             go_simp
             with_reducible rfl
           rotate_left
           · simp only [Act.put, List.setIfInBounds_toArray, List.set_cons_zero, List.set_cons_succ, i64_w, i32_w]
             rfl
           refine pure_ (i := 2) (N := some 19) (v := ?_) (a' := ?_) #[true, true, true, false, false, false, false, false, false, false] rfl rfl (any_of HT_.out (by kernel_rfl)) (fun _ _ _ h => h) (Or.inl ⟨by rfl, ?_⟩) ?_ ?_
           rotate_left
           · intro w'
             go_simp
             with_reducible rfl
           rotate_left
           · simp only [Act.put, List.setIfInBounds_toArray, List.set_cons_zero, List.set_cons_succ, i64_w, i32_w]
             rfl
           refine pure_ (i := 4) (N := some 21) (v := ?_) (a' := ?_) #[true, true, true, false, true, false, false, false, false, false] rfl rfl (any_of HT_.out (by kernel_rfl)) (fun _ _ _ h => h) (Or.inl ⟨by rfl, ?_⟩) ?_ ?_
           rotate_left
           · intro w'
             go_simp
             with_reducible rfl
           rotate_left
           · simp only [Act.put, List.setIfInBounds_toArray, List.set_cons_zero, List.set_cons_succ, i64_w, i32_w]
             rfl
           refine pure_ (i := 5) (N := some 22) (v := ?_) (a' := ?_) #[true, true, true, false, true, true, false, false, false, false] rfl rfl (any_of HT_.out (by kernel_rfl)) (fun _ _ _ h => h) (Or.inl ⟨by rfl, ?_⟩) ?_ ?_
           rotate_left
           · intro w'
             go_simp
             with_reducible rfl
           rotate_left
           · simp only [Act.put, List.setIfInBounds_toArray, List.set_cons_zero, List.set_cons_succ, i64_w, i32_w]
             rfl
           refine pure_ (i := 6) (N := some 23) (v := ?_) (a' := ?_) #[true, true, true, false, true, true, true, false, false, false] rfl rfl (any_of HT_.out (by kernel_rfl)) (fun _ _ _ h => h) (Or.inl ⟨by rfl, ?_⟩) ?_ ?_
           rotate_left
           · intro w'
             go_simp
             with_reducible rfl
           rotate_left
           · simp only [Act.put, List.setIfInBounds_toArray, List.set_cons_zero, List.set_cons_succ, i64_w, i32_w]
             rfl
           refine take_ (i := 3) (N := some 20) (v := ?_) (a' := ?_) #[true, true, true, true, true, true, true, false, false, false] rfl rfl (take_ofW HT_.out HW_.out (by kernel_rfl)) (fun _ _ _ h => h) (Or.inl ⟨by rfl, ?_⟩) hHeld ?_ ?_
           rotate_left
           · rintro w' ⟨s0, s1⟩
             go_simp
             with_reducible rfl
           rotate_left
           · simp only [Act.put, List.setIfInBounds_toArray, List.set_cons_zero, List.set_cons_succ, i64_w, i32_w]
             rfl
           refine take_ (i := 7) (N := some 24) (v := ?_) (a' := ?_) #[true, true, true, true, true, true, true, true, false, false] rfl rfl (take_ofW HT_.out HW_.out (by kernel_rfl)) (fun _ _ _ h => h) (Or.inl ⟨by rfl, ?_⟩) hHeld ?_ ?_
           rotate_left
           · rintro w' ⟨s0, s1⟩
             go_simp
             with_reducible rfl
           rotate_left
           · simp only [Act.put, List.setIfInBounds_toArray, List.set_cons_zero, List.set_cons_succ, i64_w, i32_w]
             rfl
           refine one_ (i := 8) (N := some 25) #[true, true, true, true, true, true, true, true, true, false] rfl rfl (one_of HT_.out (by kernel_rfl)) (by decide) (fun K hK => ?_)
           refine goes_ Try.func94 (by kernel_rfl) rfl #[.slice A956_0 (rd_L13 l0 x5_1).length c956_0, .slice A957_0 (rd_L13 l1 x5_1).length c957_0] (by rfl) rfl rfl (by (try simp only [List.map_toArray, List.map_cons, List.map_nil]); first | done | rfl) ?_
           with_reducible refine (spec_UnitSame.calls k1 _ _ (rd_L13 l0 x5_1) _ _ (rd_L13 l1 x5_1) true _ ?side1 ?side2 ?side3 ?side4 A7.out).mono ?_
           (case side1 => repeat (first | exact (Kd.C_below HR956_0.out HB.out) | (with_reducible first | refine Ca ?_ _ | refine Cn ?_ _ | refine Cd ?_)))
           (case side2 => exact HC956_0.out)
           (case side3 => repeat (first | exact (Kd.C_below HR957_0.out HB.out) | (with_reducible first | refine Ca ?_ _ | refine Cn ?_ _ | refine Cd ?_)))
           (case side4 => exact HC957_0.out)
           rintro e w10 ⟨rfl, hb⟩
           refine ⟨_, rfl, ?_⟩
           have n0_ := aM (below_step (by repeat (with_reducible first | exact HB.out | apply bA | apply bN | apply bD)) hb)
           clear HB
           have HB := n0_
           clear n0_
           refine hK.out _ _ ⟨((HB.out.cell (World.block_lt_of_cell? w _ hw956_0)).trans hw956_0), ((HB.out.cell (World.block_lt_of_cell? w _ hw957_0)).trans hw957_0)⟩ (fun hHeld => ?_)
           clear hK K
           refine norm_ (a' := ?_) ?_ ?_
           rotate_left
           · show Act.put _ (some 25) _ = _
             simp only [Act.put, List.setIfInBounds_toArray, List.set_cons_zero, List.set_cons_succ, i64_w, i32_w]
             rfl
           refine pure_ (i := 9) (N := some 26) (v := ?_) (a' := ?_) #[true, true, true, true, true, true, true, true, true, true] rfl rfl (any_of HT_.out (by kernel_rfl)) (fun _ _ _ h => h) (Or.inl ⟨by rfl, ?_⟩) ?_ ?_
           rotate_left
           · intro w'
             go_simp
             with_reducible rfl
           rotate_left
           · simp only [Act.put, List.setIfInBounds_toArray, List.set_cons_zero, List.set_cons_succ, i64_w, i32_w]
             rfl
           refine done_ (done_of HT_.out (by kernel_rfl)) ?_
           try go_wp2
           go_roundg k1
           case measure => have := HK1.out; omega
           case rel => exact ⟨(wrap64 (x5_1 + 1)), (by first | rfl | (simp; done) | (simp [*]; done)), H', ⟨by have := HK1.out; omega⟩, ⟨by repeat (with_reducible first | exact HB.out | apply bA | apply bN | apply bD)⟩⟩
         replace c8 := Bool.eq_false_iff.mpr c8
         subst c8
         have H1 : (some false) = some r := by rw [if_neg (show ¬ (false = true) by decide)] at H; exact H
         clear H
         have H := H1
         clear H1
         obtain rfl := Option.some.inj H
         try go_wp2
         have n0_ := aM (below_drew1 HB.out)
         clear HB
         have HB := n0_
         clear n0_
         have p956 : 0 ≤ (x5_1 : Int) := oD (by first | with_reducible assumption | assumption)
         have q956 : x5_1 < (l0.length : Int) := oD (by first | with_reducible assumption | assumption)
         obtain ⟨ad956, A956_0, c956_0, e956, hx956_0, hl956_0, hi956_0⟩ := at_L13 HR0.out x5_1 p956 q956
         have hw956_0 := hx956_0
         cases e956
         replace hx956_0 := (HB.out.cell (World.block_lt_of_cell? w _ hx956_0)).trans hx956_0
         have HR956_0 := aM hi956_0; have HC956_0 := aM hl956_0; clear hi956_0 hl956_0; replace p956 := eq_true p956; replace q956 := eq_true q956
         have p957 : 0 ≤ (x5_1 : Int) := oD (by first | with_reducible assumption | assumption)
         have q957 : x5_1 < (l1.length : Int) := oD (by first | with_reducible assumption | assumption)
         obtain ⟨ad957, A957_0, c957_0, e957, hx957_0, hl957_0, hi957_0⟩ := at_L13 HR1.out x5_1 p957 q957
         have hw957_0 := hx957_0
         cases e957
         replace hx957_0 := (HB.out.cell (World.block_lt_of_cell? w _ hx957_0)).trans hx957_0
         have HR957_0 := aM hi957_0; have HC957_0 := aM hl957_0; clear hi957_0 hl957_0; replace p957 := eq_true p957; replace q957 := eq_true q957
         refine start_ (n := 10) (S := fun w' => w'.cell? (ad956.add (x5_1).toNat) = some (.slice A956_0 (rd_L13 l0 x5_1).length c956_0) ∧ w'.cell? (ad957.add (x5_1).toNat) = some (.slice A957_0 (rd_L13 l1 x5_1).length c957_0)) (ds := []) #[false, false, false, false, false, false, false, false, false, false] (by kernel_rfl) rfl rfl ⟨((HB.out.cell (World.block_lt_of_cell? w _ hw956_0)).trans hw956_0), ((HB.out.cell (World.block_lt_of_cell? w _ hw957_0)).trans hw957_0)⟩ (fun hHeld => ?_); refine with_tabW spec_PickSame.tab6 spec_PickSame.bits6 (fun HT_ HW_ => ?_)
         generalize wr.drew = w11 at HB HR956_0 HR957_0 hx956_0 hx957_0 hHeld ⊢
         refine pure_ (i := 0) (N := some 17) (v := ?_) (a' := ?_) #[true, false, false, false, false, false, false, false, false, false] rfl rfl (any_of HT_.out (by kernel_rfl)) (fun _ _ _ h => h) (Or.inl ⟨by rfl, ?_⟩) ?_ ?_
         rotate_left
         · intro w'
           go_simp
           with_reducible rfl
         rotate_left
         · simp only [Act.put, List.setIfInBounds_toArray, List.set_cons_zero, List.set_cons_succ, i64_w, i32_w]
           rfl
         refine pure_ (i := 1) (N := some 18) (v := ?_) (a' := ?_) #[true, true, false, false, false, false, false, false, false, false] rfl rfl (any_of HT_.out (by kernel_rfl)) (fun _ _ _ h => h) (Or.inl ⟨by rfl, ?_⟩) ?_ ?_
         rotate_left
         · intro w'
           go_simp
           with_reducible rfl
         rotate_left
         · simp only [Act.put, List.setIfInBounds_toArray, List.set_cons_zero, List.set_cons_succ, i64_w, i32_w]
           rfl
         refine pure_ (i := 2) (N := some 19) (v := ?_) (a' := ?_) #[true, true, true, false, false, false, false, false, false, false] rfl rfl (any_of HT_.out (by kernel_rfl)) (fun _ _ _ h => h) (Or.inl ⟨by rfl, ?_⟩) ?_ ?_
         rotate_left
         · intro w'
           go_simp
           with_reducible rfl
         rotate_left
         · simp only [Act.put, List.setIfInBounds_toArray, List.set_cons_zero, List.set_cons_succ, i64_w, i32_w]
           rfl
         refine pure_ (i := 4) (N := some 21) (v := ?_) (a' := ?_) #[true, true, true, false, true, false, false, false, false, false] rfl rfl (any_of HT_.out (by kernel_rfl)) (fun _ _ _ h => h) (Or.inl ⟨by rfl, ?_⟩) ?_ ?_
         rotate_left
         · intro w'
           go_simp
           with_reducible rfl
         rotate_left
         · simp only [Act.put, List.setIfInBounds_toArray, List.set_cons_zero, List.set_cons_succ, i64_w, i32_w]
           rfl
         refine pure_ (i := 5) (N := some 22) (v := ?_) (a' := ?_) #[true, true, true, false, true, true, false, false, false, false] rfl rfl (any_of HT_.out (by kernel_rfl)) (fun _ _ _ h => h) (Or.inl ⟨by rfl, ?_⟩) ?_ ?_
         rotate_left
         · intro w'
           go_simp
           with_reducible rfl
         rotate_left
         · simp only [Act.put, List.setIfInBounds_toArray, List.set_cons_zero, List.set_cons_succ, i64_w, i32_w]
           rfl
         refine pure_ (i := 6) (N := some 23) (v := ?_) (a' := ?_) #[true, true, true, false, true, true, true, false, false, false] rfl rfl (any_of HT_.out (by kernel_rfl)) (fun _ _ _ h => h) (Or.inl ⟨by rfl, ?_⟩) ?_ ?_
         rotate_left
         · intro w'
           go_simp
           with_reducible rfl
         rotate_left
         · simp only [Act.put, List.setIfInBounds_toArray, List.set_cons_zero, List.set_cons_succ, i64_w, i32_w]
           rfl
         refine take_ (i := 3) (N := some 20) (v := ?_) (a' := ?_) #[true, true, true, true, true, true, true, false, false, false] rfl rfl (take_ofW HT_.out HW_.out (by kernel_rfl)) (fun _ _ _ h => h) (Or.inl ⟨by rfl, ?_⟩) hHeld ?_ ?_
         rotate_left
         · rintro w' ⟨s0, s1⟩
           go_simp
           with_reducible rfl
         rotate_left
         · simp only [Act.put, List.setIfInBounds_toArray, List.set_cons_zero, List.set_cons_succ, i64_w, i32_w]
           rfl
         refine take_ (i := 7) (N := some 24) (v := ?_) (a' := ?_) #[true, true, true, true, true, true, true, true, false, false] rfl rfl (take_ofW HT_.out HW_.out (by kernel_rfl)) (fun _ _ _ h => h) (Or.inl ⟨by rfl, ?_⟩) hHeld ?_ ?_
         rotate_left
         · rintro w' ⟨s0, s1⟩
           go_simp
           with_reducible rfl
         rotate_left
         · simp only [Act.put, List.setIfInBounds_toArray, List.set_cons_zero, List.set_cons_succ, i64_w, i32_w]
           rfl
         refine one_ (i := 8) (N := some 25) #[true, true, true, true, true, true, true, true, true, false] rfl rfl (one_of HT_.out (by kernel_rfl)) (by decide) (fun K hK => ?_)
         refine goes_ Try.func94 (by kernel_rfl) rfl #[.slice A956_0 (rd_L13 l0 x5_1).length c956_0, .slice A957_0 (rd_L13 l1 x5_1).length c957_0] (by rfl) rfl rfl (by (try simp only [List.map_toArray, List.map_cons, List.map_nil]); first | done | rfl) ?_
         with_reducible refine (spec_UnitSame.calls k1 _ _ (rd_L13 l0 x5_1) _ _ (rd_L13 l1 x5_1) false _ ?side1 ?side2 ?side3 ?side4 A7.out).mono ?_
         (case side1 => repeat (first | exact (Kd.C_below HR956_0.out HB.out) | (with_reducible first | refine Ca ?_ _ | refine Cn ?_ _ | refine Cd ?_)))
         (case side2 => exact HC956_0.out)
         (case side3 => repeat (first | exact (Kd.C_below HR957_0.out HB.out) | (with_reducible first | refine Ca ?_ _ | refine Cn ?_ _ | refine Cd ?_)))
         (case side4 => exact HC957_0.out)
         rintro e w12 ⟨rfl, hb⟩
         refine ⟨_, rfl, ?_⟩
         have n0_ := aM (below_step (by repeat (with_reducible first | exact HB.out | apply bA | apply bN | apply bD)) hb)
         clear HB
         have HB := n0_
         clear n0_
         refine hK.out _ _ ⟨((HB.out.cell (World.block_lt_of_cell? w _ hw956_0)).trans hw956_0), ((HB.out.cell (World.block_lt_of_cell? w _ hw957_0)).trans hw957_0)⟩ (fun hHeld => ?_)
         clear hK K
         refine norm_ (a' := ?_) ?_ ?_
         rotate_left
         · show Act.put _ (some 25) _ = _
           simp only [Act.put, List.setIfInBounds_toArray, List.set_cons_zero, List.set_cons_succ, i64_w, i32_w]
           rfl
         refine pure_ (i := 9) (N := some 26) (v := ?_) (a' := ?_) #[true, true, true, true, true, true, true, true, true, true] rfl rfl (any_of HT_.out (by kernel_rfl)) (fun _ _ _ h => h) (Or.inl ⟨by rfl, ?_⟩) ?_ ?_
         rotate_left
         · intro w'
           go_simp
           with_reducible rfl
         rotate_left
         · simp only [Act.put, List.setIfInBounds_toArray, List.set_cons_zero, List.set_cons_succ, i64_w, i32_w]
           rfl
         refine done_ (done_of HT_.out (by kernel_rfl)) ?_
         try go_wp2
         go_ret
         exact ⟨by first | rfl | (simp [*, errW_none, errW_some] <;> rfl), by repeat (with_reducible first | exact HB.out | apply bA | apply bN | apply bD)⟩
       rw [if_neg c6] at H
       exact absurd H (by simp)
     rw [if_neg c5] at H
     exact absurd H (by simp)
   rw [if_neg c4] at H
   have c4b0 : decide (x5_1 < (l0.length : Int)) = false := decide_eq_false c4
   clear c4
   obtain rfl := Option.some.inj H
   go_wp2
   go_ret
   exact ⟨by first | rfl | (simp [*, errW_none, errW_some] <;> rfl), by repeat (with_reducible first | exact HB.out | apply bA | apply bN | apply bD)⟩
 rw [if_neg c3] at H
 have c3b0 : ((l0.length : Int) == (l1.length : Int)) = false := beq_eq_false_iff_ne.mpr c3
 have c3b1 : ((l0.length : Int) != (l1.length : Int)) = true := bne_iff_ne.mpr c3
 have c3b2 : (l0.length == l1.length) = false := by first | simpa using c3 | (simp at c3 ⊢; omega)
 obtain rfl := Option.some.inj H
 go_enter Try.func44, Try.ntmps44
 go_wp2
 go_ret
 exact ⟨by first | rfl | (simp [*, errW_none, errW_some] <;> rfl), by repeat (with_reducible first | exact HB.out | apply bA | apply bN | apply bD)⟩
end Go.Proofs.Ytpckkkcaffhhnaa.P
namespace Go.Proofs.Ytpckkkcaffhhnaa.L
open Go.RowKit Go.Proofs.YtpckkkcaffhhnaaW.PrintWords Go.Proofs.YtpckkkcaffhhnaaW.PrintLast Go.Proofs.YtpckkkcaffhhnaaW.PrintMore Go.Proofs.Ytpckkkcaffhhnaa.P
def insSame (x y : S38) : Bool := (x.f0 == y.f0) && ((x.f1 == y.f1) && (x.f2.toList == y.f2.toList))
theorem insSame_not (x y : S38) : (!(x.f0 == y.f0) || (!(x.f1 == y.f1) || (!(x.f2.toList == y.f2.toList)))) = !insSame x y := by
  simp only [insSame, Bool.not_and]
def funSame (x y : S30) : Bool := (x.f0.toList == y.f0.toList) && ((x.f1 == y.f1) && all2 insSame x.f2 y.f2)
def unitSame (l m : List S30) : Bool := all2 funSame l m
theorem insSame_refl (x : S38) : insSame x x = true := by simp [insSame]
theorem funSame_refl (x : S30) : funSame x x = true := by simp [funSame, all2_refl insSame _ (fun y _ => insSame_refl y)]
theorem unitSame_refl (l : List S30) : unitSame l l = true := all2_refl _ _ (fun x _ => funSame_refl x)
theorem slices_Equal_simpl_Ins_impl_Ins_f (l m : List S38) (hn : l.length ≤ 9223372036854775807) (k : Nat) (hk : l.length < k) : slices_Equal_simpl_Ins_impl_Ins.f k l m = some (all2 insSame l m) := by
  unfold slices_Equal_simpl_Ins_impl_Ins.f
  by_cases hl : l.length = m.length
  · rw [if_pos (by omega)]
    refine loop_all2 insSame z38 z38 l m hl hn (fun k i => slices_Equal_simpl_Ins_impl_Ins.l0 k l m (l.length : Int) i) 0 ?_ ?_ ?_ k (by omega)
    · intro k i hK hi hq
      have hi' : i < m.length := by omega
      simp only [slices_Equal_simpl_Ins_impl_Ins.l0]
      rw [if_pos (by omega), if_pos (by omega), if_pos (by omega), if_pos (by omega)]
      have e := insSame_not (rd_T38 l (i : Int)) (rd_T38 m (i : Int))
      rw [show insSame (rd_T38 l (i : Int)) (rd_T38 m (i : Int)) = true from hq] at e
      rw [e, if_neg (by decide)]
    · intro k i hK hi hq
      have hi' : i < m.length := by omega
      simp only [slices_Equal_simpl_Ins_impl_Ins.l0]
      rw [if_pos (by omega), if_pos (by omega), if_pos (by omega), if_pos (by omega)]
      have e := insSame_not (rd_T38 l (i : Int)) (rd_T38 m (i : Int))
      rw [show insSame (rd_T38 l (i : Int)) (rd_T38 m (i : Int)) = false from hq] at e
      rw [e, if_pos (by decide)]
    · intro k hK
      simp only [slices_Equal_simpl_Ins_impl_Ins.l0]
      rw [if_neg (by omega)]
  · rw [if_neg (by omega), all2_len _ _ _ hl]
theorem spec_l2Body_f (l m : List S38) (hn : l.length ≤ 9223372036854775807) (k : Nat) (hk : l.length < k) : spec_l2Body.f k l m = some (all2 insSame l m) := by
  unfold spec_l2Body.f
  by_cases hl : l.length = m.length
  · rw [if_pos (by omega)]
    refine loop_all2 insSame z38 z38 l m hl hn (fun k i => spec_l2Body.l0 k l m i) 0 ?_ ?_ ?_ k (by omega)
    · intro k i hK hi hq
      have hi' : i < m.length := by omega
      simp only [spec_l2Body.l0]
      rw [if_pos (by omega), if_pos (by omega), if_pos (by omega)]
      have e := insSame_not (rd_T38 l (i : Int)) (rd_T38 m (i : Int))
      rw [show insSame (rd_T38 l (i : Int)) (rd_T38 m (i : Int)) = true from hq] at e
      rw [e, if_neg (by decide)]
    · intro k i hK hi hq
      have hi' : i < m.length := by omega
      simp only [spec_l2Body.l0]
      rw [if_pos (by omega), if_pos (by omega), if_pos (by omega)]
      have e := insSame_not (rd_T38 l (i : Int)) (rd_T38 m (i : Int))
      rw [show insSame (rd_T38 l (i : Int)) (rd_T38 m (i : Int)) = false from hq] at e
      rw [e, if_pos (by decide)]
    · intro k hK
      simp only [spec_l2Body.l0]
      rw [if_neg (by omega)]
  · rw [if_neg (by omega), all2_len _ _ _ hl]
theorem impl_FunSame_f (x y : S30) (hn : x.f2.length ≤ 9223372036854775807) (k : Nat) (hk : x.f2.length < k) : impl_FunSame.f k x.f0 x.f1 x.f2 y.f0 y.f1 y.f2 = some (funSame x y) := by
  unfold impl_FunSame.f
  rw [slices_Equal_simpl_Ins_impl_Ins_f x.f2 y.f2 hn k hk]
  by_cases h : x.f0.toList = y.f0.toList
  · rw [if_pos h]
    by_cases h2 : (x.f1 == y.f1) = true
    · rw [if_pos h2]
      simp [funSame, h, h2]
    · rw [if_neg h2]
      simp [funSame, h, Bool.eq_false_iff.mpr h2]
  · rw [if_neg h]
    simp [funSame, beq_eq_false_iff_ne.mpr h]
theorem spec_FunSame_f (x y : S30) (hn : x.f2.length ≤ 9223372036854775807) (k : Nat) (hk : x.f2.length < k) : spec_FunSame.f k x.f0 x.f1 x.f2 y.f0 y.f1 y.f2 = some (funSame x y) := by
  unfold spec_FunSame.f
  rw [spec_l2Body_f x.f2 y.f2 hn k hk]
  by_cases h : x.f0.toList = y.f0.toList
  · rw [if_pos h]
    by_cases h2 : (x.f1 == y.f1) = true
    · rw [if_pos h2]
      simp [funSame, h, h2]
    · rw [if_neg h2]
      simp [funSame, h, Bool.eq_false_iff.mpr h2]
  · rw [if_neg h]
    simp [funSame, beq_eq_false_iff_ne.mpr h]
theorem spec_UnitSame_f (l m : List S30) (hn : l.length ≤ 9223372036854775807) (B : Nat) (hB : B ≤ 9223372036854775807) (hb : ∀ x ∈ l, x.f2.length < B) (k : Nat) (hk : B + l.length < k) : spec_UnitSame.f k l m = some (all2 funSame l m) := by
  unfold spec_UnitSame.f
  by_cases hl : l.length = m.length
  · rw [if_pos (by omega)]
    refine loop_all2 funSame z30 z30 l m hl hn (fun k i => spec_UnitSame.l0 k l m i) B ?_ ?_ ?_ k (by omega)
    · intro k i hK hi hq
      have hi' : i < m.length := by omega
      simp only [spec_UnitSame.l0]
      rw [if_pos (by omega), if_pos (by omega), if_pos (by omega)]
      have e := spec_FunSame_f (rd_T30 l (i : Int)) (rd_T30 m (i : Int)) (by have := hb _ (getD_mem (d := z30) hi); have e0 : rd_T30 l (i : Int) = l.getD i z30 := rfl; rw [e0]; omega) k (by have := hb _ (getD_mem (d := z30) hi); have e0 : rd_T30 l (i : Int) = l.getD i z30 := rfl; rw [e0]; omega)
      rw [show funSame (rd_T30 l (i : Int)) (rd_T30 m (i : Int)) = true from hq] at e
      rw [e]
      rfl
    · intro k i hK hi hq
      have hi' : i < m.length := by omega
      simp only [spec_UnitSame.l0]
      rw [if_pos (by omega), if_pos (by omega), if_pos (by omega)]
      have e := spec_FunSame_f (rd_T30 l (i : Int)) (rd_T30 m (i : Int)) (by have := hb _ (getD_mem (d := z30) hi); have e0 : rd_T30 l (i : Int) = l.getD i z30 := rfl; rw [e0]; omega) k (by have := hb _ (getD_mem (d := z30) hi); have e0 : rd_T30 l (i : Int) = l.getD i z30 := rfl; rw [e0]; omega)
      rw [show funSame (rd_T30 l (i : Int)) (rd_T30 m (i : Int)) = false from hq] at e
      rw [e]
      rfl
    · intro k hK
      simp only [spec_UnitSame.l0]
      rw [if_neg (by omega)]
  · rw [if_neg (by omega), all2_len _ _ _ hl]
theorem spec_UnitSame_u (l m : List S30) (hn : l.length ≤ 9223372036854775807) (B : Nat) (hB : B ≤ 9223372036854775807) (hb : ∀ x ∈ l, x.f2.length < B) (k : Nat) (hk : B + l.length < k) : spec_UnitSame.f k l m = some (unitSame l m) := spec_UnitSame_f l m hn B hB hb k hk
theorem spec_PickSame_f (l m : List (List S30)) (hn : l.length ≤ 9223372036854775807) (B C : Nat) (hB : B ≤ 9223372036854775807) (hC : C ≤ 9223372036854775807) (hb : ∀ u ∈ l, B + u.length < C ∧ ∀ x ∈ u, x.f2.length < B) (k : Nat) (hk : C + l.length < k) : spec_PickSame.f k l m = some (all2 unitSame l m) := by
  unfold spec_PickSame.f
  by_cases hl : l.length = m.length
  · rw [if_pos (by omega)]
    refine loop_all2 unitSame [] [] l m hl hn (fun k i => spec_PickSame.l0 k l m i) C ?_ ?_ ?_ k (by omega)
    · intro k i hK hi hq
      have hi' : i < m.length := by omega
      simp only [spec_PickSame.l0]
      rw [if_pos (by omega), if_pos (by omega), if_pos (by omega)]
      have e := spec_UnitSame_u (rd_L13 l (i : Int)) (rd_L13 m (i : Int)) (by have := (hb _ (getD_mem (d := []) hi)).1; have e0 : rd_L13 l (i : Int) = l.getD i [] := rfl; rw [e0]; omega) B hB (by have := (hb _ (getD_mem (d := []) hi)).2; exact this) k (by have := (hb _ (getD_mem (d := []) hi)).1; have e0 : rd_L13 l (i : Int) = l.getD i [] := rfl; rw [e0]; omega)
      rw [show unitSame (rd_L13 l (i : Int)) (rd_L13 m (i : Int)) = true from hq] at e
      rw [e]
      rfl
    · intro k i hK hi hq
      have hi' : i < m.length := by omega
      simp only [spec_PickSame.l0]
      rw [if_pos (by omega), if_pos (by omega), if_pos (by omega)]
      have e := spec_UnitSame_u (rd_L13 l (i : Int)) (rd_L13 m (i : Int)) (by have := (hb _ (getD_mem (d := []) hi)).1; have e0 : rd_L13 l (i : Int) = l.getD i [] := rfl; rw [e0]; omega) B hB (by have := (hb _ (getD_mem (d := []) hi)).2; exact this) k (by have := (hb _ (getD_mem (d := []) hi)).1; have e0 : rd_L13 l (i : Int) = l.getD i [] := rfl; rw [e0]; omega)
      rw [show unitSame (rd_L13 l (i : Int)) (rd_L13 m (i : Int)) = false from hq] at e
      rw [e]
      rfl
    · intro k hK
      simp only [spec_PickSame.l0]
      rw [if_neg (by omega)]
  · rw [if_neg (by omega), all2_len _ _ _ hl]
end Go.Proofs.Ytpckkkcaffhhnaa.L
namespace Go.Proofs.Ytpckkkcaffhhnaa.P
open Go.RowKit Go.Proofs.YtpckkkcaffhhnaaW.PrintWords Go.Proofs.YtpckkkcaffhhnaaW.PrintLast Go.Proofs.YtpckkkcaffhhnaaW.PrintMore
attribute [local go_sem] max2_int min2_int max_two min_two max_three min_three max_four min_four
open Go.Proofs.Ytpckkkcaffhhnaa.L in
def impl_UnitSame.f (l0 : List S30) (l1 : List S30) : Option Bool := some (unitSame l0 l1)
open Go.Proofs.Ytpckkkcaffhhnaa.L in
set_option maxHeartbeats 2000000 in
theorem impl_UnitSame.calls (A0 : Option Addr) (c0 : Nat) (l0 : List S30) (A1 : Option Addr) (c1 : Nat) (l1 : List S30) (r : Bool) (w : World) (hr0 : Kd.C k30 w A0 l0.length l0) (hc0 : l0.length ≤ c0) (hr1 : Kd.C k30 w A1 l1.length l1) (hc1 : l1.length ≤ c1) (h : impl_UnitSame.f l0 l1 = some r) :
    Calls Try.prog 93 #[.slice A0 l0.length c0, .slice A1 l1.length c1] w fun e w' => e = .returned (.bool r) ∧ Below w.heap.size w w' := by
 have HC := aM (eqfFun_calls A0 c0 l0 A1 c1 l1 funSame w hr0 hc0 hr1 hc1
   (fun W x A2 c2 y B2 d2 hb _ _ hl hi gl gi => impl_FunSame.calls (x.f2.length + 1) x.f0 x.f1 A2 c2 x.f2 y.f0 y.f1 B2 d2 y.f2 (funSame x y) W hi hl gi gl (impl_FunSame_f x y hi.2.1 _ (Nat.lt_succ_self _))))
 clear hr0 hr1
 obtain rfl := Option.some.inj h
 clear h
 go_enter Try.func93, Try.ntmps93
 go_wp2_with (go_at_call 128; refine HC.out.mono ?_; rintro e w' ⟨rfl, hb'⟩)
 go_ret
 exact ⟨rfl, hb'⟩
open Go.Proofs.Ytpckkkcaffhhnaa.L in
def impl_PickSame.f (l0 : List (List S30)) (l1 : List (List S30)) : Option Bool := some (all2 unitSame l0 l1)
open Go.Proofs.Ytpckkkcaffhhnaa.L in
set_option maxHeartbeats 2000000 in
theorem impl_PickSame.calls (A0 : Option Addr) (c0 : Nat) (l0 : List (List S30)) (A1 : Option Addr) (c1 : Nat) (l1 : List (List S30)) (r : Bool) (w : World) (hr0 : Kd.C (Kd.slice 30 k30) w A0 l0.length l0) (hc0 : l0.length ≤ c0) (hr1 : Kd.C (Kd.slice 30 k30) w A1 l1.length l1) (hc1 : l1.length ≤ c1) (h : impl_PickSame.f l0 l1 = some r) :
    Calls Try.prog 43 #[.slice A0 l0.length c0, .slice A1 l1.length c1] w fun e w' => e = .returned (.bool r) ∧ Below w.heap.size w w' := by
 have HC := aM (eqfFuns_calls A0 c0 l0 A1 c1 l1 unitSame w hr0 hc0 hr1 hc1
   (fun W x A2 c2 y B2 d2 hb _ _ hl hi gl gi => impl_UnitSame.calls A2 c2 x B2 d2 y (unitSame x y) W hi hl gi gl rfl))
 clear hr0 hr1
 obtain rfl := Option.some.inj h
 clear h
 go_enter Try.func43, Try.ntmps43
 go_wp2_with (go_at_call 92; refine HC.out.mono ?_; rintro e w' ⟨rfl, hb'⟩)
 go_ret
 exact ⟨rfl, hb'⟩
end Go.Proofs.Ytpckkkcaffhhnaa.P
namespace Go.Proofs
open Go.RowKit Go.Shelf Go.Sort
shelf_lay Lays.n190 Nm 190 at Try as Try.laysSort
shelf_lay Lays.n194 Nm 194 at Try as Try.laysCompact
end Go.Proofs
namespace Go.Proofs.Ytpckkkcaffhhnaa.L
open Go.RowKit Go.Sort Go.Proofs.YtpckkkcaffhhnaaW.PrintWords Go.Proofs.YtpckkkcaffhhnaaW.PrintLast Go.Proofs.YtpckkkcaffhhnaaW.PrintMore Go.Proofs.Ytpckkkcaffhhnaa.P
def bytesL (l : List ByteArray) : List (List UInt8) := l.map (·.data.toList)
def textsL (l : List (List UInt8)) : List ByteArray := l.map fun b => ⟨b.toArray⟩
theorem bytes_texts (l : List (List UInt8)) : bytesL (textsL l) = l := by
  simp only [bytesL, textsL, List.map_map]
  exact (List.map_congr_left (fun x _ => by simp)).trans (List.map_id l)
theorem encs_texts (l : List (List UInt8)) : encs Value.string (textsL l) = l.map encStr := by simp [encs, textsL]
theorem encs_bytes (l : List ByteArray) : encs Value.string l = (bytesL l).map encStr := by
  unfold encs bytesL
  rw [Lib.map_encStr]
def sortV (l : List (List UInt8)) : List (List UInt8) := l.mergeSort fun x y => decide (x ≤ y)
def orderedV (l : List ByteArray) : List ByteArray := textsL (Lib.compact (sortV (bytesL l)))
theorem sort_row (e : TypeId) (base g cap : Nat) (l : List (List UInt8)) (w : World) (hO : w.ownsRow base e 1 (.slice (some ⟨g, 0, none⟩) l.length cap) l.length (l.map encStr)) (hl : l.length < 4611686018427387904) :
    Calls Try.prog 142 #[.slice (some ⟨g, 0, none⟩) l.length cap] w fun e1 w' => e1 = .returned (.tuple #[]) ∧ w'.ownsRow base e 1 (.slice (some ⟨g, 0, none⟩) l.length cap) l.length ((sortV l).map encStr) ∧ w.grownBy w' (some g) := by
  obtain ⟨g', cap', hv, hbg, hgl, hnc, hcm, hlen, hH⟩ := Lib.holds_of_ownsRow hO (by simp)
  injection hv with hv1 _ hv2
  injection hv1 with hv1
  injection hv1 with hv1 _ _
  subst hv1 hv2
  refine (calls_of_every_depth fun D => AnyS.slices_Sort_string_alone Try.laysSort D g 0 cap l w hH hgl hl).mono ?_
  rintro e1 w' ⟨rfl, n, os, rfl⟩
  rcases hO.2 with h | ⟨g2, cap2, cur, hv, hg, hh, r1, r2, r3, r4⟩
  · exact absurd h.1 (by simp)
  · injection hv with hv1 _ hv2
    injection hv1 with hv1
    injection hv1 with hv1 _ _
    subst hv1 hv2
    exact ⟨rfl, ownsRow_sorted (ss := l) (ts := sortV l) (List.length_mergeSort l) hbg hh r1 r2 r3, grownBy_sorted _⟩
theorem compact_row (e : TypeId) (base g cap : Nat) (l : List (List UInt8)) (w : World) (hO : w.ownsRow base e 1 (.slice (some ⟨g, 0, none⟩) l.length cap) l.length (l.map encStr)) (hl : l.length ≤ 4611686018427387904) :
    Calls Try.prog 143 #[.slice (some ⟨g, 0, none⟩) l.length cap] w fun e1 w' => e1 = .returned (.slice (some ⟨g, 0, none⟩) (Lib.compact l).length cap) ∧ w'.ownsRow base e 1 (.slice (some ⟨g, 0, none⟩) (Lib.compact l).length cap) (Lib.compact l).length ((Lib.compact l).map encStr) ∧ w.grownBy w' (some g) := by
  obtain ⟨g', cap', hv, hbg, hgl, hnc, hcm, hlen, hH⟩ := Lib.holds_of_ownsRow hO (by simp)
  injection hv with hv1 _ hv2
  injection hv1 with hv1
  injection hv1 with hv1 _ _
  subst hv1 hv2
  refine (calls_of_every_depth fun D => AnyS.slices_Compact_string_in Try.laysCompact D g 0 cap l w hH (by omega) hnc).mono ?_
  rintro e1 w' ⟨rfl, q, rfl⟩
  have hc := Lib.compact_length_le l
  have ho := Lib.ownsRow_putRow (q := q) (ys := Lib.compact l ++ List.replicate (l.length - (Lib.compact l).length) []) hO (by simp; omega) hc
  rw [List.take_left'  rfl] at ho
  refine ⟨rfl, ho, ?_⟩
  have := grownBy_sorted (w := w) (g := g) (n := q) (os := #[]) (Lib.compact l ++ List.replicate (l.length - (Lib.compact l).length) []).toArray
  rwa [grow_empty] at this
theorem sort_nil (w : World) : Calls Try.prog 142 #[.slice none 0 0] w fun e w' => e = .returned (.tuple #[]) ∧ w' = w :=
  calls_of_every_depth fun D => AnyS.slices_Sort_string_none_alone Try.laysSort D none 0 w
theorem compact_nil (w : World) : Calls Try.prog 143 #[.slice none 0 0] w fun e w' => e = .returned (.slice none 0 0) ∧ w' = w :=
  calls_of_every_depth fun D => AnyS.slices_Compact_string_empty_in Try.laysCompact D none 0 w
theorem reads_texts {e : TypeId} {base : Nat} {A : Option Addr} {cap : Nat} {cs : List (List UInt8)} {w : World} {h1 : ∀ x : ByteArray, (Value.string x).oneCell' = true} (h : w.ownsRow base e 1 (.slice A cs.length cap) cs.length (cs.map encStr)) : (Kd.scalar Value.string h1).C w A cs.length (textsL cs) := by
  have hlen : (textsL cs).length = cs.length := by simp [textsL]
  rw [← encs_texts] at h
  obtain ⟨A', c', hv, _, hc⟩ := Kd.R_reads (Kd.R_of_own (h1 := h1) (ok := fun _ => True) (by rw [hlen]; exact h) (fun _ _ => trivial))
  injection hv with hv
  subst hv
  rwa [hlen] at hc
end Go.Proofs.Ytpckkkcaffhhnaa.L
namespace Go.Proofs.Ytpckkkcaffhhnaa.P
open Go.RowKit Go.Proofs.YtpckkkcaffhhnaaW.PrintWords Go.Proofs.YtpckkkcaffhhnaaW.PrintLast Go.Proofs.YtpckkkcaffhhnaaW.PrintMore
attribute [local go_sem] max2_int min2_int max_two min_two max_three min_three max_four min_four
open Go.Proofs.Ytpckkkcaffhhnaa.L in
def impl_ordered.f (l0 : List ByteArray) : Option (List ByteArray) := if l0.length ≤ 8796093022208 then some (orderedV l0) else none
open Go.Proofs.Ytpckkkcaffhhnaa.L in
set_option maxHeartbeats 1000000 in
set_option maxRecDepth 100000 in
theorem impl_ordered.calls (P0_ : Nat → Prop) (u9000_ : Value) (l0 : List ByteArray) (r : List ByteArray) (w0 w : World) (hB : Below w0.heap.size w0 w) (ho0 : Kd.R Kd.string 9 w w0.heap.size P0_ u9000_ l0) (h : impl_ordered.f l0 = some r) :
    Calls Try.prog 126 #[u9000_] w fun e w' => ∃ v0_ : Value, e = .returned (v0_) ∧ Kd.R Kd.string 9 w' w0.heap.size (fun k_ => (P0_ k_ ∨ w.heap.size ≤ k_)) v0_ r ∧ Below w0.heap.size w0 w' ∧ Kept w w' (fun k_ => P0_ k_) := by
 unfold impl_ordered.f at h
 by_cases hl : l0.length ≤ 8796093022208
 case neg => rw [if_neg hl] at h; exact absurd h (by simp)
 rw [if_pos hl] at h
 obtain rfl := Option.some.inj h
 clear h
 have hok := ho0.1
 have hO := Kd.own_of_R ho0
 obtain ⟨A9, c9, e9⟩ := Kd.R_slice ho0
 clear ho0
 by_cases hv : u9000_ = .slice none 0 0
 · subst hv
   have hl0 : l0 = [] := by
     injection e9 with _ e9 _
     exact List.length_eq_zero_iff.mp e9.symm
   clear e9; subst hl0
   have e0 : orderedV [] = [] := by simp only [orderedV, bytesL, sortV, List.map_nil, List.mergeSort_nil]; rfl
   rw [e0]
   have C1 := aM (fun W : World => sort_nil W)
   have C2 := aM (fun W : World => compact_nil W)
   have HB := aM hB; clear hB hO hok hl
   go_enter Try.func126, Try.ntmps126
   go_wp2_with (first | (go_at_call 142; refine (C1.out _).mono ?_; rintro e w1 ⟨rfl, rfl⟩) | (go_at_call 143; refine (C2.out _).mono ?_; rintro e w2 ⟨rfl, rfl⟩))
   go_ret
   exact ⟨_, rfl, Kd.R_nil _ _ _ _ _, HB.out, Kept.refl _ _⟩
 rw [encs_bytes, show l0.length = (bytesL l0).length by simp [bytesL]] at hO
 obtain ⟨g, cap, rfl, hbg, hgl, hnc, hcm, hlen, hH⟩ := Lib.holds_of_ownsRow hO hv
 clear hH hv
 have hlb : (bytesL l0).length ≤ 8796093022208 := by simpa [bytesL] using hl
 have hP : P0_ g := hok g rfl
 have C1 := aM (sort_row 9 w0.heap.size g cap (bytesL l0) w hO (by omega))
 have hls : (sortV (bytesL l0)).length = (bytesL l0).length := List.length_mergeSort _
 have C2 := aM (fun (W : World) (hW : W.ownsRow w0.heap.size 9 1 (.slice (some ⟨g, 0, none⟩) (bytesL l0).length cap) (bytesL l0).length ((sortV (bytesL l0)).map encStr)) =>
   (by rw [← hls]; exact compact_row 9 w0.heap.size g cap (sortV (bytesL l0)) W (by rw [hls]; exact hW) (by omega) :
     Calls Try.prog 143 #[.slice (some ⟨g, 0, none⟩) (bytesL l0).length cap] W fun e1 w' => e1 = .returned (.slice (some ⟨g, 0, none⟩) (Lib.compact (sortV (bytesL l0))).length cap) ∧ w'.ownsRow w0.heap.size 9 1 (.slice (some ⟨g, 0, none⟩) (Lib.compact (sortV (bytesL l0))).length cap) (Lib.compact (sortV (bytesL l0))).length ((Lib.compact (sortV (bytesL l0))).map encStr) ∧ W.grownBy w' (some g)))
 have hcl := Lib.compact_length_le (sortV (bytesL l0))
 have e1 : orderedV l0 = textsL (Lib.compact (sortV (bytesL l0))) := rfl
 rw [e1]
 have hcn : (Lib.compact (sortV (bytesL l0))).length ≤ 8796093022208 := by omega
 clear e9 e1 hcl hls hlb hl hlen hnc hcm hO hok
 generalize Lib.compact (sortV (bytesL l0)) = cs at *
 generalize sortV (bytesL l0) = ss at *
 generalize (bytesL l0).length = n at *
 have HB := aM hB
 have HG := aM (And.intro hbg (And.intro hgl (And.intro hP hcn)))
 clear hB hbg hgl hP hcn
 go_enter Try.func126, Try.ntmps126
 go_wp2_with (first
   | (go_at_call 142; refine C1.out.mono ?_; rintro e w1 ⟨rfl, ho1, hg1⟩; have HO1 := aM ho1; have HG1 := aM hg1; clear ho1 hg1)
   | (go_at_call 143; refine (C2.out _ HO1.out).mono ?_; rintro e w2 ⟨rfl, ho2, hg2⟩; have HO2 := aM ho2; have HG2 := aM hg2; have HS1 := aM HG1.out.size; have HS2 := aM HG2.out.size; have HB2 := aM (Below.grown (Below.grown HB.out HG1.out (by have := HB.out.size; omega) (fun k hk => by cases hk; exact HG.out.1)) HG2.out (by have := HB.out.size; have := HS1.out; omega) (fun k hk => by cases hk; exact HG.out.1)); clear ho2 hg2)
   | ((with_reducible refine gate_builtin (b := .append) rfl ?_); at_builtin; refine Kd.R_append_row Value.string ByteArray.empty (h1 := fun _ => rfl) (w0 := w0) w0.heap.size rfl _ _ _ 9 (.string ⟨#[]⟩) 16 rfl Try.underlying33 info9 rfl (by decide) (.slice none 0 0) [] (textsL cs) (some ⟨g, 0, none⟩) cs.length cap (fun k_ => P0_ k_ ∨ w.heap.size ≤ k_) rfl rfl ?aF ?aO ?aR ?aB ?aS ?aL ?_; (case aF => intro k hk; have := HS1.out; have := HS2.out; exact .inr (by omega)); (case aO => exact Kd.R_nil _ _ _ _ _); (case aR => exact reads_texts HO2.out); (case aB => exact HB2.out); (case aS => have := HB2.out.size; omega); (case aL => have := HG.out.2.2.2; simp only [List.length_nil]; omega); intro v1 w3 hR hB3 hg3 hat; have HR3 := aM hR; have HB3 := aM hB3; have HG3 := aM hg3; clear hR hB3 hg3 hat))
 go_ret
 exact ⟨_, rfl, HR3.out, HB3.out, Kept.of_grown HG3.out (Kept.of_grown HG2.out (Kept.of_grown HG1.out (Kept.refl _ _) (fun k hk => .inl (by cases hk; exact HG.out.2.2.1))) (fun k hk => .inl (by cases hk; exact HG.out.2.2.1))) (fun k hk => by simp [Value.ownBlock] at hk)⟩
mutual
def impl_lacking.l0 : Nat → List (S30) → List ByteArray → List (S30) → Int → Int → Option (List ByteArray)
  | 0, _, _, _, _, _ => none
  | k + 1, x0, x3, x8, x9, x10 => if x10 < x9 then (if 0 ≤ x10 then (if x10 < (x8.length : Int) then ((impl_Fun_refs.f k ((rd_T30 x8 x10).f0) ((rd_T30 x8 x10).f1) ((rd_T30 x8 x10).f2)).bind fun t783 => (impl_lacking.l1 k x0 x3 x8 x9 x10 t783 (t783.length : Int) 0)) else (none)) else (none)) else ((impl_ordered.f x3).bind fun t778 => (some t778))
def impl_lacking.l1 : Nat → List (S30) → List ByteArray → List (S30) → Int → Int → List ByteArray → Int → Int → Option (List ByteArray)
  | 0, _, _, _, _, _, _, _, _ => none
  | k + 1, x0, x3, x8, x9, x10, x15, x16, x17 => if x17 < x16 then (if 0 ≤ x17 then (if x17 < (x15.length : Int) then ((impl_find.f x0 (rdOf ByteArray.empty x15 x17)).bind fun t787 => (if t787 < 0 then (if x3.length < 8796093022208 then (impl_lacking.l1 k x0 (x3 ++ [rdOf ByteArray.empty x15 x17]) x8 x9 x10 x15 x16 (wrap64 (x17 + 1))) else (none)) else (impl_lacking.l1 k x0 x3 x8 x9 x10 x15 x16 (wrap64 (x17 + 1))))) else (none)) else (none)) else (impl_lacking.l0 k x0 x3 x8 x9 (wrap64 (x10 + 1)))
end
def impl_lacking.f (k : Nat) (l0 : List (S30)) : Option (List ByteArray) := impl_lacking.l0 k l0 ([] : List ByteArray) l0 (l0.length : Int) 0
set_option maxHeartbeats 8000000 in
set_option maxRecDepth 100000 in
theorem impl_lacking.calls (k : Nat) (A0 : Option Addr) (c0 : Nat) (l0 : List (S30)) (r : List ByteArray) (w : World) (hr0 : Kd.C k30 w A0 l0.length l0) (hc0 : l0.length ≤ c0) (h : impl_lacking.f k l0 = some r) :
    Calls Try.prog 89 #[.slice A0 l0.length c0] w fun e w' => ∃ v0_ : Value, e = .returned (v0_) ∧ Kd.R Kd.string 9 w' w.heap.size (fun _ => True) v0_ r ∧ Below w.heap.size w w' := by
 have hu30 := Try.underlying30
 have HR0 := aM hr0; have HC0 := aM hc0; clear hr0 hc0
 have HB := aM (Below.refl w.heap.size w)
 have H : (impl_lacking.l0 k l0 ([] : List ByteArray) l0 (l0.length : Int) 0) = some r := h
 clear h
 have H' := aM H
 clear H
 go_enter Try.func89, Try.ntmps89
 go_wp2
 go_loopg [3, 10] k (fun kq v3 v10 w' => ∃ (x3_1 : List ByteArray) (x10_1 : Int), v10 = .int .i64 x10_1 ∧ Aside0 (impl_lacking.l0 kq l0 x3_1 l0 (l0.length : Int) x10_1 = some r) ∧ Aside0 (kq ≤ k) ∧ Aside0 (Kd.R Kd.string 9 w' w.heap.size (fun _ => True) v3 x3_1) ∧ Aside0 (Below w.heap.size w w'))
 case atStart => exact ⟨(([] : List ByteArray)), (0), (by first | rfl | (simp; done) | (simp [*]; done)), H', ⟨Nat.le_refl _⟩, ⟨by first | exact Kd.R_nil _ _ _ _ _ | exact Kd.N_nil _ _ _ _ _ | exact Kd.V_nil _ _ _ _ _ | exact Kd.Q_nil _ _ _ _ _ | exact Kd.S_nil _ _ _ _ _⟩, ⟨by repeat (with_reducible first | exact HB.out | apply bA | apply bN | apply bD)⟩⟩
 clear H'
 obtain ⟨x3_1, x10_1, rfl, HA, HK1, HO_3, HB⟩ := hrel
 obtain _ | k1 := gk
 · exact absurd HA.out (by simp [impl_lacking.l0])
 have H := HA.out
 clear HA
 simp only [impl_lacking.l0] at H
 by_cases c2 : x10_1 < (l0.length : Int)
 · rw [if_pos c2] at H
   have c2b0 : decide (x10_1 < (l0.length : Int)) = true := decide_eq_true c2
   clear c2
   by_cases c3 : 0 ≤ x10_1
   · rw [if_pos c3] at H
     have c3b0 : decide (0 ≤ x10_1) = true := decide_eq_true c3
     clear c3
     by_cases c4 : x10_1 < (l0.length : Int)
     · rw [if_pos c4] at H
       have c4b0 : decide (x10_1 < (l0.length : Int)) = true := decide_eq_true c4
       clear c4
       replace H := Option.bind_eq_some_iff.mp H
       obtain ⟨t783, A50, H⟩ := H
       replace H : (impl_lacking.l1 k1 l0 x3_1 l0 (l0.length : Int) x10_1 t783 (t783.length : Int) 0) = some r := H
       have A5 := aM A50; clear A50
       have H' := aM H
       clear H
       have p781 : 0 ≤ (x10_1 : Int) := oD (by first | with_reducible assumption | assumption)
       have q781 : x10_1 < (l0.length : Int) := oD (by first | with_reducible assumption | assumption)
       obtain ⟨ad781, A781_2, c781_2, e781, hx781_0, hx781_1, hx781_2, hl781_2, hi781_2⟩ := at_T30 HR0.out x10_1 p781 q781
       cases e781
       replace hx781_0 := (HB.out.cell (World.block_lt_of_cell? w _ hx781_0)).trans hx781_0
       replace hx781_1 := (HB.out.cell (World.block_lt_of_cell? w _ hx781_1)).trans hx781_1
       replace hx781_2 := (HB.out.cell (World.block_lt_of_cell? w _ hx781_2)).trans hx781_2
       have HR781_2 := aM hi781_2; have HC781_2 := aM hl781_2; clear hi781_2 hl781_2; replace p781 := eq_true p781; replace q781 := eq_true q781
       go_wp2_with (first | ((with_reducible refine gate_dst (N := 5) rfl ?_); refine box_event ?hg (N := 5) ?hd (cs := #[.string (⟨#[]⟩ : ByteArray), .bool false, .slice none 0 0]) (t := 30) ?hr ?_; (case hd => rfl); (case hg => rfl); (case hr => first | (go_simp; done) | (go_simp; rfl)); intro gb782 hg w6 hbox hb; have n0_ := aM (Kd.R_below (by (with_reducible repeat (first | apply Ra | apply Rn | apply Rd)); exact HO_3.out) hb); have n1_ := aM (below_step (by repeat (with_reducible first | exact HB.out | apply bA | apply bN | apply bD)) hb); have n2_ := aM (hbox); have n3_ := aM ((by rw [hg]; exact (below_size (by repeat (with_reducible first | exact HB.out | apply bA | apply bN | apply bD))) : w.heap.size ≤ gb782)); have n4_ := aM ((by rw [hg]; exact (below_size (by repeat (with_reducible first | exact HB.out | apply bA | apply bN | apply bD))) : w.heap.size ≤ gb782)); clear HO_3 HB; have HO_3 := n0_; have HB := n1_; have BK782 := n2_; have GW782 := n3_; have GE782 := n4_; clear n0_ n1_ n2_ n3_ n4_ hb hbox hg; have hcz7_0 : w6.cell? ⟨gb782, 0, none⟩ = some (.string (⟨#[]⟩ : ByteArray)) := (blk_cell BK782.out 0).trans rfl; have hcz7_1 : w6.cell? ⟨gb782, 1, none⟩ = some (.bool false) := (blk_cell BK782.out 1).trans rfl; have hcz7_2 : w6.cell? ⟨gb782, 2, none⟩ = some (.slice none 0 0) := (blk_cell BK782.out 2).trans rfl; have hfz7_0 := blk_frozen BK782.out 0; have hfz7_1 := blk_frozen BK782.out 1; have hfz7_2 := blk_frozen BK782.out 2) | ((with_reducible refine gate_callee (f := 68) rfl ?_); refine goesL_ (some 15) rfl rfl Try.func68 (by kernel_rfl) rfl #[.agg #[.string ((rd_T30 l0 x10_1).f0), .bool ((rd_T30 l0 x10_1).f1), .slice A781_2 ((rd_T30 l0 x10_1).f2).length c781_2]] rfl (by (try simp only [List.map_toArray, List.map_cons, List.map_nil]); first | done | rfl) ?_; (with_reducible refine (impl_Fun_refs.calls k1 ((rd_T30 l0 x10_1).f0) ((rd_T30 l0 x10_1).f1) _ _ ((rd_T30 l0 x10_1).f2) t783 _ ?side1 ?side2 A5.out).mono ?_); (case side1 => exact Kd.C_below HR781_2.out (by repeat (with_reducible first | exact HB.out | apply bA | apply bN | apply bD | refine below_set ?_ GE782.out))); (case side2 => exact HC781_2.out); rintro e w8 ⟨v784, rfl, ho0, hb⟩; refine ⟨_, rfl, ?_⟩; have n0_ := aM (Kd.R_elder' (by (with_reducible repeat (first | apply Ra | apply Rn | apply Rd)); exact (Kd.R_mono (Kd.R_far (p := ⟨gb782, 2, none⟩) (Kd.R_far (p := ⟨gb782, 1, none⟩) (Kd.R_far (p := ⟨gb782, 0, none⟩) (Kd.R_types HO_3.out BK782.out (by decide)) (fun _ hk => hk.2) (.string ((rd_T30 l0 x10_1).f0))) (fun _ hk => hk.2) (.bool ((rd_T30 l0 x10_1).f1))) (fun _ hk => hk.2) (.slice A781_2 ((rd_T30 l0 x10_1).f2).length c781_2)) (fun _ h_ => h_.1))) (Kd.R_base ho0) hb); have n1_ := aM (Kd.R_lower (Kd.R_new' ho0 (Kd.R_lt (by (with_reducible repeat (first | apply Ra | apply Rn | apply Rd)); exact (Kd.R_mono (Kd.R_far (p := ⟨gb782, 2, none⟩) (Kd.R_far (p := ⟨gb782, 1, none⟩) (Kd.R_far (p := ⟨gb782, 0, none⟩) (Kd.R_types HO_3.out BK782.out (by decide)) (fun _ hk => hk.2) (.string ((rd_T30 l0 x10_1).f0))) (fun _ hk => hk.2) (.bool ((rd_T30 l0 x10_1).f1))) (fun _ hk => hk.2) (.slice A781_2 ((rd_T30 l0 x10_1).f2).length c781_2)) (fun _ h_ => h_.1))))) (below_size (by repeat (with_reducible first | exact HB.out | apply bA | apply bN | apply bD | refine below_set ?_ GE782.out)))); have n2_ := aM (blk_below (g := gb782) (o := .cells #[.string ((rd_T30 l0 x10_1).f0), .bool ((rd_T30 l0 x10_1).f1), .slice A781_2 ((rd_T30 l0 x10_1).f2).length c781_2] 30 (0, 0)) (by refine blk_put (cs := #[.string ((rd_T30 l0 x10_1).f0), .bool ((rd_T30 l0 x10_1).f1), .slice none 0 0]) ?_ 2 _ rfl; refine blk_put (cs := #[.string ((rd_T30 l0 x10_1).f0), .bool false, .slice none 0 0]) ?_ 1 _ rfl; refine blk_put (cs := #[.string (⟨#[]⟩ : ByteArray), .bool false, .slice none 0 0]) ?_ 0 _ rfl; exact BK782.out) hb); have n3_ := aM (below_step (by repeat (with_reducible first | exact HB.out | apply bA | apply bN | apply bD | refine below_set ?_ GE782.out)) hb); clear HO_3 BK782 HB; have HO_3 := n0_; have HO785 := n1_; have BK782 := n2_; have HB := n3_; clear n0_ n1_ n2_ n3_; (try clear ho0); obtain ⟨Ao9, co9, eo9⟩ := Kd.R_slice HO785.out; subst eo9))
       go_loopg [3, 17] k1 (fun kq v3 v17 w' => ∃ (x3_2 : List ByteArray) (x17_2 : Int), v17 = .int .i64 x17_2 ∧ Aside0 (impl_lacking.l1 kq l0 x3_2 l0 (l0.length : Int) x10_1 t783 (t783.length : Int) x17_2 = some r) ∧ Aside0 (kq ≤ k1) ∧ Aside0 (Kd.R Kd.string 9 w' w.heap.size (fun k_ => some k_ ≠ ((.slice Ao9 t783.length co9) : Value).ownBlock) v3 x3_2) ∧ Aside0 (Kd.R Kd.string 9 w' w.heap.size (fun k_ => some k_ ≠ (v3 : Value).ownBlock) (.slice Ao9 t783.length co9) t783) ∧ Aside0 (w'.heap[gb782]? = some (.cells #[.string ((rd_T30 l0 x10_1).f0), .bool ((rd_T30 l0 x10_1).f1), (.slice A781_2 ((rd_T30 l0 x10_1).f2).length c781_2)] 30 (0, 0))) ∧ Aside0 (Below w.heap.size w w'))
       case atStart => exact ⟨(x3_1), (0), (by first | rfl | (simp; done) | (simp [*]; done)), H', ⟨Nat.le_refl _⟩, ⟨by (with_reducible repeat (first | apply Ra | apply Rn | apply Rd)); exact Kd.R_mono HO_3.out (fun _ hk => hk.2)⟩, ⟨by (with_reducible repeat (first | apply Ra | apply Rn | apply Rd)); exact Kd.R_mono HO785.out (fun _ hk => hk.2)⟩, ⟨by exact BK782.out⟩, ⟨by repeat (with_reducible first | exact HB.out | apply bA | apply bN | apply bD | refine below_set ?_ GE782.out)⟩⟩
       clear H'
       try clear c2; try clear c2b0; try clear p2; try clear c3; try clear c3b0; try clear c4; try clear c4b0; try clear c6; try clear c7; try clear p7; try clear q7; try clear hx7; try clear c8; try clear hcz7_0; try clear hcz7_1; try clear hcz7_2; try clear hfz7_0; try clear hfz7_1; try clear hfz7_2; try clear hx781_0; try clear hx781_1; try clear hx781_2; try clear p781; try clear q781
       obtain ⟨x3_2, x17_2, rfl, HA, HK2, HO_3, HO_15, BK782, HB⟩ := hrel
       obtain _ | k2 := gk
       · exact absurd HA.out (by simp [impl_lacking.l1])
       have H := HA.out
       clear HA
       simp only [impl_lacking.l1] at H
       by_cases c10 : x17_2 < (t783.length : Int)
       · rw [if_pos c10] at H
         have c10b0 : decide (x17_2 < (t783.length : Int)) = true := decide_eq_true c10
         clear c10
         by_cases c11 : 0 ≤ x17_2
         · rw [if_pos c11] at H
           have c11b0 : decide (0 ≤ x17_2) = true := decide_eq_true c11
           clear c11
           by_cases c12 : x17_2 < (t783.length : Int)
           · rw [if_pos c12] at H
             have c12b0 : decide (x17_2 < (t783.length : Int)) = true := decide_eq_true c12
             clear c12
             replace H := Option.bind_eq_some_iff.mp H
             obtain ⟨t787, A130, H⟩ := H
             replace H : (if t787 < 0 then (if x3_2.length < 8796093022208 then (impl_lacking.l1 k2 l0 (x3_2 ++ [rdOf ByteArray.empty t783 x17_2]) l0 (l0.length : Int) x10_1 t783 (t783.length : Int) (wrap64 (x17_2 + 1))) else (none)) else (impl_lacking.l1 k2 l0 x3_2 l0 (l0.length : Int) x10_1 t783 (t783.length : Int) (wrap64 (x17_2 + 1)))) = some r := H
             have A13 := aM A130; clear A130
             by_cases c14 : t787 < 0
             · rw [if_pos c14] at H
               have c14b0 : decide (t787 < 0) = true := decide_eq_true c14
               clear c14
               by_cases c15 : x3_2.length < 8796093022208
               · rw [if_pos c15] at H; have LMc15 := aM c15; clear c15
                 obtain ⟨y788, hy788⟩ : ∃ y_ : List ByteArray, y_ = (x3_2 ++ [rdOf ByteArray.empty t783 x17_2]) := ⟨_, rfl⟩
                 replace H : (impl_lacking.l1 k2 l0 y788 l0 (l0.length : Int) x10_1 t783 (t783.length : Int) (wrap64 (x17_2 + 1))) = some r := by first | (rw [hy788]; with_reducible exact H) | (have H2_ := (Option.bind_some _ _).symm.trans H; rw [hy788]; with_reducible exact H2_) | (have H2_ := (Option.bind_some _ _).symm.trans H; with_reducible exact H2_) | with_reducible exact H | (rw [hy788]; exact H) | exact H
                 have Ny788 := aM hy788; clear hy788
                 have H' := aM H
                 clear H
                 have p786 : 0 ≤ (x17_2 : Int) := oD (by first | with_reducible assumption | assumption)
                 have q786 : x17_2 < (t783.length : Int) := oD (by first | with_reducible assumption | assumption)
                 obtain ⟨ad786, e786, hx786_0⟩ := Kd.at_string (Kd.R_reads' HO_15.out).2.2 x17_2 p786 q786
                 cases e786
                 replace p786 := eq_true p786; replace q786 := eq_true q786
                 go_wp2_with (first | ((with_reducible refine gate_callee (f := 65) rfl ?_); refine goesL_ (some 23) rfl rfl Try.func65 (by kernel_rfl) rfl #[.slice (some ad781) l0.length c0, .string (rdOf ByteArray.empty t783 x17_2)] rfl (by (try simp only [List.map_toArray, List.map_cons, List.map_nil]); first | done | rfl) ?_; (with_reducible refine (impl_find.calls _ _ l0 (rdOf ByteArray.empty t783 x17_2) t787 _ ?side1 ?side2 A13.out).mono ?_); (case side1 => repeat (first | exact (Kd.C_below HR0.out HB.out) | (with_reducible first | refine Ca ?_ _ | refine Cn ?_ _ | refine Cd ?_))); (case side2 => exact HC0.out); rintro e w16 ⟨rfl, hb⟩; refine ⟨_, rfl, ?_⟩; have n0_ := aM (Kd.R_below (by (with_reducible repeat (first | apply Ra | apply Rn | apply Rd)); exact HO_3.out) hb); have n1_ := aM (Kd.R_below (by (with_reducible repeat (first | apply Ra | apply Rn | apply Rd)); exact HO_15.out) hb); have n2_ := aM (blk_below (g := gb782) (o := .cells #[.string ((rd_T30 l0 x10_1).f0), .bool ((rd_T30 l0 x10_1).f1), .slice A781_2 ((rd_T30 l0 x10_1).f2).length c781_2] 30 (0, 0)) (by exact BK782.out) hb); have n3_ := aM (below_step (by repeat (with_reducible first | exact HB.out | apply bA | apply bN | apply bD | refine below_set ?_ GE782.out)) hb); clear HO_3 HO_15 BK782 HB; have HO_3 := n0_; have HO_15 := n1_; have BK782 := n2_; have HB := n3_; clear n0_ n1_ n2_ n3_) | ((with_reducible refine gate_builtin (b := .append) (xs := #[.tmp 25, .tmp 27]) rfl ?_); at_builtin; refine Kd.R_append Kd.string (w0 := w) w.heap.size rfl (.tmp 25) (.tmp 27) 33 9 (.string ⟨#[]⟩) 16 rfl Try.underlying33 info9 rfl (by decide) (by omega) u3 x3_2 (rdOf ByteArray.empty t783 x17_2) [.string (rdOf ByteArray.empty t783 x17_2)] (fun k_ => some k_ ≠ (.slice (some ad786) t783.length co9 : Value).ownBlock) (fun _ => False) rfl rfl ?aP (fun _ hk => hk.elim) ?aF ?aO ?aB ?aS ?aL ?_; (case aP => exact rfl); (case aB => exact (by repeat (with_reducible first | exact HB.out | apply bA | apply bN | apply bD | refine below_set ?_ GE782.out))); (case aF => exact (fun k_ hk => Kd.fresh' (Kd.R_lt (by (with_reducible repeat (first | apply Ra | apply Rn | apply Rd)); exact HO_15.out)) k_ hk)); (case aO => exact (by (with_reducible repeat (first | apply Ra | apply Rn | apply Rd)); exact HO_3.out)); (case aS => exact (below_size (by repeat (with_reducible first | exact HB.out | apply bA | apply bN | apply bD | refine below_set ?_ GE782.out)))); (case aL => have := LMc15.out; omega); intro v789 w17 ho hb hg hat; rw [← Ny788.out] at ho; have n0_ := aM (Kd.R_after (ok := (fun _ => True)) (by (with_reducible repeat (first | apply Ra | apply Rn | apply Rd)); exact Kd.R_mono HO_15.out (fun _ hk => ⟨trivial, hk⟩)) hg hat); have n1_ := aM (blk_grown (g := gb782) (o := .cells #[.string ((rd_T30 l0 x10_1).f0), .bool ((rd_T30 l0 x10_1).f1), .slice A781_2 ((rd_T30 l0 x10_1).f2).length c781_2] 30 (0, 0)) (by exact BK782.out) hg (Kd.R_ne HO_3.out BK782.out (by decide))); have n2_ := aM (hb); have n3_ := aM (ho); clear HO_15 BK782 HB HO_3; have HO_15 := n0_; have BK782 := n1_; have HB := n2_; have HO790 := n3_; clear n0_ n1_ n2_ n3_ ho hb hg hat))
                 go_roundg k2
                 case measure => have := HK1.out; have := HK2.out; omega
                 case rel => exact ⟨(y788), (wrap64 (x17_2 + 1)), (by first | rfl | (simp; done) | (simp [*]; done)), H', ⟨by have := HK1.out; have := HK2.out; omega⟩, ⟨by (with_reducible repeat (first | apply Ra | apply Rn | apply Rd)); exact HO790.out⟩, ⟨by (with_reducible repeat (first | apply Ra | apply Rn | apply Rd)); exact Kd.R_mono HO_15.out (fun _ hk => hk.2)⟩, ⟨by exact BK782.out⟩, ⟨by repeat (with_reducible first | exact HB.out | apply bA | apply bN | apply bD | refine below_set ?_ GE782.out)⟩⟩
               rw [if_neg c15] at H
               exact absurd H (by simp)
             rw [if_neg c14] at H
             have c14b0 : decide (t787 < 0) = false := decide_eq_false c14
             clear c14
             have H' := aM H
             clear H
             have p786 : 0 ≤ (x17_2 : Int) := oD (by first | with_reducible assumption | assumption)
             have q786 : x17_2 < (t783.length : Int) := oD (by first | with_reducible assumption | assumption)
             obtain ⟨ad786, e786, hx786_0⟩ := Kd.at_string (Kd.R_reads' HO_15.out).2.2 x17_2 p786 q786
             cases e786
             replace p786 := eq_true p786; replace q786 := eq_true q786
             go_wp2_with (first | ((with_reducible refine gate_callee (f := 65) rfl ?_); refine goesL_ (some 23) rfl rfl Try.func65 (by kernel_rfl) rfl #[.slice (some ad781) l0.length c0, .string (rdOf ByteArray.empty t783 x17_2)] rfl (by (try simp only [List.map_toArray, List.map_cons, List.map_nil]); first | done | rfl) ?_; (with_reducible refine (impl_find.calls _ _ l0 (rdOf ByteArray.empty t783 x17_2) t787 _ ?side1 ?side2 A13.out).mono ?_); (case side1 => repeat (first | exact (Kd.C_below HR0.out HB.out) | (with_reducible first | refine Ca ?_ _ | refine Cn ?_ _ | refine Cd ?_))); (case side2 => exact HC0.out); rintro e w18 ⟨rfl, hb⟩; refine ⟨_, rfl, ?_⟩; have n0_ := aM (Kd.R_below (by (with_reducible repeat (first | apply Ra | apply Rn | apply Rd)); exact HO_3.out) hb); have n1_ := aM (Kd.R_below (by (with_reducible repeat (first | apply Ra | apply Rn | apply Rd)); exact HO_15.out) hb); have n2_ := aM (blk_below (g := gb782) (o := .cells #[.string ((rd_T30 l0 x10_1).f0), .bool ((rd_T30 l0 x10_1).f1), .slice A781_2 ((rd_T30 l0 x10_1).f2).length c781_2] 30 (0, 0)) (by exact BK782.out) hb); have n3_ := aM (below_step (by repeat (with_reducible first | exact HB.out | apply bA | apply bN | apply bD | refine below_set ?_ GE782.out)) hb); clear HO_3 HO_15 BK782 HB; have HO_3 := n0_; have HO_15 := n1_; have BK782 := n2_; have HB := n3_; clear n0_ n1_ n2_ n3_))
             go_roundg k2
             case measure => have := HK1.out; have := HK2.out; omega
             case rel => exact ⟨(x3_2), (wrap64 (x17_2 + 1)), (by first | rfl | (simp; done) | (simp [*]; done)), H', ⟨by have := HK1.out; have := HK2.out; omega⟩, ⟨by (with_reducible repeat (first | apply Ra | apply Rn | apply Rd)); exact HO_3.out⟩, ⟨by (with_reducible repeat (first | apply Ra | apply Rn | apply Rd)); exact HO_15.out⟩, ⟨by exact BK782.out⟩, ⟨by repeat (with_reducible first | exact HB.out | apply bA | apply bN | apply bD | refine below_set ?_ GE782.out)⟩⟩
           rw [if_neg c12] at H
           exact absurd H (by simp)
         rw [if_neg c11] at H
         exact absurd H (by simp)
       rw [if_neg c10] at H
       have c10b0 : decide (x17_2 < (t783.length : Int)) = false := decide_eq_false c10
       clear c10
       have H' := aM H
       clear H
       go_wp2
       go_roundg k2
       case measure => have := HK1.out; have := HK2.out; omega
       case rel => exact ⟨(x3_2), (wrap64 (x10_1 + 1)), (by first | rfl | (simp; done) | (simp [*]; done)), H', ⟨by have := HK1.out; have := HK2.out; omega⟩, ⟨by (with_reducible repeat (first | apply Ra | apply Rn | apply Rd)); exact Kd.R_mono HO_3.out (fun _ hk => trivial)⟩, ⟨by repeat (with_reducible first | exact HB.out | apply bA | apply bN | apply bD | refine below_set ?_ GE782.out)⟩⟩
     rw [if_neg c4] at H
     exact absurd H (by simp)
   rw [if_neg c3] at H
   exact absurd H (by simp)
 rw [if_neg c2] at H
 have c2b0 : decide (x10_1 < (l0.length : Int)) = false := decide_eq_false c2
 clear c2
 replace H := Option.bind_eq_some_iff.mp H
 obtain ⟨t778, A190, H⟩ := H
 replace H : (some t778) = some r := H
 have A19 := aM A190; clear A190
 obtain rfl := Option.some.inj H
 obtain ⟨Ao20, co20, eo20⟩ := Kd.R_slice HO_3.out
 subst eo20
 go_wp2_with (first | ((with_reducible refine gate_callee (f := 126) rfl ?_); refine goesL_ (some 32) rfl rfl Try.func126 (by kernel_rfl) rfl #[.slice Ao20 x3_1.length co20] rfl (by (try simp only [List.map_toArray, List.map_cons, List.map_nil]); first | done | rfl) ?_; (with_reducible refine (impl_ordered.calls (fun k_ => some k_ = (.slice Ao20 x3_1.length co20 : Value).ownBlock) (.slice Ao20 x3_1.length co20) x3_1 t778 w _ ?side1 ?side2 A19.out).mono ?_); (case side1 => repeat (with_reducible first | exact HB.out | apply bA | apply bN | apply bD)); (case side2 => exact Kd.R_tight rfl HO_3.out); rintro e w21 ⟨v779, rfl, ho0, hb, hkp⟩; refine ⟨_, rfl, ?_⟩; have n0_ := aM (Kd.R_mono (ok' := fun k_ => True) ho0 (fun k_ hk_ => trivial)); have n1_ := aM (hb); clear HB HO_3; have HO780 := n0_; have HB := n1_; clear n0_ n1_; (try clear hkp); (try clear ho0)))
 go_ret
 exact ⟨_, by first | rfl | (simp [*, errW_none, errW_some] <;> rfl), by (with_reducible repeat (first | apply Ra | apply Rn | apply Rd)); exact HO780.out, by repeat (with_reducible first | exact HB.out | apply bA | apply bN | apply bD)⟩
theorem concat_heapI : Kd.Heap k38 := Kd.heap_iso _ (Kd.heap_pair (Kd.heap_int .i64) (Kd.heap_pair (Kd.heap_int .i64) Kd.heap_string))
theorem concat_heap : Kd.Heap k30 := Kd.heap_iso _ (Kd.heap_pair Kd.heap_string (Kd.heap_pair Kd.heap_bool (Kd.heap_slice 38 concat_heapI)))
open Go.Proofs.Ytpckkkcaffhhnaa.L in
theorem flat_take {α : Type} (l : List (List α)) (i : Nat) (h : i < l.length) : (l.take (i + 1)).flatten = (l.take i).flatten ++ l.getD i [] := by
  rw [take_succ_getD l [] i h]
  simp
theorem flat_take_le {α : Type} (l : List (List α)) (i : Nat) : (l.take i).flatten.length ≤ l.flatten.length := by
  have h : l.flatten = (l.take i).flatten ++ (l.drop i).flatten := by rw [← List.flatten_append, List.take_append_drop]
  rw [h, List.length_append]
  omega
open Go.Proofs.Ytpckkkcaffhhnaa.L in
set_option maxHeartbeats 4000000 in
set_option maxRecDepth 100000 in
theorem grow_calls (n : Int) (h0 : 0 ≤ n) (h1 : n ≤ 1000000) (w : World) :
    Calls Try.prog 124 #[.slice none 0 0, .int .i64 n] w fun e w' => ∃ v : Value, e = .returned v ∧ Kd.N k30 30 w' w.heap.size (fun _ => True) v [] ∧ Below w.heap.size w w' := by
  by_cases hz : n = 0
  · subst hz
    go_enter Try.func124, Try.ntmps124
    go_wp2
    go_ret
    exact ⟨_, rfl, Kd.N_nil _ _ _ _ _, Below.refl _ _⟩
  · have hneg : decide (n < 0) = false := decide_eq_false (by omega)
    have hpos : decide (n > 0) = true := decide_eq_true (by omega)
    have hpos2 : decide (0 < n) = true := decide_eq_true (by omega)
    have hge : decide (0 ≤ n) = true := decide_eq_true (by omega)
    have hw : wrap64 n = n := wrap_id (by omega) (by omega)
    have HZ := aM (And.intro h0 h1)
    have HWN := aM hw
    clear hz h0 h1
    go_enter Try.func124, Try.ntmps124
    go_wp2_with ((with_reducible refine gate_builtin (b := .append) (xs := #[.tmp 20, .tmp 21]) rfl ?_); at_builtin; refine Kd.N_append_zeros k30 (w0 := w) w.heap.size rfl (.tmp 20) (.tmp 21) 23 3 30 (.agg #[(.string ⟨#[]⟩), (.bool false), (.slice none 0 0)]) 48 rfl Try.underlying23 Try.underlying3 info30 rfl (by decide) (by omega) (.slice none 0 0) [] z30 (kx := .i64) (wrap64 n) (fun _ => True) rfl rfl ?aZ (fun _ _ => trivial) ?aO ?a0 ?aB ?aS ?aL ?_; (case aZ => exact fun W' _ => (k30).K_of_M (k30_mkM W' 0 (fun _ => False) z30 (Kd.R_nil _ _ _ _ _))); (case aO => exact Kd.N_nil _ _ _ _ _); (case a0 => rw [HWN.out]; exact HZ.out.1); (case aB => exact Below.refl _ _); (case aS => exact Nat.le_refl _); (case aL => rw [HWN.out]; have := HZ.out; simp only [List.length_nil]; omega); intro v1 w1 hN hb hg hat; obtain ⟨A1, c1, e1⟩ := Kd.N_slice hN; subst e1; have HN1 := aM hN; have HB1 := aM hb; clear hN hb hg hat)
    go_ret
    exact ⟨_, rfl, Kd.N_take HN1.out (Nat.zero_le _), HB1.out⟩
open Go.Proofs.Ytpckkkcaffhhnaa.L in
set_option maxHeartbeats 8000000 in
set_option maxRecDepth 100000 in
theorem concat_calls (A0 : Option Addr) (c0 : Nat) (l0 : List (List S30)) (w : World) (hr0 : Kd.C (Kd.slice 30 k30) w A0 l0.length l0) (hc0 : l0.length ≤ c0) (hsz : l0.flatten.length ≤ 1000) :
    Calls Try.prog 86 #[.slice A0 l0.length c0] w fun e w' => ∃ (A : Option Addr) (c : Nat), e = .returned (.slice A l0.flatten.length c) ∧ l0.flatten.length ≤ c ∧ Kd.C k30 w' A l0.flatten.length l0.flatten ∧ Below w.heap.size w w' := by
  have HR0 := aM hr0
  have HN : l0.length ≤ 9223372036854775807 := hr0.2.1
  have HZ := aM hsz
  obtain ⟨fl, hfl⟩ : ∃ fl, fl = l0.flatten := ⟨_, rfl⟩
  rw [← hfl]
  have HFL0 := aM hfl
  clear hr0 hsz hfl
  go_enter Try.func86, Try.ntmps86
  go_wp2
  go_loopg [3, 11] l0.length (fun gq v3 v11 wr => ∃ (x11 : Int) (q : Nat), v11 = .int .i64 x11 ∧ v3 = .int .i64 (q : Int) ∧ Aside0 (q = (l0.take x11.toNat).flatten.length) ∧ Aside0 (0 ≤ x11) ∧ Aside0 (x11 ≤ l0.length) ∧ Aside0 (l0.length - x11.toNat ≤ gq) ∧ Aside0 (Below w.heap.size w wr))
  case atStart => exact ⟨0, 0, rfl, rfl, ⟨by simp⟩, ⟨by omega⟩, ⟨by omega⟩, ⟨by omega⟩, ⟨Below.refl _ _⟩⟩
  case round =>
    obtain ⟨x11, q, rfl, rfl, HQ, H0, H1, HG, HB⟩ := hrel
    by_cases hlt : x11 < (l0.length : Int)
    · have h0 := H0.out
      obtain ⟨ad, A2, c2, e, hx0, hl2, hi2⟩ := at_L13 HR0.out x11 h0 hlt
      cases e
      replace hx0 := (HB.out.cell (World.block_lt_of_cell? w _ hx0)).trans hx0
      have hnat : x11.toNat < l0.length := by omega
      have hfl := flat_take l0 x11.toNat hnat
      have hfe := flat_take_le l0 (x11.toNat + 1)
      have hgx : l0.getD x11.toNat [] = rd_L13 l0 x11 := rfl
      rw [hgx] at hfl
      have hfs : (l0.take (x11.toNat + 1)).flatten.length = (l0.take x11.toNat).flatten.length + (rd_L13 l0 x11).length := by rw [hfl, List.length_append]
      rw [← HQ.out] at hfs
      have HF := aM (And.intro hfs hfe)
      have hli : decide (x11 < (l0.length : Int)) = true := decide_eq_true hlt
      have hl0 : decide (0 ≤ x11) = true := decide_eq_true h0
      have p5 := eq_true h0
      have q5 := eq_true hlt
      have HNT := aM hnat
      clear h0 hlt hl2 hi2 hnat hfl hfe hgx hfs
      generalize (rd_L13 l0 x11).length = m at hx0 HF
      have hw1 : wrap64 ((q : Int) + (m : Int)) = (q : Int) + (m : Int) := wrap_id (by omega) (by have := HF.out; have := HZ.out; omega)
      have HW1 := aM hw1
      have hneg : decide ((q : Int) + (m : Int) < 0) = false := decide_eq_false (by omega)
      go_wp2
      go_roundg (l0.length - (x11.toNat + 1))
      case measure => have := HG.out; have := HNT.out; omega
      case rel =>
        have hn : (x11 + 1).toNat = x11.toNat + 1 := by have := H0.out; omega
        have hw13 : wrap64 (x11 + 1) = x11 + 1 := wrap_id (by have := H0.out; omega) (by have := HNT.out; omega)
        exact ⟨x11 + 1, q + m, by rw [hw13], by rw [HW1.out]; push_cast; rfl, ⟨by rw [hn, HF.out.1]⟩, ⟨by have := H0.out; omega⟩, ⟨by have := HNT.out; omega⟩, ⟨by rw [hn]; omega⟩, HB⟩
    · have hli : decide (x11 < (l0.length : Int)) = false := decide_eq_false hlt
      have e1 : l0.take x11.toNat = l0 := List.take_of_length_le (by omega)
      have hqz : q ≤ 1000 := by rw [HQ.out, e1]; exact HZ.out
      have HGR := aM (grow_calls (q : Int) (by omega) (by omega) wr)
      clear e1 hlt hqz
      go_wp2_with (go_at_call 124; refine HGR.out.mono ?_; rintro e w1 ⟨v1, rfl, hN, hb⟩; have HN1 := aM (Kd.N_lower hN (below_size HB.out)); have HB1 := aM (below_step HB.out hb); clear hN hb HB HGR)
      go_loopg [6, 27] l0.length (fun gq v6 v27 wq => ∃ x27 : Int, v27 = .int .i64 x27 ∧ Aside0 (0 ≤ x27) ∧ Aside0 (x27 ≤ l0.length) ∧ Aside0 (l0.length - x27.toNat ≤ gq) ∧ Aside0 (Kd.N k30 30 wq w.heap.size (fun _ => True) v6 ((l0.take x27.toNat).flatten)) ∧ Aside0 (Below w.heap.size w wq))
      case atStart => exact ⟨0, rfl, ⟨by omega⟩, ⟨by omega⟩, ⟨by omega⟩, ⟨by rw [show (l0.take (0 : Int).toNat).flatten = [] from by simp]; exact HN1.out⟩, HB1⟩
      case round =>
        obtain ⟨x27, rfl, H0, H1, HG, HNN, HB⟩ := hrel
        by_cases hlt : x27 < (l0.length : Int)
        · have h0 := H0.out
          obtain ⟨ad, A2, c2, e, hx0, hl2, hi2⟩ := at_L13 HR0.out x27 h0 hlt
          cases e
          replace hx0 := (HB.out.cell (World.block_lt_of_cell? w _ hx0)).trans hx0
          have hnat : x27.toNat < l0.length := by omega
          have hfl := flat_take l0 x27.toNat hnat
          have hfe := flat_take_le l0 (x27.toNat + 1)
          have hgx : l0.getD x27.toNat [] = rd_L13 l0 x27 := rfl
          rw [hgx] at hfl
          have HFL := aM (And.intro hfl (show (l0.take x27.toNat).flatten.length + (rd_L13 l0 x27).length ≤ 1000 from by rw [hfl, List.length_append] at hfe; have := HZ.out; omega))
          have HF2 := aM (Kd.F_below (Kd.C_F concat_heap hi2) HB.out)
          have hli : decide (x27 < (l0.length : Int)) = true := decide_eq_true hlt
          have hl0 : decide (0 ≤ x27) = true := decide_eq_true h0
          have p5 := eq_true h0
          have q5 := eq_true hlt
          have HNT := aM hnat
          clear h0 hlt hl2 hi2 hnat hfl hfe hgx
          generalize rd_L13 l0 x27 = ys at hx0 HFL HF2
          generalize hq : (l0.take x27.toNat).flatten = ns at HFL HNN
          have HQ := aM hq
          clear hq
          go_wp2_with ((with_reducible refine gate_builtin (b := .append) (xs := #[.tmp 31, .tmp 32]) rfl ?_); at_builtin; refine Kd.N_append_rows k30 (w0 := w) w.heap.size rfl (.tmp 31) (.tmp 32) 23 30 (.agg #[(.string ⟨#[]⟩), (.bool false), (.slice none 0 0)]) 48 rfl Try.underlying23 info30 rfl (by decide) (by omega) _ ns ys A2 ys.length c2 (fun _ => True) (fun k => k < w.heap.size) rfl rfl ?aO ?aR ?aK (fun _ _ => trivial) ?aB ?aS ?aL ?_; (case aO => exact HNN.out); (case aR => exact HF2.out); (case aK => exact fun k hk => ⟨trivial, fun he => by have := Kd.N_base HNN.out k he.symm; omega⟩); (case aB => exact HB.out); (case aS => exact below_size HB.out); (case aL => have := HFL.out.2; omega); intro v1 w1 hN hb hg hat; have HN2 := aM hN; have HB2 := aM hb; clear hN hb hg hat)
          go_roundg (l0.length - (x27.toNat + 1))
          case measure => have := HG.out; have := HNT.out; omega
          case rel =>
            have hn : (x27 + 1).toNat = x27.toNat + 1 := by have := H0.out; omega
            have hw13 : wrap64 (x27 + 1) = x27 + 1 := wrap_id (by have := H0.out; omega) (by have := HNT.out; omega)
            exact ⟨x27 + 1, by rw [hw13], ⟨by have := H0.out; omega⟩, ⟨by have := HNT.out; omega⟩, ⟨by rw [hn]; omega⟩, ⟨by rw [hn, HFL.out.1]; exact HN2.out⟩, HB2⟩
        · have hli : decide (x27 < (l0.length : Int)) = false := decide_eq_false hlt
          have e1 : l0.take x27.toNat = l0 := List.take_of_length_le (by omega)
          rw [e1, ← HFL0.out] at HNN
          obtain ⟨A6, c6, e6⟩ := Kd.N_slice HNN.out
          subst e6
          clear e1 hlt
          go_wp2
          go_ret
          exact ⟨A6, c6, rfl, (Kd.N_reads' HNN.out).2.1, (Kd.N_reads' HNN.out).2.2, HB.out⟩
def slices_Concat_simpl_Fun_impl_Fun.f (l0 : List (List S30)) : Option (List S30) := if l0.flatten.length ≤ 1000 then some l0.flatten else none
def impl_PickWants.f (k : Nat) (l0 : List (List (S30))) : Option (List ByteArray) := (impl_unitsOk.f l0 8).bind fun t892 => (if t892 = true then ((slices_Concat_simpl_Fun_impl_Fun.f l0).bind fun t893 => ((impl_lacking.f k t893).bind fun t896 => (some t896))) else (some ([] : List ByteArray)))
set_option maxHeartbeats 8000000 in
set_option maxRecDepth 100000 in
theorem impl_PickWants.calls (k : Nat) (A0 : Option Addr) (c0 : Nat) (l0 : List (List (S30))) (r : List ByteArray) (w : World) (hr0 : Kd.C (Kd.slice 30 k30) w A0 l0.length l0) (hc0 : l0.length ≤ c0) (h : impl_PickWants.f k l0 = some r) :
    Calls Try.prog 40 #[.slice A0 l0.length c0] w fun e w' => ∃ v0_ : Value, e = .returned (v0_) ∧ Kd.R Kd.string 9 w' w.heap.size (fun _ => True) v0_ r ∧ Below w.heap.size w w' := by
 have HR0 := aM hr0; have HC0 := aM hc0; clear hr0 hc0
 have HB := aM (Below.refl w.heap.size w)
 have H : ((impl_unitsOk.f l0 8).bind fun t892 => (if t892 = true then ((slices_Concat_simpl_Fun_impl_Fun.f l0).bind fun t893 => ((impl_lacking.f k t893).bind fun t896 => (some t896))) else (some ([] : List ByteArray)))) = some r := h
 clear h
 replace H := Option.bind_eq_some_iff.mp H
 obtain ⟨t892, A20, H⟩ := H
 replace H : (if t892 = true then ((slices_Concat_simpl_Fun_impl_Fun.f l0).bind fun t893 => ((impl_lacking.f k t893).bind fun t896 => (some t896))) else (some ([] : List ByteArray))) = some r := H
 have A2 := aM A20; clear A20
 by_cases c3 : t892 = true
 · subst c3
   have H1 : ((slices_Concat_simpl_Fun_impl_Fun.f l0).bind fun t893 => ((impl_lacking.f k t893).bind fun t896 => (some t896))) = some r := by rw [if_pos rfl] at H; exact H
   clear H
   have H := H1
   clear H1
   replace H := Option.bind_eq_some_iff.mp H
   obtain ⟨t893, A40, H⟩ := H
   replace H : ((impl_lacking.f k t893).bind fun t896 => (some t896)) = some r := H
   have A4 := aM A40; clear A40
   have hcc_ : l0.flatten.length ≤ 1000 ∧ l0.flatten = t893 := by
     have h_ := A4.out
     unfold slices_Concat_simpl_Fun_impl_Fun.f at h_
     by_cases hz_ : l0.flatten.length ≤ 1000
     · rw [if_pos hz_] at h_; exact ⟨hz_, Option.some.inj h_⟩
     · rw [if_neg hz_] at h_; exact absurd h_ (by simp)
   have HFL := aM hcc_.1
   obtain ⟨_, rfl⟩ := hcc_
   replace H := Option.bind_eq_some_iff.mp H
   obtain ⟨t896, A50, H⟩ := H
   replace H : (some t896) = some r := H
   have A5 := aM A50; clear A50
   obtain rfl := Option.some.inj H
   go_enter Try.func40, Try.ntmps40
   go_wp2_with (first | ((with_reducible refine gate_callee (f := 82) rfl ?_); refine goesL_ (some 4) rfl rfl Try.func82 (by kernel_rfl) rfl #[.slice A0 l0.length c0, .int .i64 8] rfl (by (try simp only [List.map_toArray, List.map_cons, List.map_nil]); first | done | rfl) ?_; (with_reducible refine (impl_unitsOk.calls _ _ l0 8 true _ ?side1 ?side2 A2.out).mono ?_); (case side1 => repeat (first | exact HR0.out | (with_reducible first | refine Ca ?_ _ | refine Cn ?_ _ | refine Cd ?_))); (case side2 => exact HC0.out); rintro e w6 ⟨rfl, hb⟩; refine ⟨_, rfl, ?_⟩; have n0_ := aM (below_step (by repeat (with_reducible first | exact HB.out | apply bA | apply bN | apply bD)) hb); clear HB; have HB := n0_; clear n0_) | ((with_reducible refine gate_callee (f := 86) rfl ?_); refine goesL_ (some 7) rfl rfl Try.func86 (by kernel_rfl) rfl #[.slice A0 l0.length c0] rfl (by (try simp only [List.map_toArray, List.map_cons, List.map_nil]); first | done | rfl) ?_; (with_reducible refine (concat_calls _ _ l0 _ ?side1 ?side2 ?side3).mono ?_); (case side1 => repeat (first | exact (Kd.C_below HR0.out HB.out) | (with_reducible first | refine Ca ?_ _ | refine Cn ?_ _ | refine Cd ?_))); (case side2 => exact HC0.out); (case side3 => exact HFL.out); rintro e w7 ⟨Ao8, co8, rfl, hlc, hcc, hb⟩; refine ⟨_, rfl, ?_⟩; have HX := aM hcc; have HL := aM hlc; have n1_ := aM (below_step (by repeat (with_reducible first | exact HB.out | apply bA | apply bN | apply bD)) hb); clear HB; have HB := n1_; clear n1_ hlc hcc) | ((with_reducible refine gate_callee (f := 89) rfl ?_); refine goesL_ (some 8) rfl rfl Try.func89 (by kernel_rfl) rfl #[.slice Ao8 l0.flatten.length co8] rfl (by (try simp only [List.map_toArray, List.map_cons, List.map_nil]); first | done | rfl) ?_; (with_reducible refine (impl_lacking.calls k _ _ l0.flatten t896 _ ?side1 ?side2 A5.out).mono ?_); (case side1 => repeat (first | exact HX.out | (with_reducible first | refine Ca ?_ _ | refine Cn ?_ _ | refine Cd ?_))); (case side2 => exact HL.out); rintro e w9 ⟨v897, rfl, ho0, hb⟩; refine ⟨_, rfl, ?_⟩; have n1_ := aM (Kd.R_lower ho0 (below_size (by repeat (with_reducible first | exact HB.out | apply bA | apply bN | apply bD)))); have n2_ := aM (below_step (by repeat (with_reducible first | exact HB.out | apply bA | apply bN | apply bD)) hb); clear HB; have HO898 := n1_; have HB := n2_; clear n1_ n2_; (try clear ho0)))
   go_ret
   exact ⟨_, by first | rfl | (simp [*, errW_none, errW_some] <;> rfl), by (with_reducible repeat (first | apply Ra | apply Rn | apply Rd)); exact HO898.out, by repeat (with_reducible first | exact HB.out | apply bA | apply bN | apply bD)⟩
 replace c3 := Bool.eq_false_iff.mpr c3
 subst c3
 have H1 : (some ([] : List ByteArray)) = some r := by rw [if_neg (show ¬ (false = true) by decide)] at H; exact H
 clear H
 have H := H1
 clear H1
 obtain rfl := Option.some.inj H
 go_enter Try.func40, Try.ntmps40
 go_wp2_with (first | ((with_reducible refine gate_callee (f := 82) rfl ?_); refine goesL_ (some 4) rfl rfl Try.func82 (by kernel_rfl) rfl #[.slice A0 l0.length c0, .int .i64 8] rfl (by (try simp only [List.map_toArray, List.map_cons, List.map_nil]); first | done | rfl) ?_; (with_reducible refine (impl_unitsOk.calls _ _ l0 8 false _ ?side1 ?side2 A2.out).mono ?_); (case side1 => repeat (first | exact HR0.out | (with_reducible first | refine Ca ?_ _ | refine Cn ?_ _ | refine Cd ?_))); (case side2 => exact HC0.out); rintro e w10 ⟨rfl, hb⟩; refine ⟨_, rfl, ?_⟩; have n0_ := aM (below_step (by repeat (with_reducible first | exact HB.out | apply bA | apply bN | apply bD)) hb); clear HB; have HB := n0_; clear n0_))
 go_ret
 exact ⟨_, by first | rfl | (simp [*, errW_none, errW_some] <;> rfl), by first | exact Kd.R_nil _ _ _ _ _ | exact Kd.N_nil _ _ _ _ _ | exact Kd.V_nil _ _ _ _ _ | exact Kd.Q_nil _ _ _ _ _ | exact Kd.S_nil _ _ _ _ _, by repeat (with_reducible first | exact HB.out | apply bA | apply bN | apply bD)⟩
def impl_UnitWants.f (k : Nat) (l0 : List (S30)) : Option (List ByteArray) := (impl_UnitOk.f k l0).bind fun t791 => (if t791 = true then ((impl_lacking.f k l0).bind fun t792 => (some t792)) else (some ([] : List ByteArray)))
set_option maxHeartbeats 8000000 in
set_option maxRecDepth 100000 in
theorem impl_UnitWants.calls (k : Nat) (A0 : Option Addr) (c0 : Nat) (l0 : List (S30)) (r : List ByteArray) (w : World) (hr0 : Kd.C k30 w A0 l0.length l0) (hc0 : l0.length ≤ c0) (h : impl_UnitWants.f k l0 = some r) :
    Calls Try.prog 37 #[.slice A0 l0.length c0] w fun e w' => ∃ v0_ : Value, e = .returned (v0_) ∧ Kd.R Kd.string 9 w' w.heap.size (fun _ => True) v0_ r ∧ Below w.heap.size w w' := by
 have HR0 := aM hr0; have HC0 := aM hc0; clear hr0 hc0
 have HB := aM (Below.refl w.heap.size w)
 have H : ((impl_UnitOk.f k l0).bind fun t791 => (if t791 = true then ((impl_lacking.f k l0).bind fun t792 => (some t792)) else (some ([] : List ByteArray)))) = some r := h
 clear h
 replace H := Option.bind_eq_some_iff.mp H
 obtain ⟨t791, A20, H⟩ := H
 replace H : (if t791 = true then ((impl_lacking.f k l0).bind fun t792 => (some t792)) else (some ([] : List ByteArray))) = some r := H
 have A2 := aM A20; clear A20
 by_cases c3 : t791 = true
 · subst c3
   have H1 : ((impl_lacking.f k l0).bind fun t792 => (some t792)) = some r := by rw [if_pos rfl] at H; exact H
   clear H
   have H := H1
   clear H1
   replace H := Option.bind_eq_some_iff.mp H
   obtain ⟨t792, A40, H⟩ := H
   replace H : (some t792) = some r := H
   have A4 := aM A40; clear A40
   obtain rfl := Option.some.inj H
   go_enter Try.func37, Try.ntmps37
   go_wp2_with (first | ((with_reducible refine gate_callee (f := 64) rfl ?_); refine goesL_ (some 4) rfl rfl Try.func64 (by kernel_rfl) rfl #[.slice A0 l0.length c0] rfl (by (try simp only [List.map_toArray, List.map_cons, List.map_nil]); first | done | rfl) ?_; (with_reducible refine (impl_UnitOk.calls k _ _ l0 true _ ?side1 ?side2 A2.out).mono ?_); (case side1 => repeat (first | exact HR0.out | (with_reducible first | refine Ca ?_ _ | refine Cn ?_ _ | refine Cd ?_))); (case side2 => exact HC0.out); rintro e w5 ⟨rfl, hb⟩; refine ⟨_, rfl, ?_⟩; have n0_ := aM (below_step (by repeat (with_reducible first | exact HB.out | apply bA | apply bN | apply bD)) hb); clear HB; have HB := n0_; clear n0_) | ((with_reducible refine gate_callee (f := 89) rfl ?_); refine goesL_ (some 7) rfl rfl Try.func89 (by kernel_rfl) rfl #[.slice A0 l0.length c0] rfl (by (try simp only [List.map_toArray, List.map_cons, List.map_nil]); first | done | rfl) ?_; (with_reducible refine (impl_lacking.calls k _ _ l0 t792 _ ?side1 ?side2 A4.out).mono ?_); (case side1 => repeat (first | exact (Kd.C_below HR0.out HB.out) | (with_reducible first | refine Ca ?_ _ | refine Cn ?_ _ | refine Cd ?_))); (case side2 => exact HC0.out); rintro e w6 ⟨v793, rfl, ho0, hb⟩; refine ⟨_, rfl, ?_⟩; have n0_ := aM (Kd.R_lower ho0 (below_size (by repeat (with_reducible first | exact HB.out | apply bA | apply bN | apply bD)))); have n1_ := aM (below_step (by repeat (with_reducible first | exact HB.out | apply bA | apply bN | apply bD)) hb); clear HB; have HO794 := n0_; have HB := n1_; clear n0_ n1_; (try clear ho0)))
   go_ret
   exact ⟨_, by first | rfl | (simp [*, errW_none, errW_some] <;> rfl), by (with_reducible repeat (first | apply Ra | apply Rn | apply Rd)); exact HO794.out, by repeat (with_reducible first | exact HB.out | apply bA | apply bN | apply bD)⟩
 replace c3 := Bool.eq_false_iff.mpr c3
 subst c3
 have H1 : (some ([] : List ByteArray)) = some r := by rw [if_neg (show ¬ (false = true) by decide)] at H; exact H
 clear H
 have H := H1
 clear H1
 obtain rfl := Option.some.inj H
 go_enter Try.func37, Try.ntmps37
 go_wp2_with (first | ((with_reducible refine gate_callee (f := 64) rfl ?_); refine goesL_ (some 4) rfl rfl Try.func64 (by kernel_rfl) rfl #[.slice A0 l0.length c0] rfl (by (try simp only [List.map_toArray, List.map_cons, List.map_nil]); first | done | rfl) ?_; (with_reducible refine (impl_UnitOk.calls k _ _ l0 false _ ?side1 ?side2 A2.out).mono ?_); (case side1 => repeat (first | exact HR0.out | (with_reducible first | refine Ca ?_ _ | refine Cn ?_ _ | refine Cd ?_))); (case side2 => exact HC0.out); rintro e w7 ⟨rfl, hb⟩; refine ⟨_, rfl, ?_⟩; have n0_ := aM (below_step (by repeat (with_reducible first | exact HB.out | apply bA | apply bN | apply bD)) hb); clear HB; have HB := n0_; clear n0_))
 go_ret
 exact ⟨_, by first | rfl | (simp [*, errW_none, errW_some] <;> rfl), by first | exact Kd.R_nil _ _ _ _ _ | exact Kd.N_nil _ _ _ _ _ | exact Kd.V_nil _ _ _ _ _ | exact Kd.Q_nil _ _ _ _ _ | exact Kd.S_nil _ _ _ _ _, by repeat (with_reducible first | exact HB.out | apply bA | apply bN | apply bD)⟩
end Go.Proofs.Ytpckkkcaffhhnaa.P
