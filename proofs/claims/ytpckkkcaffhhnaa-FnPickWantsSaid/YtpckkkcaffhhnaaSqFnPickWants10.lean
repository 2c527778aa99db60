-- put together by squash.py
import Derived.Test.YtpckkkcaffhhnaaSqFnPickWants3
import Derived.Test.YtpckkkcaffhhnaaSqFnPickWants7
import Derived.Test.YtpckkkcaffhhnaaSqFnPickWants8
import Derived.Test.YtpckkkcaffhhnaaSqFnPickWants9
set_option linter.unusedVariables false
set_option linter.unusedSimpArgs false

namespace Go.Proofs.Ytpckkkcaffhhnaa.P
open Go.RowKit Go.Proofs.YtpckkkcaffhhnaaW.PrintWords Go.Proofs.YtpckkkcaffhhnaaW.PrintLast Go.Proofs.YtpckkkcaffhhnaaW.PrintMore
attribute [local go_sem] max2_int min2_int max_two min_two max_three min_three max_four min_four
def spec_l3Units.l0 : Nat → List (List (S30)) → Int → List Int → Int → Option ((List (List (S30))) × Int)
  | 0, _, _, _, _ => none
  | k + 1, x5, x6, x1000, x1001 => if x6 > 0 then ((spec_l2Unit.f k x1000 x1001).bind fun bt436 => (if x5.length < 5864062014805 then (spec_l3Units.l0 k (x5 ++ [bt436.1]) (wrap64 (x6 - 1)) x1000 bt436.2) else (none))) else (some (x5, x1001))
def spec_l3Units.f (k : Nat) (s0_0 : List Int) (s0_1 : Int) (a1 : Int) : Option ((List (List (S30))) × Int) := (spec_l13Rd_pick.f k s0_0 s0_1 (wrap64 (a1 + 1))).bind fun bt434 => (spec_l3Units.l0 k (([] : List (List (S30)))) bt434.1 s0_0 bt434.2)
set_option maxHeartbeats 8000000 in
set_option maxRecDepth 100000 in
theorem spec_l3Units.calls (k : Nat) (g : Nat) (s0_0 : List Int) (s0_1 : Int) (a1 : Int) (r1 : List (List (S30))) (r2 : Int) (w0 w : World) (hI : IsS112 w0 w g s0_0 s0_1) (hB : Below w0.heap.size w0 w) (h : spec_l3Units.f k s0_0 s0_1 a1 = some (r1, r2)) :
    Calls Try.prog 120 #[.pointer (some ⟨g, 0, none⟩), .int .i64 a1] w fun e w' => ∃ v0_ : Value, e = .returned (v0_) ∧ Kd.R (Kd.slice 30 k30) 23 w' w.heap.size (fun _ => True) v0_ r1 ∧ IsS112 w0 w' g s0_0 r2 ∧ Below w0.heap.size w0 w' ∧ KeepBut w w' g none := by
 have HI0 := aM hI
 have HK := aM (KeepBut.refl w g none)
 have HL := aM hB.size
 clear hI
 have HW0 := aM hB.size
 have HB := aM hB; clear hB
 have H : ((spec_l13Rd_pick.f k s0_0 s0_1 (wrap64 (a1 + 1))).bind fun bt434 => (spec_l3Units.l0 k (([] : List (List (S30)))) bt434.1 s0_0 bt434.2)) = some (r1, r2) := h
 clear h
 obtain ⟨y431, hy431⟩ : ∃ y_ : List (List (S30)), y_ = (([] : List (List (S30)))) := ⟨_, rfl⟩
 replace H : ((spec_l13Rd_pick.f k s0_0 s0_1 (wrap64 (a1 + 1))).bind fun bt434 => (spec_l3Units.l0 k y431 bt434.1 s0_0 bt434.2)) = some (r1, r2) := by first | (rw [hy431]; with_reducible exact H) | (have H2_ := (Option.bind_some _ _).symm.trans H; rw [hy431]; with_reducible exact H2_) | (have H2_ := (Option.bind_some _ _).symm.trans H; with_reducible exact H2_) | with_reducible exact H | (rw [hy431]; exact H) | exact H
 have Ny431 := aM hy431; clear hy431
 replace H := Option.bind_eq_some_iff.mp H
 obtain ⟨⟨t434, t435⟩, A30, H⟩ := H
 replace H : (spec_l3Units.l0 k y431 t434 s0_0 t435) = some (r1, r2) := H
 have A3 := aM A30; clear A30
 have H' := aM H
 clear H
 go_enter Try.func120, Try.ntmps120
 go_wp2_with (first | ((with_reducible refine gate_dst (N := 7) rfl ?_); refine Kd.R_lit (Kd.slice 30 k30) _ 23 ?hg (N := 7) ?hd (xs := ([] : List (List (S30)))) (inner := []) (ok := fun _ => True) (okp := fun _ => True) ?hr ?hp (fun _ hk => hk) trivial (Below.refl _ _) (Nat.le_refl _) (by simp) ?_; (case hd => rfl); (case hg => rfl); (case hr => first | (go_simp; done) | (go_simp; rfl)); (case hp => exact (Reps.none _ _)); intro v432 w4 ho5 hb hg_ hnew_; clear hg_ hnew_; (first | rw [← Ny431.out] at ho5 | (simp only [Int.reduceToNat] at ho5; rw [← Ny431.out] at ho5)); have n0_ := aM (Kd.R_lower ho5 (keep_size (w := w) (g := g) (row := none) (by repeat (with_reducible first | exact HK.out | apply KeepBut.set_ | apply kN | apply kD | apply kA)))); have n1_ := aM (IsS112.below (by repeat (with_reducible first | exact HI0.out | apply IsS112.alloc | apply IsS112.drewN | apply IsS112.drew | apply IsS112.set_1)) hb); have n2_ := aM (KeepBut.trans (by repeat (with_reducible first | exact HK.out | apply KeepBut.set_ | apply kN | apply kD | apply kA)) (KeepBut.of_below hb g none) (.inl rfl)); have n3_ := aM (below_step (by repeat (with_reducible first | exact HB.out | apply bA | apply bN | apply bD | refine below_set ?_ (IsS112.ge HI0.out))) hb); clear HI0 HK HB; have HO433 := n0_; have HI0 := n1_; have HK := n2_; have HB := n3_; clear n0_ n1_ n2_ n3_ hb ho5) | ((with_reducible refine gate_callee (f := 109) rfl ?_); refine goesL_ (some 11) rfl rfl Try.func109 (by kernel_rfl) rfl #[.pointer (some ⟨g, 0, none⟩), .int .i64 (wrap64 (a1 + 1))] rfl (by (try simp only [List.map_toArray, List.map_cons, List.map_nil]); first | done | rfl) ?_; (with_reducible refine (spec_l13Rd_pick.calls k g s0_0 s0_1 (wrap64 (a1 + 1)) t434 t435 w0 _ ?side1 ?side2 A3.out).mono ?_); (case side1 => repeat (with_reducible first | exact HI0.out | apply IsS112.alloc | apply IsS112.drewN | apply IsS112.drew | apply IsS112.set_1)); (case side2 => repeat (with_reducible first | exact HB.out | apply bA | apply bN | apply bD | refine below_set ?_ (IsS112.ge HI0.out))); rintro e w6 ⟨rfl, hi, hb, hk⟩; refine ⟨_, rfl, ?_⟩; have n0_ := aM (Kd.R_mono (Kd.R_keep (IsS112.apart (show IsS112 w0 _ g s0_0 s0_1 from by repeat (with_reducible first | exact HI0.out | apply IsS112.alloc | apply IsS112.drewN | apply IsS112.drew | apply IsS112.set_1)) (by (with_reducible repeat (first | apply Ra | apply Rn | apply Rd)); exact HO433.out) (by decide)) hk (fun _ h => h.2)) (fun _ h => h.1)); have n1_ := aM (KeepBut.trans (by repeat (with_reducible first | exact HK.out | apply KeepBut.set_ | apply kN | apply kD | apply kA)) hk (.inl rfl)); have n2_ := aM (hb); have n3_ := aM (hi); clear HO433 HK HB HI0; have HO433 := n0_; have HK := n1_; have HB := n2_; have HI0 := n3_; clear n0_ n1_ n2_ n3_))
 go_loopg [5, 6] k (fun kq v5 v6 w' => ∃ (x5_1 : List (List (S30))) (x6_1 : Int) (x1001_1 : Int), v6 = .int .i64 x6_1 ∧ Aside0 (spec_l3Units.l0 kq x5_1 x6_1 s0_0 x1001_1 = some (r1, r2)) ∧ Aside0 (kq ≤ k) ∧ Aside0 (Kd.R (Kd.slice 30 k30) 23 w' w.heap.size (fun _ => True) v5 x5_1) ∧ Aside0 (IsS112 w0 w' g s0_0 x1001_1) ∧ Aside0 (KeepBut w w' g none) ∧ Aside0 (Below w0.heap.size w0 w'))
 case atStart => exact ⟨(y431), (t434), (t435), (by first | rfl | (simp; done) | (simp [*]; done)), H', ⟨Nat.le_refl _⟩, ⟨by (with_reducible repeat (first | apply Ra | apply Rn | apply Rd)); exact HO433.out⟩, ⟨by repeat (with_reducible first | exact HI0.out | apply IsS112.alloc | apply IsS112.drewN | apply IsS112.drew | apply IsS112.set_1)⟩, ⟨by repeat (with_reducible first | exact HK.out | apply KeepBut.set_ | apply kN | apply kD | apply kA)⟩, ⟨by repeat (with_reducible first | exact HB.out | apply bA | apply bN | apply bD | refine below_set ?_ (IsS112.ge HI0.out))⟩⟩
 clear H'
 try clear c1; try clear p2; try clear p6
 obtain ⟨x5_1, x6_1, x1001_1, rfl, HA, HK1, HO_5, HI0, HK, HB⟩ := hrel
 obtain _ | k1 := gk
 · exact absurd HA.out (by simp [spec_l3Units.l0])
 have H := HA.out
 clear HA
 simp only [spec_l3Units.l0] at H
 by_cases c7 : x6_1 > 0
 · rw [if_pos c7] at H
   have c7b0 : decide (0 < x6_1) = true := decide_eq_true c7
   clear c7
   replace H := Option.bind_eq_some_iff.mp H
   obtain ⟨⟨t436, t439⟩, A80, H⟩ := H
   replace H : (if x5_1.length < 5864062014805 then (spec_l3Units.l0 k1 (x5_1 ++ [t436]) (wrap64 (x6_1 - 1)) s0_0 t439) else (none)) = some (r1, r2) := H
   have A8 := aM A80; clear A80
   by_cases c9 : x5_1.length < 5864062014805
   · rw [if_pos c9] at H; have LMc9 := aM c9; clear c9
     obtain ⟨y440, hy440⟩ : ∃ y_ : List (List (S30)), y_ = (x5_1 ++ [t436]) := ⟨_, rfl⟩
     replace H : (spec_l3Units.l0 k1 y440 (wrap64 (x6_1 - 1)) s0_0 t439) = some (r1, r2) := by first | (rw [hy440]; with_reducible exact H) | (have H2_ := (Option.bind_some _ _).symm.trans H; rw [hy440]; with_reducible exact H2_) | (have H2_ := (Option.bind_some _ _).symm.trans H; with_reducible exact H2_) | with_reducible exact H | (rw [hy440]; exact H) | exact H
     have Ny440 := aM hy440; clear hy440
     have H' := aM H
     clear H
     go_wp2_with (first | ((with_reducible refine gate_callee (f := 108) rfl ?_); refine goesL_ (some 18) rfl rfl Try.func108 (by kernel_rfl) rfl #[.pointer (some ⟨g, 0, none⟩)] rfl (by (try simp only [List.map_toArray, List.map_cons, List.map_nil]); first | done | rfl) ?_; (with_reducible refine (spec_l2Unit.calls k1 g s0_0 x1001_1 t436 t439 w0 _ ?side1 ?side2 A8.out).mono ?_); (case side1 => repeat (with_reducible first | exact HI0.out | apply IsS112.alloc | apply IsS112.drewN | apply IsS112.drew | apply IsS112.set_1)); (case side2 => repeat (with_reducible first | exact HB.out | apply bA | apply bN | apply bD | refine below_set ?_ (IsS112.ge HI0.out))); rintro e w10 ⟨v437, rfl, ho0, hi, hb, hk⟩; refine ⟨_, rfl, ?_⟩; have n0_ := aM (Kd.R_mono (Kd.R_told (Kd.R_oldK (IsS112.apart (show IsS112 w0 _ g s0_0 x1001_1 from by repeat (with_reducible first | exact HI0.out | apply IsS112.alloc | apply IsS112.drewN | apply IsS112.drew | apply IsS112.set_1)) (by (with_reducible repeat (first | apply Ra | apply Rn | apply Rd)); exact HO_5.out) (by decide)) hk) (Kd.R_base ho0)) (fun _ h_ => h_.1)); have n1_ := aM (Kd.R_lower ho0 (keep_size (w := w) (g := g) (row := none) (by repeat (with_reducible first | exact HK.out | apply KeepBut.set_ | apply kN | apply kD | apply kA)))); have n2_ := aM (KeepBut.trans (by repeat (with_reducible first | exact HK.out | apply KeepBut.set_ | apply kN | apply kD | apply kA)) hk (.inl rfl)); have n3_ := aM (hb); have n4_ := aM (hi); clear HO_5 HK HB HI0; have HO_5 := n0_; have HO438 := n1_; have HK := n2_; have HB := n3_; have HI0 := n4_; clear n0_ n1_ n2_ n3_ n4_; (try clear ho0); obtain ⟨Ao12, co12, eo12⟩ := Kd.R_slice HO438.out; subst eo12) | ((with_reducible refine gate_builtin (b := .append) (xs := #[.tmp 16, .tmp 19]) rfl ?_); at_builtin; refine Kd.R_append (Kd.slice 30 k30) w.heap.size rfl (.tmp 16) (.tmp 19) 42 23 (.slice none 0 0) 24 rfl Try.underlying42 info23 rfl (by decide) (by omega) u5 x5_1 t436 [.slice Ao12 t436.length co12] (fun _ => True) (fun k_ => ((fun _ => True)) k_ ∧ some k_ ≠ (u5 : Value).ownBlock) rfl rfl ?aP (fun _ hk => hk) ?aF ?aO (Below.refl _ _) ?aS ?aL ?_; (case aP => exact Kd.M_row (Kd.R_mono (Kd.R_apart' (HO438.out) (Kd.R_typed HO_5.out) (by decide)) (fun k_ hk => ⟨trivial, hk.2⟩))); (case aF => exact (fun _ _ => trivial)); (case aO => exact (by (with_reducible repeat (first | apply Ra | apply Rn | apply Rd)); exact Kd.R_mono HO_5.out (fun _ hk => trivial))); (case aS => exact (keep_size (w := w) (g := g) (row := none) (by repeat (with_reducible first | exact HK.out | apply KeepBut.set_ | apply kN | apply kD | apply kA)))); (case aL => have := LMc9.out; omega); intro v441 w11 ho hb hg hat; rw [← Ny440.out] at ho; have n0_ := aM (IsS112.grown (by repeat (with_reducible first | exact HI0.out | apply IsS112.alloc | apply IsS112.drewN | apply IsS112.drew | apply IsS112.set_1)) hg (IsS112.own_ne HI0.out HO_5.out (by decide))); have n1_ := aM (below_weaken (by repeat (with_reducible first | exact HB.out | apply bA | apply bN | apply bD | refine below_set ?_ (IsS112.ge HI0.out))) HL.out hb); have n2_ := aM (KeepBut.trans (by repeat (with_reducible first | exact HK.out | apply KeepBut.set_ | apply kN | apply kD | apply kA)) (KeepBut.of_grown hg g) (Kd.R_base2 HO_5.out)); have n3_ := aM (ho); clear HI0 HB HK HO_5 HO438; have HI0 := n0_; have HB := n1_; have HK := n2_; have HO442 := n3_; clear n0_ n1_ n2_ n3_ ho hb hg hat))
     go_roundg k1
     case measure => have := HK1.out; omega
     case rel => exact ⟨(y440), (wrap64 (x6_1 - 1)), (t439), (by first | rfl | (simp; done) | (simp [*]; done)), H', ⟨by have := HK1.out; omega⟩, ⟨by (with_reducible repeat (first | apply Ra | apply Rn | apply Rd)); exact HO442.out⟩, ⟨by repeat (with_reducible first | exact HI0.out | apply IsS112.alloc | apply IsS112.drewN | apply IsS112.drew | apply IsS112.set_1)⟩, ⟨by repeat (with_reducible first | exact HK.out | apply KeepBut.set_ | apply kN | apply kD | apply kA)⟩, ⟨by repeat (with_reducible first | exact HB.out | apply bA | apply bN | apply bD | refine below_set ?_ (IsS112.ge HI0.out))⟩⟩
   rw [if_neg c9] at H
   exact absurd H (by simp)
 rw [if_neg c7] at H
 have c7b0 : decide (0 < x6_1) = false := decide_eq_false c7
 clear c7
 simp only [Option.some.injEq, Prod.mk.injEq] at H
 obtain ⟨rfl, rfl⟩ := H
 go_wp2
 go_ret
 exact ⟨_, by first | rfl | (simp [*, errW_none, errW_some] <;> rfl), by (with_reducible repeat (first | apply Ra | apply Rn | apply Rd)); exact HO_5.out, by repeat (with_reducible first | exact HI0.out | apply IsS112.alloc | apply IsS112.drewN | apply IsS112.drew | apply IsS112.set_1), by repeat (with_reducible first | exact HB.out | apply bA | apply bN | apply bD | refine below_set ?_ (IsS112.ge HI0.out)), by repeat (with_reducible first | exact HK.out | apply KeepBut.set_ | apply kN | apply kD | apply kA)⟩
theorem spec_l3Thin_dn_cell (wr : World) (nd : Nat) (c : Array Value) (t : TypeId) (i : Nat) : ((wr.drewN nd).alloc (.cells c t)).cell? ⟨wr.heap.size, i, none⟩ = c[i]? := World.cell?_alloc_new (wr.drewN nd) c t i
theorem spec_l3Thin_dn_frozen (wr : World) (nd : Nat) (c : Array Value) (t : TypeId) (i : Nat) : ((wr.drewN nd).alloc (.cells c t)).frozen? ⟨wr.heap.size, i, none⟩ = false := World.frozen?_alloc_new (wr.drewN nd) c t i
attribute [local go_sem] spec_l3Thin_dn_cell spec_l3Thin_dn_frozen
mutual
def spec_l3Thin.l0 : Nat → List (List (S30)) → List (List (S30)) → List ByteArray → Int → Option ((List (List (S30))))
  | 0, _, _, _, _ => none
  | k + 1, x0, x3, x4, x5 => if x5 < (x0.length : Int) then (spec_l3Thin.l1 k x0 x3 x4 x5 (([] : List (S30))) 0) else (some x3)
def spec_l3Thin.l1 : Nat → List (List (S30)) → List (List (S30)) → List ByteArray → Int → List (S30) → Int → Option ((List (List (S30))))
  | 0, _, _, _, _, _, _ => none
  | k + 1, x0, x3, x4, x5, x6, x7 => if 0 ≤ x5 then (if x5 < (x0.length : Int) then (if x7 < ((rd_L13 x0 x5).length : Int) then (if 0 ≤ x7 then (if (rd_T30 (rd_L13 x0 x5) x7).f1 = true then (if x6.length < 2932031007402 then (if x4.length < 8796093022208 then (spec_l3Thin.l1 k x0 x3 (x4 ++ [(rd_T30 (rd_L13 x0 x5) x7).f0]) x5 (x6 ++ [(⟨(rd_T30 (rd_L13 x0 x5) x7).f0, (rd_T30 (rd_L13 x0 x5) x7).f1, (rd_T30 (rd_L13 x0 x5) x7).f2⟩ : S30)]) (wrap64 (x7 + 1))) else (none)) else (none)) else ((spec_l2Has.f k x4 ((rd_T30 (rd_L13 x0 x5) x7).f0)).bind fun t470 => (if t470 = true then (spec_l3Thin.l1 k x0 x3 x4 x5 x6 (wrap64 (x7 + 1))) else (if x6.length < 2932031007402 then (if x4.length < 8796093022208 then (spec_l3Thin.l1 k x0 x3 (x4 ++ [(rd_T30 (rd_L13 x0 x5) x7).f0]) x5 (x6 ++ [(⟨(rd_T30 (rd_L13 x0 x5) x7).f0, (rd_T30 (rd_L13 x0 x5) x7).f1, (rd_T30 (rd_L13 x0 x5) x7).f2⟩ : S30)]) (wrap64 (x7 + 1))) else (none)) else (none))))) else (none)) else (if x3.length < 5864062014805 then (spec_l3Thin.l0 k x0 (x3 ++ [x6]) x4 (wrap64 (x5 + 1))) else (none))) else (none)) else (none)
end
def spec_l3Thin.f (k : Nat) (l0 : List (List (S30))) : Option ((List (List (S30)))) := spec_l3Thin.l0 k l0 (([] : List (List (S30)))) (([] : List ByteArray)) 0
set_option maxHeartbeats 8000000 in
set_option maxRecDepth 100000 in
theorem spec_l3Thin.calls (k : Nat) (P0_ : Nat → Prop) (A0 : Option Addr) (c0 : Nat) (l0 : List (List (S30))) (r : List (List (S30))) (w : World) (hs0 : Kd.V (Kd.slice 30 k30) 23 w w.heap.size (fun k_ => P0_ k_) (.slice A0 l0.length c0) l0) (h : spec_l3Thin.f k l0 = some r) :
    Calls Try.prog 121 #[.slice A0 l0.length c0] w fun e w' => ∃ v0_ : Value, e = .returned (v0_) ∧ Kd.N (Kd.slice 30 k30) 23 w' w.heap.size (fun k_ => (P0_ k_ ∨ w.heap.size ≤ k_)) v0_ r ∧ Below w.heap.size w w' := by
 have hu30 := Try.underlying30
 have HO0 := aM (show Kd.V (Kd.slice 30 k30) 23 w w.heap.size (fun k_ => (P0_ k_ ∨ w.heap.size ≤ k_)) (.slice A0 l0.length c0) l0 from Kd.V_mono hs0 (fun k_ hk => .inl hk))
 have HB := aM (Below.refl w.heap.size w)
 have H : (spec_l3Thin.l0 k l0 (([] : List (List (S30)))) (([] : List ByteArray)) 0) = some r := h
 clear h
 obtain ⟨y443, hy443⟩ : ∃ y_ : List (List (S30)), y_ = (([] : List (List (S30)))) := ⟨_, rfl⟩
 replace H : (spec_l3Thin.l0 k l0 y443 (([] : List ByteArray)) 0) = some r := by first | (rw [hy443]; with_reducible exact H) | (have H2_ := (Option.bind_some _ _).symm.trans H; rw [hy443]; with_reducible exact H2_) | (have H2_ := (Option.bind_some _ _).symm.trans H; with_reducible exact H2_) | with_reducible exact H | (rw [hy443]; exact H) | exact H
 have Ny443 := aM hy443; clear hy443
 obtain ⟨y446, hy446⟩ : ∃ y_ : List ByteArray, y_ = (([] : List ByteArray)) := ⟨_, rfl⟩
 replace H : (spec_l3Thin.l0 k l0 y443 y446 0) = some r := by first | (rw [hy446]; with_reducible exact H) | (have H2_ := (Option.bind_some _ _).symm.trans H; rw [hy446]; with_reducible exact H2_) | (have H2_ := (Option.bind_some _ _).symm.trans H; with_reducible exact H2_) | with_reducible exact H | (rw [hy446]; exact H) | exact H
 have Ny446 := aM hy446; clear hy446
 have H' := aM H
 clear H
 go_enter Try.func121, Try.ntmps121
 go_wp2_with (first | ((with_reducible refine gate_dst (N := 8) rfl ?_); refine Kd.N_lit (Kd.slice 30 k30) _ 23 ?hg (N' := 8) ?hd (xs := ([] : List (List (S30)))) (inner := []) (ok := (fun k_ => (P0_ k_ ∨ w.heap.size ≤ k_))) (okp := (fun k_ => (P0_ k_ ∨ w.heap.size ≤ k_))) ?hr ?hp (fun _ hk => hk) ((show ∀ k_, w.heap.size ≤ k_ → (fun k_ => (P0_ k_ ∨ w.heap.size ≤ k_)) k_ from fun k_ hk => (.inr (Nat.le_trans (below_size (by repeat (with_reducible first | exact HB.out | apply bA | apply bN | apply bD))) hk))) _ (Nat.le_refl _)) (Below.refl _ _) (Nat.le_refl _) (by simp) ?_; (case hd => rfl); (case hg => rfl); (case hr => first | (go_simp; done) | (go_simp; rfl)); (case hp => exact (Reps.none _ _)); intro v444 w2 ho3 hb hg_ hnew_; clear hg_ hnew_; (first | rw [← Ny443.out] at ho3 | (simp only [Int.reduceToNat] at ho3; rw [← Ny443.out] at ho3)); have n0_ := aM (Kd.V_elder' (by (with_reducible repeat (first | apply Va | apply Vn | apply Vd)); exact HO0.out) (Kd.N_base ho3) hb); have n1_ := aM (Kd.N_lower ho3 (below_size (by repeat (with_reducible first | exact HB.out | apply bA | apply bN | apply bD)))); have n2_ := aM (below_step (by repeat (with_reducible first | exact HB.out | apply bA | apply bN | apply bD)) hb); clear HO0 HB; have HO0 := n0_; have HO445 := n1_; have HB := n2_; clear n0_ n1_ n2_ hb ho3) | ((with_reducible refine gate_dst (N := 9) rfl ?_); refine Kd.R_lit Kd.string _ 9 ?hg (N := 9) ?hd (xs := ([] : List ByteArray)) (inner := []) (ok := fun _ => True) (okp := fun _ => True) ?hr ?hp (fun _ hk => hk) trivial (Below.refl _ _) (Nat.le_refl _) (by simp) ?_; (case hd => rfl); (case hg => rfl); (case hr => first | (go_simp; done) | (go_simp; rfl)); (case hp => exact (Reps.none _ _)); intro v447 w4 ho5 hb hg_ hnew_; clear hg_ hnew_; (first | rw [← Ny446.out] at ho5 | (simp only [Int.reduceToNat] at ho5; rw [← Ny446.out] at ho5)); have n0_ := aM (Kd.V_elder' (by (with_reducible repeat (first | apply Va | apply Vn | apply Vd)); exact HO0.out) (Kd.R_base ho5) hb); have n1_ := aM (Kd.N_elder' (by (with_reducible repeat (first | apply Na | apply Nn | apply Nd)); exact HO445.out) (Kd.R_base ho5) hb); have n2_ := aM (Kd.R_lower (Kd.R_newM (M := fun k_ => (w.heap.size ≤ k_)) ho5 (below_size (by repeat (with_reducible first | exact HB.out | apply bA | apply bN | apply bD))) (fun k_ h_ => h_)) (below_size (by repeat (with_reducible first | exact HB.out | apply bA | apply bN | apply bD)))); have n3_ := aM (below_step (by repeat (with_reducible first | exact HB.out | apply bA | apply bN | apply bD)) hb); clear HO0 HO445 HB; have HO0 := n0_; have HO445 := n1_; have HO448 := n2_; have HB := n3_; clear n0_ n1_ n2_ n3_ hb ho5))
 go_loopg [3, 4, 5] k (fun kq v3 v4 v5 w' => ∃ (x3_1 : List (List (S30))) (x4_1 : List ByteArray) (x5_1 : Int), v5 = .int .i64 x5_1 ∧ Aside0 (spec_l3Thin.l0 kq l0 x3_1 x4_1 x5_1 = some r) ∧ Aside0 (kq ≤ k) ∧ Aside0 (Kd.V (Kd.slice 30 k30) 23 w' w.heap.size (fun k_ => (P0_ k_ ∨ w.heap.size ≤ k_) ∧ some k_ ≠ (v3 : Value).ownBlock ∧ some k_ ≠ (v4 : Value).ownBlock) (.slice A0 l0.length c0) l0) ∧ Aside0 (Kd.N (Kd.slice 30 k30) 23 w' w.heap.size (fun k_ => (P0_ k_ ∨ w.heap.size ≤ k_) ∧ some k_ ≠ (v4 : Value).ownBlock) v3 x3_1) ∧ Aside0 (Kd.R Kd.string 9 w' w.heap.size (fun k_ => (w.heap.size ≤ k_)) v4 x4_1) ∧ Aside0 (Below w.heap.size w w'))
 case atStart => exact ⟨(y443), (y446), (0), (by first | rfl | (simp; done) | (simp [*]; done)), H', ⟨Nat.le_refl _⟩, ⟨by (with_reducible repeat (first | apply Va | apply Vn | apply Vd)); exact Kd.V_mono HO0.out (fun _ hk => ⟨hk.1.1, ⟨hk.1.2, hk.2⟩⟩)⟩, ⟨by (with_reducible repeat (first | apply Na | apply Nn | apply Nd)); exact HO445.out⟩, ⟨by (with_reducible repeat (first | apply Ra | apply Rn | apply Rd)); exact Kd.R_mono HO448.out (fun _ hk => hk.1)⟩, ⟨by repeat (with_reducible first | exact HB.out | apply bA | apply bN | apply bD)⟩⟩
 clear H'
 try clear c1; try clear p2
 obtain ⟨x3_1, x4_1, x5_1, rfl, HA, HK1, HO_0, HO_3, HO_4, HB⟩ := hrel
 obtain _ | k1 := gk
 · exact absurd HA.out (by simp [spec_l3Thin.l0])
 have H := HA.out
 clear HA
 simp only [spec_l3Thin.l0] at H
 by_cases c6 : x5_1 < (l0.length : Int)
 · rw [if_pos c6] at H
   have c6b0 : decide (x5_1 < (l0.length : Int)) = true := decide_eq_true c6
   clear c6
   obtain ⟨y449, hy449⟩ : ∃ y_ : List (S30), y_ = (([] : List (S30))) := ⟨_, rfl⟩
   replace H : (spec_l3Thin.l1 k1 l0 x3_1 x4_1 x5_1 y449 0) = some r := by first | (rw [hy449]; with_reducible exact H) | (have H2_ := (Option.bind_some _ _).symm.trans H; rw [hy449]; with_reducible exact H2_) | (have H2_ := (Option.bind_some _ _).symm.trans H; with_reducible exact H2_) | with_reducible exact H | (rw [hy449]; exact H) | exact H
   have Ny449 := aM hy449; clear hy449
   have H' := aM H
   clear H
   go_wp2_with (first | ((with_reducible refine gate_dst (N := 16) rfl ?_); refine Kd.N_lit k30 _ 30 ?hg (N' := 16) ?hd (xs := ([] : List (S30))) (inner := []) (ok := (fun k_ => (P0_ k_ ∨ w.heap.size ≤ k_) ∧ some k_ ≠ (u3 : Value).ownBlock ∧ some k_ ≠ (u4 : Value).ownBlock)) (okp := (fun k_ => (P0_ k_ ∨ w.heap.size ≤ k_) ∧ some k_ ≠ (u3 : Value).ownBlock ∧ some k_ ≠ (u4 : Value).ownBlock)) ?hr ?hp (fun _ hk => hk) ((show ∀ k_, wr.heap.size ≤ k_ → (fun k_ => (P0_ k_ ∨ w.heap.size ≤ k_) ∧ some k_ ≠ (u3 : Value).ownBlock ∧ some k_ ≠ (u4 : Value).ownBlock) k_ from fun k_ hk => ⟨(.inr (Nat.le_trans (below_size (by repeat (with_reducible first | exact HB.out | apply bA | apply bN | apply bD))) hk)), Kd.fresh' (Kd.N_lt (by (with_reducible repeat (first | apply Na | apply Nn | apply Nd)); exact HO_3.out)) k_ hk, Kd.fresh' (Kd.R_lt (by (with_reducible repeat (first | apply Ra | apply Rn | apply Rd)); exact HO_4.out)) k_ hk⟩) _ (Nat.le_refl _)) (Below.refl _ _) (Nat.le_refl _) (by simp) ?_; (case hd => rfl); (case hg => rfl); (case hr => first | (go_simp; done) | (go_simp; rfl)); (case hp => exact (Reps.none _ _)); intro v450 w7 ho8 hb hg_ hnew_; clear hg_ hnew_; (first | rw [← Ny449.out] at ho8 | (simp only [Int.reduceToNat] at ho8; rw [← Ny449.out] at ho8)); have n0_ := aM (Kd.V_elder' (by (with_reducible repeat (first | apply Va | apply Vn | apply Vd)); exact HO_0.out) (Kd.N_base ho8) hb); have n1_ := aM (Kd.N_elder' (by (with_reducible repeat (first | apply Na | apply Nn | apply Nd)); exact HO_3.out) (Kd.N_base ho8) hb); have n2_ := aM (Kd.R_below (by (with_reducible repeat (first | apply Ra | apply Rn | apply Rd)); exact HO_4.out) hb); have n3_ := aM (Kd.N_lower ho8 (below_size (by repeat (with_reducible first | exact HB.out | apply bA | apply bN | apply bD)))); have n4_ := aM (below_step (by repeat (with_reducible first | exact HB.out | apply bA | apply bN | apply bD)) hb); clear HO_0 HO_3 HO_4 HB; have HO_0 := n0_; have HO_3 := n1_; have HO_4 := n2_; have HO451 := n3_; have HB := n4_; clear n0_ n1_ n2_ n3_ n4_ hb ho8))
   go_loopg [4, 6, 7] k1 (fun kq v4 v6 v7 w' => ∃ (x4_2 : List ByteArray) (x6_2 : List (S30)) (x7_2 : Int), v7 = .int .i64 x7_2 ∧ Aside0 (spec_l3Thin.l1 kq l0 x3_1 x4_2 x5_1 x6_2 x7_2 = some r) ∧ Aside0 (kq ≤ k1) ∧ Aside0 (Kd.V (Kd.slice 30 k30) 23 w' w.heap.size (fun k_ => (P0_ k_ ∨ w.heap.size ≤ k_) ∧ some k_ ≠ (u3 : Value).ownBlock ∧ some k_ ≠ (v4 : Value).ownBlock ∧ some k_ ≠ (v6 : Value).ownBlock) (.slice A0 l0.length c0) l0) ∧ Aside0 (Kd.N (Kd.slice 30 k30) 23 w' w.heap.size (fun k_ => (P0_ k_ ∨ w.heap.size ≤ k_) ∧ some k_ ≠ (v4 : Value).ownBlock ∧ some k_ ≠ (v6 : Value).ownBlock) u3 x3_1) ∧ Aside0 (Kd.R Kd.string 9 w' w.heap.size (fun k_ => (w.heap.size ≤ k_)) v4 x4_2) ∧ Aside0 (Kd.N k30 30 w' w.heap.size (fun k_ => (P0_ k_ ∨ w.heap.size ≤ k_) ∧ some k_ ≠ (u3 : Value).ownBlock ∧ some k_ ≠ (v4 : Value).ownBlock) v6 x6_2) ∧ Aside0 (Below w.heap.size w w'))
   case atStart => exact ⟨(x4_1), (y449), (0), (by first | rfl | (simp; done) | (simp [*]; done)), H', ⟨Nat.le_refl _⟩, ⟨by (with_reducible repeat (first | apply Va | apply Vn | apply Vd)); exact Kd.V_mono HO_0.out (fun _ hk => ⟨hk.1.1, ⟨hk.1.2.1, ⟨hk.1.2.2, hk.2⟩⟩⟩)⟩, ⟨by (with_reducible repeat (first | apply Na | apply Nn | apply Nd)); exact Kd.N_mono HO_3.out (fun _ hk => ⟨hk.1.1, ⟨hk.1.2, hk.2⟩⟩)⟩, ⟨by (with_reducible repeat (first | apply Ra | apply Rn | apply Rd)); exact HO_4.out⟩, ⟨by (with_reducible repeat (first | apply Na | apply Nn | apply Nd)); exact HO451.out⟩, ⟨by repeat (with_reducible first | exact HB.out | apply bA | apply bN | apply bD)⟩⟩
   clear H'
   try clear c1; try clear p2; try clear c6; try clear c6b0; try clear p2
   obtain ⟨x4_2, x6_2, x7_2, rfl, HA, HK2, HO_0, HO_3, HO_4, HO_6, HB⟩ := hrel
   obtain _ | k2 := gk
   · exact absurd HA.out (by simp [spec_l3Thin.l1])
   have H := HA.out
   clear HA
   simp only [spec_l3Thin.l1] at H
   by_cases c9 : 0 ≤ x5_1
   · rw [if_pos c9] at H
     have c9b0 : decide (0 ≤ x5_1) = true := decide_eq_true c9
     clear c9
     by_cases c10 : x5_1 < (l0.length : Int)
     · rw [if_pos c10] at H
       have c10b0 : decide (x5_1 < (l0.length : Int)) = true := decide_eq_true c10
       clear c10
       by_cases c11 : x7_2 < ((rd_L13 l0 x5_1).length : Int)
       · rw [if_pos c11] at H
         have c11b0 : decide (x7_2 < ((rd_L13 l0 x5_1).length : Int)) = true := decide_eq_true c11
         clear c11
         by_cases c12 : 0 ≤ x7_2
         · rw [if_pos c12] at H
           have c12b0 : decide (0 ≤ x7_2) = true := decide_eq_true c12
           clear c12
           obtain ⟨bq13, hbq13⟩ : ∃ b_ : Bool, b_ = ((rd_T30 (rd_L13 l0 x5_1) x7_2).f1) := ⟨_, rfl⟩
           replace H : (if bq13 = true then (if x6_2.length < 2932031007402 then (if x4_2.length < 8796093022208 then (spec_l3Thin.l1 k2 l0 x3_1 (x4_2 ++ [(rd_T30 (rd_L13 l0 x5_1) x7_2).f0]) x5_1 (x6_2 ++ [(⟨(rd_T30 (rd_L13 l0 x5_1) x7_2).f0, bq13, (rd_T30 (rd_L13 l0 x5_1) x7_2).f2⟩ : S30)]) (wrap64 (x7_2 + 1))) else (none)) else (none)) else ((spec_l2Has.f k2 x4_2 ((rd_T30 (rd_L13 l0 x5_1) x7_2).f0)).bind fun t470 => (if t470 = true then (spec_l3Thin.l1 k2 l0 x3_1 x4_2 x5_1 x6_2 (wrap64 (x7_2 + 1))) else (if x6_2.length < 2932031007402 then (if x4_2.length < 8796093022208 then (spec_l3Thin.l1 k2 l0 x3_1 (x4_2 ++ [(rd_T30 (rd_L13 l0 x5_1) x7_2).f0]) x5_1 (x6_2 ++ [(⟨(rd_T30 (rd_L13 l0 x5_1) x7_2).f0, bq13, (rd_T30 (rd_L13 l0 x5_1) x7_2).f2⟩ : S30)]) (wrap64 (x7_2 + 1))) else (none)) else (none))))) = some r := by rw [← hbq13] at H; exact H
           have Nbq13 := aM hbq13; clear hbq13
           by_cases c14 : bq13 = true
           · subst c14
             have H1 : (if x6_2.length < 2932031007402 then (if x4_2.length < 8796093022208 then (spec_l3Thin.l1 k2 l0 x3_1 (x4_2 ++ [(rd_T30 (rd_L13 l0 x5_1) x7_2).f0]) x5_1 (x6_2 ++ [(⟨(rd_T30 (rd_L13 l0 x5_1) x7_2).f0, true, (rd_T30 (rd_L13 l0 x5_1) x7_2).f2⟩ : S30)]) (wrap64 (x7_2 + 1))) else (none)) else (none)) = some r := by rw [if_pos rfl] at H; exact H
             clear H
             have H := H1
             clear H1
             by_cases c15 : x6_2.length < 2932031007402
             · rw [if_pos c15] at H; have LMc15 := aM c15; clear c15
               obtain ⟨y460, hy460⟩ : ∃ y_ : List (S30), y_ = (x6_2 ++ [(⟨(rd_T30 (rd_L13 l0 x5_1) x7_2).f0, true, (rd_T30 (rd_L13 l0 x5_1) x7_2).f2⟩ : S30)]) := ⟨_, rfl⟩
               replace H : (if x4_2.length < 8796093022208 then (spec_l3Thin.l1 k2 l0 x3_1 (x4_2 ++ [(rd_T30 (rd_L13 l0 x5_1) x7_2).f0]) x5_1 y460 (wrap64 (x7_2 + 1))) else (none)) = some r := by first | (rw [hy460]; with_reducible exact H) | (have H2_ := (Option.bind_some _ _).symm.trans H; rw [hy460]; with_reducible exact H2_) | (have H2_ := (Option.bind_some _ _).symm.trans H; with_reducible exact H2_) | with_reducible exact H | (rw [hy460]; exact H) | exact H
               have Ny460 := aM hy460; clear hy460
               by_cases c16 : x4_2.length < 8796093022208
               · rw [if_pos c16] at H; have LMc16 := aM c16; clear c16
                 obtain ⟨y465, hy465⟩ : ∃ y_ : List ByteArray, y_ = (x4_2 ++ [(rd_T30 (rd_L13 l0 x5_1) x7_2).f0]) := ⟨_, rfl⟩
                 replace H : (spec_l3Thin.l1 k2 l0 x3_1 y465 x5_1 y460 (wrap64 (x7_2 + 1))) = some r := by first | (rw [hy465]; with_reducible exact H) | (have H2_ := (Option.bind_some _ _).symm.trans H; rw [hy465]; with_reducible exact H2_) | (have H2_ := (Option.bind_some _ _).symm.trans H; with_reducible exact H2_) | with_reducible exact H | (rw [hy465]; exact H) | exact H
                 have Ny465 := aM hy465; clear hy465
                 have H' := aM H
                 clear H
                 have p452 : 0 ≤ (x5_1 : Int) := oD (by first | with_reducible assumption | assumption)
                 have q452 : x5_1 < (l0.length : Int) := oD (by first | with_reducible assumption | assumption)
                 obtain ⟨ad452, A452_0, c452_0, e452, hx452_0, hl452_0, hi452_0⟩ := at_L13 (Kd.V_reads' HO_0.out).2.2 x5_1 p452 q452
                 cases e452
                 obtain ⟨ce452, hce452, hMe452, hcc452⟩ := Kd.V_get HO_0.out [] x5_1 p452 (by first | exact q452 | exact oD (by first | with_reducible assumption | assumption) | (have e_ := (Kd.V_reads' HO_0.out).1; omega))
                 obtain ⟨ua452_0, uc452_0, rfl, ul452_0, ge452_0⟩ := Kd.FK_slice_open hMe452
                 have hv452_0 := hcc452 0 _ rfl
                 rw [Nat.add_zero, show ((Kd.slice 30 k30)).sz = 1 from rfl, Nat.mul_one] at hv452_0
                 replace hv452_0 := Option.some.inj (hv452_0.symm.trans hx452_0)
                 injection hv452_0 with hva_ hvn_ hvc_
                 rw [hva_] at ge452_0
                 rw [hvc_] at ul452_0
                 have HL452_0 := aM (show Kd.V k30 30 _ w.heap.size _ _ (rd_L13 l0 x5_1) from Kd.V_mk ul452_0 ge452_0)
                 clear hva_ hvn_ hvc_ ge452_0 ul452_0 hcc452 hce452; have HR452_0 := aM hi452_0; have HC452_0 := aM hl452_0; clear hi452_0 hl452_0; replace p452 := eq_true p452; replace q452 := eq_true q452
                 have p456 : 0 ≤ (x5_1 : Int) := oD (by first | with_reducible assumption | assumption)
                 have q456 : x5_1 < (l0.length : Int) := oD (by first | with_reducible assumption | assumption)
                 obtain ⟨ad456, A456_0, c456_0, e456, hx456_0, hl456_0, hi456_0⟩ := at_L13 (Kd.V_reads' HO_0.out).2.2 x5_1 p456 q456
                 obtain rfl : ad452 = ad456 := (by injection e456)
                 obtain ⟨ce456, hce456, hMe456, hcc456⟩ := Kd.V_get HO_0.out [] x5_1 p456 (by first | exact q456 | exact oD (by first | with_reducible assumption | assumption) | (have e_ := (Kd.V_reads' HO_0.out).1; omega))
                 obtain ⟨ua456_0, uc456_0, rfl, ul456_0, ge456_0⟩ := Kd.FK_slice_open hMe456
                 have hv456_0 := hcc456 0 _ rfl
                 rw [Nat.add_zero, show ((Kd.slice 30 k30)).sz = 1 from rfl, Nat.mul_one] at hv456_0
                 replace hv456_0 := Option.some.inj (hv456_0.symm.trans hx456_0)
                 injection hv456_0 with hva_ hvn_ hvc_
                 rw [hva_] at ge456_0
                 rw [hvc_] at ul456_0
                 have HL456_0 := aM (show Kd.V k30 30 _ w.heap.size _ _ (rd_L13 l0 x5_1) from Kd.V_mk ul456_0 ge456_0)
                 clear hva_ hvn_ hvc_ ge456_0 ul456_0 hcc456 hce456; have HR456_0 := aM hi456_0; have HC456_0 := aM hl456_0; clear hi456_0 hl456_0; replace p456 := eq_true p456; replace q456 := eq_true q456
                 have ea_ := Option.some.inj (hx452_0.symm.trans hx456_0)
                 injection ea_ with ea_ en_ ec_
                 subst ea_; subst ec_; clear en_
                 have p457 : 0 ≤ (x7_2 : Int) := oD (by first | with_reducible assumption | assumption)
                 have q457 : x7_2 < ((rd_L13 l0 x5_1).length : Int) := oD (by first | with_reducible assumption | assumption)
                 obtain ⟨ad457, A457_2, c457_2, e457, hx457_0, hx457_1, hx457_2, hl457_2, hi457_2⟩ := at_T30 (by repeat (first | (with_reducible exact HR456_0.out) | (with_reducible first | refine Ca ?_ _ | refine Cn ?_ _ | refine Cd ?_) | exact HR456_0.out)) x7_2 p457 q457
                 (try rw [← Nbq13.out] at hx457_1)
                 cases e457
                 obtain ⟨ce457, hce457, hMe457, hcc457⟩ := Kd.V_get HL456_0.out z30 x7_2 p457 (by first | exact q457 | exact oD (by first | with_reducible assumption | assumption) | (have e_ := (Kd.V_reads' HL456_0.out).1; omega))
                 obtain ⟨ua457_2, uc457_2, rfl, ul457_2, ge457_2⟩ := k30_openF hMe457
                 have hv457_2 := hcc457 2 _ rfl
                 rw [add_field _ _ 2 (by omega)] at hv457_2
                 replace hv457_2 := Option.some.inj (hv457_2.symm.trans hx457_2)
                 injection hv457_2 with hva_ hvn_ hvc_
                 rw [hva_] at ge457_2
                 rw [hvc_] at ul457_2
                 have HL457_2 := aM (show Kd.V k38 38 _ w.heap.size _ _ ((rd_T30 (rd_L13 l0 x5_1) x7_2).f2) from Kd.V_mk ul457_2 ge457_2)
                 clear hva_ hvn_ hvc_ ge457_2 ul457_2 hcc457 hce457; have HR457_2 := aM hi457_2; have HC457_2 := aM hl457_2; clear hi457_2 hl457_2; replace p457 := eq_true p457; replace q457 := eq_true q457
                 have p458 : 0 ≤ (x5_1 : Int) := oD (by first | with_reducible assumption | assumption)
                 have q458 : x5_1 < (l0.length : Int) := oD (by first | with_reducible assumption | assumption)
                 obtain ⟨ad458, A458_0, c458_0, e458, hx458_0, hl458_0, hi458_0⟩ := at_L13 (Kd.V_reads' HO_0.out).2.2 x5_1 p458 q458
                 obtain rfl : ad452 = ad458 := (by injection e458)
                 obtain ⟨ce458, hce458, hMe458, hcc458⟩ := Kd.V_get HO_0.out [] x5_1 p458 (by first | exact q458 | exact oD (by first | with_reducible assumption | assumption) | (have e_ := (Kd.V_reads' HO_0.out).1; omega))
                 obtain ⟨ua458_0, uc458_0, rfl, ul458_0, ge458_0⟩ := Kd.FK_slice_open hMe458
                 have hv458_0 := hcc458 0 _ rfl
                 rw [Nat.add_zero, show ((Kd.slice 30 k30)).sz = 1 from rfl, Nat.mul_one] at hv458_0
                 replace hv458_0 := Option.some.inj (hv458_0.symm.trans hx458_0)
                 injection hv458_0 with hva_ hvn_ hvc_
                 rw [hva_] at ge458_0
                 rw [hvc_] at ul458_0
                 have HL458_0 := aM (show Kd.V k30 30 _ w.heap.size _ _ (rd_L13 l0 x5_1) from Kd.V_mk ul458_0 ge458_0)
                 clear hva_ hvn_ hvc_ ge458_0 ul458_0 hcc458 hce458; have HR458_0 := aM hi458_0; have HC458_0 := aM hl458_0; clear hi458_0 hl458_0; replace p458 := eq_true p458; replace q458 := eq_true q458
                 have ea_ := Option.some.inj (hx452_0.symm.trans hx458_0)
                 injection ea_ with ea_ en_ ec_
                 subst ea_; subst ec_; clear en_
                 have p459 : 0 ≤ (x7_2 : Int) := oD (by first | with_reducible assumption | assumption)
                 have q459 : x7_2 < ((rd_L13 l0 x5_1).length : Int) := oD (by first | with_reducible assumption | assumption)
                 obtain ⟨ad459, A459_2, c459_2, e459, hx459_0, hx459_1, hx459_2, hl459_2, hi459_2⟩ := at_T30 (by repeat (first | (with_reducible exact HR458_0.out) | (with_reducible first | refine Ca ?_ _ | refine Cn ?_ _ | refine Cd ?_) | exact HR458_0.out)) x7_2 p459 q459
                 (try rw [← Nbq13.out] at hx459_1)
                 cases e459
                 obtain ⟨ce459, hce459, hMe459, hcc459⟩ := Kd.V_get HL458_0.out z30 x7_2 p459 (by first | exact q459 | exact oD (by first | with_reducible assumption | assumption) | (have e_ := (Kd.V_reads' HL458_0.out).1; omega))
                 obtain ⟨ua459_2, uc459_2, rfl, ul459_2, ge459_2⟩ := k30_openF hMe459
                 have hv459_2 := hcc459 2 _ rfl
                 rw [add_field _ _ 2 (by omega)] at hv459_2
                 replace hv459_2 := Option.some.inj (hv459_2.symm.trans hx459_2)
                 injection hv459_2 with hva_ hvn_ hvc_
                 rw [hva_] at ge459_2
                 rw [hvc_] at ul459_2
                 have HL459_2 := aM (show Kd.V k38 38 _ w.heap.size _ _ ((rd_T30 (rd_L13 l0 x5_1) x7_2).f2) from Kd.V_mk ul459_2 ge459_2)
                 clear hva_ hvn_ hvc_ ge459_2 ul459_2 hcc459 hce459; have HR459_2 := aM hi459_2; have HC459_2 := aM hl459_2; clear hi459_2 hl459_2; replace p459 := eq_true p459; replace q459 := eq_true q459
                 have ea_ := Option.some.inj (hx457_2.symm.trans hx459_2)
                 injection ea_ with ea_ en_ ec_
                 subst ea_; subst ec_; clear en_
                 go_wp2_with (first | ((with_reducible refine gate_builtin (b := .append) (xs := #[.tmp 47, .tmp 55]) rfl ?_); at_builtin; refine Kd.N_append k30 (w0 := w) w.heap.size rfl (.tmp 47) (.tmp 55) 23 30 (.agg #[(.string ⟨#[]⟩), (.bool false), (.slice none 0 0)]) 48 rfl Try.underlying23 info30 rfl (by decide) (by omega) u6 x6_2 (⟨(rd_T30 (rd_L13 l0 x5_1) x7_2).f0, true, (rd_T30 (rd_L13 l0 x5_1) x7_2).f2⟩ : S30) [.string ((rd_T30 (rd_L13 l0 x5_1) x7_2).f0), .bool true, .slice A457_2 ((rd_T30 (rd_L13 l0 x5_1) x7_2).f2).length c457_2] (fun k_ => (P0_ k_ ∨ w.heap.size ≤ k_) ∧ some k_ ≠ (u3 : Value).ownBlock ∧ some k_ ≠ (u4 : Value).ownBlock) (fun k_ => ((fun k_ => (P0_ k_ ∨ w.heap.size ≤ k_) ∧ some k_ ≠ (u3 : Value).ownBlock ∧ some k_ ≠ (u4 : Value).ownBlock)) k_ ∧ some k_ ≠ (u6 : Value).ownBlock) rfl rfl ?aP (fun _ hk => hk) ?aF ?aO ?aB ?aS ?aL ?_; (case aP => exact (k30_mkF _ _ (⟨(rd_T30 (rd_L13 l0 x5_1) x7_2).f0, true, (rd_T30 (rd_L13 l0 x5_1) x7_2).f2⟩ : S30) (Kd.V_reads' (Kd.V_mono (ok' := (fun k_ => ((fun k_ => (P0_ k_ ∨ w.heap.size ≤ k_) ∧ some k_ ≠ (u3 : Value).ownBlock ∧ some k_ ≠ (u4 : Value).ownBlock)) k_ ∧ some k_ ≠ (u6 : Value).ownBlock)) (HL459_2.out) (fun k_ hk => ⟨⟨hk.1, ⟨hk.2.1, hk.2.2.1⟩⟩, hk.2.2.2⟩))).2.1 (Kd.V_F (Kd.V_mono (ok' := (fun k_ => ((fun k_ => (P0_ k_ ∨ w.heap.size ≤ k_) ∧ some k_ ≠ (u3 : Value).ownBlock ∧ some k_ ≠ (u4 : Value).ownBlock)) k_ ∧ some k_ ≠ (u6 : Value).ownBlock)) (HL459_2.out) (fun k_ hk => ⟨⟨hk.1, ⟨hk.2.1, hk.2.2.1⟩⟩, hk.2.2.2⟩))))); (case aB => exact (by repeat (with_reducible first | exact HB.out | apply bA | apply bN | apply bD))); (case aF => exact (fun k_ hk => ⟨(.inr (Nat.le_trans (below_size (by repeat (with_reducible first | exact HB.out | apply bA | apply bN | apply bD))) hk)), Kd.fresh' (Kd.N_lt (by (with_reducible repeat (first | apply Na | apply Nn | apply Nd)); exact HO_3.out)) k_ hk, Kd.fresh' (Kd.R_lt (by (with_reducible repeat (first | apply Ra | apply Rn | apply Rd)); exact HO_4.out)) k_ hk⟩)); (case aO => exact (by (with_reducible repeat (first | apply Na | apply Nn | apply Nd)); exact HO_6.out)); (case aS => exact (below_size (by repeat (with_reducible first | exact HB.out | apply bA | apply bN | apply bD)))); (case aL => have := LMc15.out; omega); intro v461 w17 ho hb hg hat; rw [← Ny460.out] at ho; have n0_ := aM (Kd.V_afterv (ok := (fun k_ => (P0_ k_ ∨ w.heap.size ≤ k_) ∧ some k_ ≠ (u3 : Value).ownBlock ∧ some k_ ≠ (u4 : Value).ownBlock)) (by (with_reducible repeat (first | apply Va | apply Vn | apply Vd)); exact Kd.V_mono HO_0.out (fun _ hk => ⟨⟨hk.1, ⟨hk.2.1, hk.2.2.1⟩⟩, hk.2.2.2⟩)) hg hat); have n1_ := aM (Kd.N_afterv (ok := (fun k_ => (P0_ k_ ∨ w.heap.size ≤ k_) ∧ some k_ ≠ (u4 : Value).ownBlock)) (by (with_reducible repeat (first | apply Na | apply Nn | apply Nd)); exact Kd.N_mono HO_3.out (fun _ hk => ⟨⟨hk.1, hk.2.1⟩, hk.2.2⟩)) hg hat); have n2_ := aM (Kd.R_over' (by (with_reducible repeat (first | apply Ra | apply Rn | apply Rd)); exact HO_4.out) (Kd.N_typed (by (with_reducible repeat (first | apply Na | apply Nn | apply Nd)); exact HO_6.out)) (by decide) hg); have n3_ := aM (Kd.V_afterv (ok := (fun k_ => (P0_ k_ ∨ w.heap.size ≤ k_) ∧ some k_ ≠ (u3 : Value).ownBlock ∧ some k_ ≠ (u4 : Value).ownBlock)) (by (with_reducible repeat (first | apply Va | apply Vn | apply Vd)); exact Kd.V_mono HL452_0.out (fun _ hk => ⟨⟨hk.1, ⟨hk.2.1, hk.2.2.1⟩⟩, hk.2.2.2⟩)) hg hat); have n4_ := aM (Kd.V_afterv (ok := (fun k_ => (P0_ k_ ∨ w.heap.size ≤ k_) ∧ some k_ ≠ (u3 : Value).ownBlock ∧ some k_ ≠ (u4 : Value).ownBlock)) (by (with_reducible repeat (first | apply Va | apply Vn | apply Vd)); exact Kd.V_mono HL456_0.out (fun _ hk => ⟨⟨hk.1, ⟨hk.2.1, hk.2.2.1⟩⟩, hk.2.2.2⟩)) hg hat); have n5_ := aM (Kd.V_afterv (ok := (fun k_ => (P0_ k_ ∨ w.heap.size ≤ k_) ∧ some k_ ≠ (u3 : Value).ownBlock ∧ some k_ ≠ (u4 : Value).ownBlock)) (by (with_reducible repeat (first | apply Va | apply Vn | apply Vd)); exact Kd.V_mono HL457_2.out (fun _ hk => ⟨⟨hk.1, ⟨hk.2.1, hk.2.2.1⟩⟩, hk.2.2.2⟩)) hg hat); have n6_ := aM (Kd.V_afterv (ok := (fun k_ => (P0_ k_ ∨ w.heap.size ≤ k_) ∧ some k_ ≠ (u3 : Value).ownBlock ∧ some k_ ≠ (u4 : Value).ownBlock)) (by (with_reducible repeat (first | apply Va | apply Vn | apply Vd)); exact Kd.V_mono HL458_0.out (fun _ hk => ⟨⟨hk.1, ⟨hk.2.1, hk.2.2.1⟩⟩, hk.2.2.2⟩)) hg hat); have n7_ := aM (Kd.V_afterv (ok := (fun k_ => (P0_ k_ ∨ w.heap.size ≤ k_) ∧ some k_ ≠ (u3 : Value).ownBlock ∧ some k_ ≠ (u4 : Value).ownBlock)) (by (with_reducible repeat (first | apply Va | apply Vn | apply Vd)); exact Kd.V_mono HL459_2.out (fun _ hk => ⟨⟨hk.1, ⟨hk.2.1, hk.2.2.1⟩⟩, hk.2.2.2⟩)) hg hat); have n8_ := aM (hb); have n9_ := aM (ho); clear HO_0 HO_3 HO_4 HL452_0 HL456_0 HL457_2 HL458_0 HL459_2 HB HO_6; have HO_0 := n0_; have HO_3 := n1_; have HO_4 := n2_; have HL452_0 := n3_; have HL456_0 := n4_; have HL457_2 := n5_; have HL458_0 := n6_; have HL459_2 := n7_; have HB := n8_; have HO462 := n9_; clear n0_ n1_ n2_ n3_ n4_ n5_ n6_ n7_ n8_ n9_ ho hb hg hat; have p463 : 0 ≤ (x5_1 : Int) := oD (by first | with_reducible assumption | assumption); have q463 : x5_1 < (l0.length : Int) := oD (by first | with_reducible assumption | assumption); obtain ⟨ad463, A463_0, c463_0, e463, hx463_0, hl463_0, hi463_0⟩ := at_L13 (Kd.V_reads' HO_0.out).2.2 x5_1 p463 q463; obtain rfl : ad452 = ad463 := (by injection e463); obtain ⟨ce463, hce463, hMe463, hcc463⟩ := Kd.V_get HO_0.out [] x5_1 p463 (by first | exact q463 | exact oD (by first | with_reducible assumption | assumption) | (have e_ := (Kd.V_reads' HO_0.out).1; omega)); obtain ⟨ua463_0, uc463_0, rfl, ul463_0, ge463_0⟩ := Kd.FK_slice_open hMe463; have hv463_0 := hcc463 0 _ rfl; rw [Nat.add_zero, show ((Kd.slice 30 k30)).sz = 1 from rfl, Nat.mul_one] at hv463_0; replace hv463_0 := Option.some.inj (hv463_0.symm.trans hx463_0); injection hv463_0 with hva_ hvn_ hvc_; rw [hva_] at ge463_0; rw [hvc_] at ul463_0; have HL463_0 := aM (show Kd.V k30 30 _ w.heap.size _ _ (rd_L13 l0 x5_1) from Kd.V_mk ul463_0 ge463_0); clear hva_ hvn_ hvc_ ge463_0 ul463_0 hcc463 hce463; have HR463_0 := aM hi463_0; have HC463_0 := aM hl463_0; clear hi463_0 hl463_0; replace p463 := eq_true p463; replace q463 := eq_true q463; have p464 : 0 ≤ (x7_2 : Int) := oD (by first | with_reducible assumption | assumption); have q464 : x7_2 < ((rd_L13 l0 x5_1).length : Int) := oD (by first | with_reducible assumption | assumption); obtain ⟨ad464, A464_2, c464_2, e464, hx464_0, hx464_1, hx464_2, hl464_2, hi464_2⟩ := at_T30 (by repeat (first | (with_reducible exact HR463_0.out) | (with_reducible first | refine Ca ?_ _ | refine Cn ?_ _ | refine Cd ?_) | exact HR463_0.out)) x7_2 p464 q464; (try rw [← Nbq13.out] at hx464_1); cases e464; obtain ⟨ce464, hce464, hMe464, hcc464⟩ := Kd.V_get HL463_0.out z30 x7_2 p464 (by first | exact q464 | exact oD (by first | with_reducible assumption | assumption) | (have e_ := (Kd.V_reads' HL463_0.out).1; omega)); obtain ⟨ua464_2, uc464_2, rfl, ul464_2, ge464_2⟩ := k30_openF hMe464; have hv464_2 := hcc464 2 _ rfl; rw [add_field _ _ 2 (by omega)] at hv464_2; replace hv464_2 := Option.some.inj (hv464_2.symm.trans hx464_2); injection hv464_2 with hva_ hvn_ hvc_; rw [hva_] at ge464_2; rw [hvc_] at ul464_2; have HL464_2 := aM (show Kd.V k38 38 _ w.heap.size _ _ ((rd_T30 (rd_L13 l0 x5_1) x7_2).f2) from Kd.V_mk ul464_2 ge464_2); clear hva_ hvn_ hvc_ ge464_2 ul464_2 hcc464 hce464; have HR464_2 := aM hi464_2; have HC464_2 := aM hl464_2; clear hi464_2 hl464_2; replace p464 := eq_true p464; replace q464 := eq_true q464) | ((with_reducible refine gate_builtin (b := .append) (xs := #[.tmp 57, .tmp 66]) rfl ?_); at_builtin; refine Kd.R_append Kd.string (w0 := w) w.heap.size rfl (.tmp 57) (.tmp 66) 33 9 (.string ⟨#[]⟩) 16 rfl Try.underlying33 info9 rfl (by decide) (by omega) u4 x4_2 ((rd_T30 (rd_L13 l0 x5_1) x7_2).f0) [.string ((rd_T30 (rd_L13 l0 x5_1) x7_2).f0)] (fun k_ => (w.heap.size ≤ k_)) (fun _ => False) rfl rfl ?aP (fun _ hk => hk.elim) ?aF ?aO ?aB ?aS ?aL ?_; (case aP => exact rfl); (case aB => exact (by repeat (with_reducible first | exact HB.out | apply bA | apply bN | apply bD))); (case aF => exact (fun k_ hk => (Nat.le_trans (below_size (by repeat (with_reducible first | exact HB.out | apply bA | apply bN | apply bD))) hk))); (case aO => exact (by (with_reducible repeat (first | apply Ra | apply Rn | apply Rd)); exact HO_4.out)); (case aS => exact (below_size (by repeat (with_reducible first | exact HB.out | apply bA | apply bN | apply bD)))); (case aL => have := LMc16.out; omega); intro v466 w18 ho hb hg hat; rw [← Ny465.out] at ho; have n0_ := aM (Kd.V_afterv (ok := (fun k_ => (P0_ k_ ∨ w.heap.size ≤ k_) ∧ some k_ ≠ (u3 : Value).ownBlock ∧ some k_ ≠ (v461 : Value).ownBlock)) (by (with_reducible repeat (first | apply Va | apply Vn | apply Vd)); exact Kd.V_mono HO_0.out (fun _ hk => ⟨⟨hk.1.1, ⟨hk.1.2.1, hk.2⟩⟩, hk.1.2.2⟩)) hg hat); have n1_ := aM (Kd.N_afterv (ok := (fun k_ => (P0_ k_ ∨ w.heap.size ≤ k_) ∧ some k_ ≠ (v461 : Value).ownBlock)) (by (with_reducible repeat (first | apply Na | apply Nn | apply Nd)); exact Kd.N_mono HO_3.out (fun _ hk => ⟨⟨hk.1.1, hk.2⟩, hk.1.2⟩)) hg hat); have n2_ := aM (Kd.V_afterv (ok := (fun k_ => (P0_ k_ ∨ w.heap.size ≤ k_) ∧ some k_ ≠ (u3 : Value).ownBlock ∧ some k_ ≠ (v461 : Value).ownBlock)) (by (with_reducible repeat (first | apply Va | apply Vn | apply Vd)); exact Kd.V_mono HL452_0.out (fun _ hk => ⟨⟨hk.1.1, ⟨hk.1.2.1, hk.2⟩⟩, hk.1.2.2⟩)) hg hat); have n3_ := aM (Kd.V_afterv (ok := (fun k_ => (P0_ k_ ∨ w.heap.size ≤ k_) ∧ some k_ ≠ (u3 : Value).ownBlock ∧ some k_ ≠ (v461 : Value).ownBlock)) (by (with_reducible repeat (first | apply Va | apply Vn | apply Vd)); exact Kd.V_mono HL456_0.out (fun _ hk => ⟨⟨hk.1.1, ⟨hk.1.2.1, hk.2⟩⟩, hk.1.2.2⟩)) hg hat); have n4_ := aM (Kd.V_afterv (ok := (fun k_ => (P0_ k_ ∨ w.heap.size ≤ k_) ∧ some k_ ≠ (u3 : Value).ownBlock ∧ some k_ ≠ (v461 : Value).ownBlock)) (by (with_reducible repeat (first | apply Va | apply Vn | apply Vd)); exact Kd.V_mono HL457_2.out (fun _ hk => ⟨⟨hk.1.1, ⟨hk.1.2.1, hk.2⟩⟩, hk.1.2.2⟩)) hg hat); have n5_ := aM (Kd.V_afterv (ok := (fun k_ => (P0_ k_ ∨ w.heap.size ≤ k_) ∧ some k_ ≠ (u3 : Value).ownBlock ∧ some k_ ≠ (v461 : Value).ownBlock)) (by (with_reducible repeat (first | apply Va | apply Vn | apply Vd)); exact Kd.V_mono HL458_0.out (fun _ hk => ⟨⟨hk.1.1, ⟨hk.1.2.1, hk.2⟩⟩, hk.1.2.2⟩)) hg hat); have n6_ := aM (Kd.V_afterv (ok := (fun k_ => (P0_ k_ ∨ w.heap.size ≤ k_) ∧ some k_ ≠ (u3 : Value).ownBlock ∧ some k_ ≠ (v461 : Value).ownBlock)) (by (with_reducible repeat (first | apply Va | apply Vn | apply Vd)); exact Kd.V_mono HL459_2.out (fun _ hk => ⟨⟨hk.1.1, ⟨hk.1.2.1, hk.2⟩⟩, hk.1.2.2⟩)) hg hat); have n7_ := aM (Kd.N_afterv (ok := (fun k_ => (P0_ k_ ∨ w.heap.size ≤ k_) ∧ some k_ ≠ (u3 : Value).ownBlock)) (by (with_reducible repeat (first | apply Na | apply Nn | apply Nd)); exact Kd.N_mono HO462.out (fun _ hk => ⟨⟨hk.1, hk.2.1⟩, hk.2.2⟩)) hg hat); have n8_ := aM (Kd.V_afterv (ok := (fun k_ => (P0_ k_ ∨ w.heap.size ≤ k_) ∧ some k_ ≠ (u3 : Value).ownBlock ∧ some k_ ≠ (v461 : Value).ownBlock)) (by (with_reducible repeat (first | apply Va | apply Vn | apply Vd)); exact Kd.V_mono HL463_0.out (fun _ hk => ⟨⟨hk.1.1, ⟨hk.1.2.1, hk.2⟩⟩, hk.1.2.2⟩)) hg hat); have n9_ := aM (Kd.V_afterv (ok := (fun k_ => (P0_ k_ ∨ w.heap.size ≤ k_) ∧ some k_ ≠ (u3 : Value).ownBlock ∧ some k_ ≠ (v461 : Value).ownBlock)) (by (with_reducible repeat (first | apply Va | apply Vn | apply Vd)); exact Kd.V_mono HL464_2.out (fun _ hk => ⟨⟨hk.1.1, ⟨hk.1.2.1, hk.2⟩⟩, hk.1.2.2⟩)) hg hat); have n10_ := aM (hb); have n11_ := aM (ho); clear HO_0 HO_3 HL452_0 HL456_0 HL457_2 HL458_0 HL459_2 HO462 HL463_0 HL464_2 HB HO_4; have HO_0 := n0_; have HO_3 := n1_; have HL452_0 := n2_; have HL456_0 := n3_; have HL457_2 := n4_; have HL458_0 := n5_; have HL459_2 := n6_; have HO462 := n7_; have HL463_0 := n8_; have HL464_2 := n9_; have HB := n10_; have HO467 := n11_; clear n0_ n1_ n2_ n3_ n4_ n5_ n6_ n7_ n8_ n9_ n10_ n11_ ho hb hg hat))
                 go_roundg k2
                 case measure => have := HK1.out; have := HK2.out; omega
                 case rel => exact ⟨(y465), (y460), (wrap64 (x7_2 + 1)), (by first | rfl | (simp; done) | (simp [*]; done)), H', ⟨by have := HK1.out; have := HK2.out; omega⟩, ⟨by (with_reducible repeat (first | apply Va | apply Vn | apply Vd)); exact Kd.V_mono HO_0.out (fun _ hk => ⟨hk.1.1, ⟨hk.1.2.1, ⟨hk.2, hk.1.2.2⟩⟩⟩)⟩, ⟨by (with_reducible repeat (first | apply Na | apply Nn | apply Nd)); exact Kd.N_mono HO_3.out (fun _ hk => ⟨hk.1.1, ⟨hk.2, hk.1.2⟩⟩)⟩, ⟨by (with_reducible repeat (first | apply Ra | apply Rn | apply Rd)); exact HO467.out⟩, ⟨by (with_reducible repeat (first | apply Na | apply Nn | apply Nd)); exact Kd.N_mono HO462.out (fun _ hk => ⟨hk.1.1, ⟨hk.1.2, hk.2⟩⟩)⟩, ⟨by repeat (with_reducible first | exact HB.out | apply bA | apply bN | apply bD)⟩⟩
               rw [if_neg c16] at H
               exact absurd H (by simp)
             rw [if_neg c15] at H
             exact absurd H (by simp)
           replace c14 := Bool.eq_false_iff.mpr c14
           subst c14
           have H1 : ((spec_l2Has.f k2 x4_2 ((rd_T30 (rd_L13 l0 x5_1) x7_2).f0)).bind fun t470 => (if t470 = true then (spec_l3Thin.l1 k2 l0 x3_1 x4_2 x5_1 x6_2 (wrap64 (x7_2 + 1))) else (if x6_2.length < 2932031007402 then (if x4_2.length < 8796093022208 then (spec_l3Thin.l1 k2 l0 x3_1 (x4_2 ++ [(rd_T30 (rd_L13 l0 x5_1) x7_2).f0]) x5_1 (x6_2 ++ [(⟨(rd_T30 (rd_L13 l0 x5_1) x7_2).f0, false, (rd_T30 (rd_L13 l0 x5_1) x7_2).f2⟩ : S30)]) (wrap64 (x7_2 + 1))) else (none)) else (none)))) = some r := by rw [if_neg (show ¬ (false = true) by decide)] at H; exact H
           clear H
           have H := H1
           clear H1
           replace H := Option.bind_eq_some_iff.mp H
           obtain ⟨t470, A190, H⟩ := H
           replace H : (if t470 = true then (spec_l3Thin.l1 k2 l0 x3_1 x4_2 x5_1 x6_2 (wrap64 (x7_2 + 1))) else (if x6_2.length < 2932031007402 then (if x4_2.length < 8796093022208 then (spec_l3Thin.l1 k2 l0 x3_1 (x4_2 ++ [(rd_T30 (rd_L13 l0 x5_1) x7_2).f0]) x5_1 (x6_2 ++ [(⟨(rd_T30 (rd_L13 l0 x5_1) x7_2).f0, false, (rd_T30 (rd_L13 l0 x5_1) x7_2).f2⟩ : S30)]) (wrap64 (x7_2 + 1))) else (none)) else (none))) = some r := H
           have A19 := aM A190; clear A190
           by_cases c20 : t470 = true
           · subst c20
             have H1 : (spec_l3Thin.l1 k2 l0 x3_1 x4_2 x5_1 x6_2 (wrap64 (x7_2 + 1))) = some r := by rw [if_pos rfl] at H; exact H
             clear H
             have H := H1
             clear H1
             have H' := aM H
             clear H
             have p452 : 0 ≤ (x5_1 : Int) := oD (by first | with_reducible assumption | assumption)
             have q452 : x5_1 < (l0.length : Int) := oD (by first | with_reducible assumption | assumption)
             obtain ⟨ad452, A452_0, c452_0, e452, hx452_0, hl452_0, hi452_0⟩ := at_L13 (Kd.V_reads' HO_0.out).2.2 x5_1 p452 q452
             cases e452
             obtain ⟨ce452, hce452, hMe452, hcc452⟩ := Kd.V_get HO_0.out [] x5_1 p452 (by first | exact q452 | exact oD (by first | with_reducible assumption | assumption) | (have e_ := (Kd.V_reads' HO_0.out).1; omega))
             obtain ⟨ua452_0, uc452_0, rfl, ul452_0, ge452_0⟩ := Kd.FK_slice_open hMe452
             have hv452_0 := hcc452 0 _ rfl
             rw [Nat.add_zero, show ((Kd.slice 30 k30)).sz = 1 from rfl, Nat.mul_one] at hv452_0
             replace hv452_0 := Option.some.inj (hv452_0.symm.trans hx452_0)
             injection hv452_0 with hva_ hvn_ hvc_
             rw [hva_] at ge452_0
             rw [hvc_] at ul452_0
             have HL452_0 := aM (show Kd.V k30 30 _ w.heap.size _ _ (rd_L13 l0 x5_1) from Kd.V_mk ul452_0 ge452_0)
             clear hva_ hvn_ hvc_ ge452_0 ul452_0 hcc452 hce452; have HR452_0 := aM hi452_0; have HC452_0 := aM hl452_0; clear hi452_0 hl452_0; replace p452 := eq_true p452; replace q452 := eq_true q452
             have p456 : 0 ≤ (x5_1 : Int) := oD (by first | with_reducible assumption | assumption)
             have q456 : x5_1 < (l0.length : Int) := oD (by first | with_reducible assumption | assumption)
             obtain ⟨ad456, A456_0, c456_0, e456, hx456_0, hl456_0, hi456_0⟩ := at_L13 (Kd.V_reads' HO_0.out).2.2 x5_1 p456 q456
             obtain rfl : ad452 = ad456 := (by injection e456)
             obtain ⟨ce456, hce456, hMe456, hcc456⟩ := Kd.V_get HO_0.out [] x5_1 p456 (by first | exact q456 | exact oD (by first | with_reducible assumption | assumption) | (have e_ := (Kd.V_reads' HO_0.out).1; omega))
             obtain ⟨ua456_0, uc456_0, rfl, ul456_0, ge456_0⟩ := Kd.FK_slice_open hMe456
             have hv456_0 := hcc456 0 _ rfl
             rw [Nat.add_zero, show ((Kd.slice 30 k30)).sz = 1 from rfl, Nat.mul_one] at hv456_0
             replace hv456_0 := Option.some.inj (hv456_0.symm.trans hx456_0)
             injection hv456_0 with hva_ hvn_ hvc_
             rw [hva_] at ge456_0
             rw [hvc_] at ul456_0
             have HL456_0 := aM (show Kd.V k30 30 _ w.heap.size _ _ (rd_L13 l0 x5_1) from Kd.V_mk ul456_0 ge456_0)
             clear hva_ hvn_ hvc_ ge456_0 ul456_0 hcc456 hce456; have HR456_0 := aM hi456_0; have HC456_0 := aM hl456_0; clear hi456_0 hl456_0; replace p456 := eq_true p456; replace q456 := eq_true q456
             have ea_ := Option.some.inj (hx452_0.symm.trans hx456_0)
             injection ea_ with ea_ en_ ec_
             subst ea_; subst ec_; clear en_
             have p457 : 0 ≤ (x7_2 : Int) := oD (by first | with_reducible assumption | assumption)
             have q457 : x7_2 < ((rd_L13 l0 x5_1).length : Int) := oD (by first | with_reducible assumption | assumption)
             obtain ⟨ad457, A457_2, c457_2, e457, hx457_0, hx457_1, hx457_2, hl457_2, hi457_2⟩ := at_T30 (by repeat (first | (with_reducible exact HR456_0.out) | (with_reducible first | refine Ca ?_ _ | refine Cn ?_ _ | refine Cd ?_) | exact HR456_0.out)) x7_2 p457 q457
             (try rw [← Nbq13.out] at hx457_1)
             cases e457
             obtain ⟨ce457, hce457, hMe457, hcc457⟩ := Kd.V_get HL456_0.out z30 x7_2 p457 (by first | exact q457 | exact oD (by first | with_reducible assumption | assumption) | (have e_ := (Kd.V_reads' HL456_0.out).1; omega))
             obtain ⟨ua457_2, uc457_2, rfl, ul457_2, ge457_2⟩ := k30_openF hMe457
             have hv457_2 := hcc457 2 _ rfl
             rw [add_field _ _ 2 (by omega)] at hv457_2
             replace hv457_2 := Option.some.inj (hv457_2.symm.trans hx457_2)
             injection hv457_2 with hva_ hvn_ hvc_
             rw [hva_] at ge457_2
             rw [hvc_] at ul457_2
             have HL457_2 := aM (show Kd.V k38 38 _ w.heap.size _ _ ((rd_T30 (rd_L13 l0 x5_1) x7_2).f2) from Kd.V_mk ul457_2 ge457_2)
             clear hva_ hvn_ hvc_ ge457_2 ul457_2 hcc457 hce457; have HR457_2 := aM hi457_2; have HC457_2 := aM hl457_2; clear hi457_2 hl457_2; replace p457 := eq_true p457; replace q457 := eq_true q457
             have p468 : 0 ≤ (x5_1 : Int) := oD (by first | with_reducible assumption | assumption)
             have q468 : x5_1 < (l0.length : Int) := oD (by first | with_reducible assumption | assumption)
             obtain ⟨ad468, A468_0, c468_0, e468, hx468_0, hl468_0, hi468_0⟩ := at_L13 (Kd.V_reads' HO_0.out).2.2 x5_1 p468 q468
             obtain rfl : ad452 = ad468 := (by injection e468)
             obtain ⟨ce468, hce468, hMe468, hcc468⟩ := Kd.V_get HO_0.out [] x5_1 p468 (by first | exact q468 | exact oD (by first | with_reducible assumption | assumption) | (have e_ := (Kd.V_reads' HO_0.out).1; omega))
             obtain ⟨ua468_0, uc468_0, rfl, ul468_0, ge468_0⟩ := Kd.FK_slice_open hMe468
             have hv468_0 := hcc468 0 _ rfl
             rw [Nat.add_zero, show ((Kd.slice 30 k30)).sz = 1 from rfl, Nat.mul_one] at hv468_0
             replace hv468_0 := Option.some.inj (hv468_0.symm.trans hx468_0)
             injection hv468_0 with hva_ hvn_ hvc_
             rw [hva_] at ge468_0
             rw [hvc_] at ul468_0
             have HL468_0 := aM (show Kd.V k30 30 _ w.heap.size _ _ (rd_L13 l0 x5_1) from Kd.V_mk ul468_0 ge468_0)
             clear hva_ hvn_ hvc_ ge468_0 ul468_0 hcc468 hce468; have HR468_0 := aM hi468_0; have HC468_0 := aM hl468_0; clear hi468_0 hl468_0; replace p468 := eq_true p468; replace q468 := eq_true q468
             have ea_ := Option.some.inj (hx452_0.symm.trans hx468_0)
             injection ea_ with ea_ en_ ec_
             subst ea_; subst ec_; clear en_
             have p469 : 0 ≤ (x7_2 : Int) := oD (by first | with_reducible assumption | assumption)
             have q469 : x7_2 < ((rd_L13 l0 x5_1).length : Int) := oD (by first | with_reducible assumption | assumption)
             obtain ⟨ad469, A469_2, c469_2, e469, hx469_0, hx469_1, hx469_2, hl469_2, hi469_2⟩ := at_T30 (by repeat (first | (with_reducible exact HR468_0.out) | (with_reducible first | refine Ca ?_ _ | refine Cn ?_ _ | refine Cd ?_) | exact HR468_0.out)) x7_2 p469 q469
             (try rw [← Nbq13.out] at hx469_1)
             cases e469
             obtain ⟨ce469, hce469, hMe469, hcc469⟩ := Kd.V_get HL468_0.out z30 x7_2 p469 (by first | exact q469 | exact oD (by first | with_reducible assumption | assumption) | (have e_ := (Kd.V_reads' HL468_0.out).1; omega))
             obtain ⟨ua469_2, uc469_2, rfl, ul469_2, ge469_2⟩ := k30_openF hMe469
             have hv469_2 := hcc469 2 _ rfl
             rw [add_field _ _ 2 (by omega)] at hv469_2
             replace hv469_2 := Option.some.inj (hv469_2.symm.trans hx469_2)
             injection hv469_2 with hva_ hvn_ hvc_
             rw [hva_] at ge469_2
             rw [hvc_] at ul469_2
             have HL469_2 := aM (show Kd.V k38 38 _ w.heap.size _ _ ((rd_T30 (rd_L13 l0 x5_1) x7_2).f2) from Kd.V_mk ul469_2 ge469_2)
             clear hva_ hvn_ hvc_ ge469_2 ul469_2 hcc469 hce469; have HR469_2 := aM hi469_2; have HC469_2 := aM hl469_2; clear hi469_2 hl469_2; replace p469 := eq_true p469; replace q469 := eq_true q469
             have ea_ := Option.some.inj (hx457_2.symm.trans hx469_2)
             injection ea_ with ea_ en_ ec_
             subst ea_; subst ec_; clear en_
             obtain ⟨Ao21, co21, eo21⟩ := Kd.R_slice HO_4.out
             subst eo21
             go_wp2_with (first | (go_at_call 117; (with_reducible refine (spec_l2Has.calls k2 _ _ x4_2 ((rd_T30 (rd_L13 l0 x5_1) x7_2).f0) true _ ?side1 ?side2 A19.out).mono ?_); (case side1 => repeat (first | exact (Kd.R_reads' HO_4.out).2.2 | (with_reducible first | refine Ca ?_ _ | refine Cn ?_ _ | refine Cd ?_))); (case side2 => exact (Kd.R_reads' HO_4.out).2.1); rintro e w' ⟨rfl, ⟨nd, rfl⟩⟩))
             go_roundg k2
             case measure => have := HK1.out; have := HK2.out; omega
             case rel => exact ⟨(x4_2), (x6_2), (wrap64 (x7_2 + 1)), (by first | rfl | (simp; done) | (simp [*]; done)), H', ⟨by have := HK1.out; have := HK2.out; omega⟩, ⟨by (with_reducible repeat (first | apply Va | apply Vn | apply Vd)); exact HO_0.out⟩, ⟨by (with_reducible repeat (first | apply Na | apply Nn | apply Nd)); exact HO_3.out⟩, ⟨by (with_reducible repeat (first | apply Ra | apply Rn | apply Rd)); exact HO_4.out⟩, ⟨by (with_reducible repeat (first | apply Na | apply Nn | apply Nd)); exact HO_6.out⟩, ⟨by repeat (with_reducible first | exact HB.out | apply bA | apply bN | apply bD)⟩⟩
           replace c20 := Bool.eq_false_iff.mpr c20
           subst c20
           have H1 : (if x6_2.length < 2932031007402 then (if x4_2.length < 8796093022208 then (spec_l3Thin.l1 k2 l0 x3_1 (x4_2 ++ [(rd_T30 (rd_L13 l0 x5_1) x7_2).f0]) x5_1 (x6_2 ++ [(⟨(rd_T30 (rd_L13 l0 x5_1) x7_2).f0, false, (rd_T30 (rd_L13 l0 x5_1) x7_2).f2⟩ : S30)]) (wrap64 (x7_2 + 1))) else (none)) else (none)) = some r := by rw [if_neg (show ¬ (false = true) by decide)] at H; exact H
           clear H
           have H := H1
           clear H1
           by_cases c22 : x6_2.length < 2932031007402
           · rw [if_pos c22] at H; have LMc22 := aM c22; clear c22
             obtain ⟨y473, hy473⟩ : ∃ y_ : List (S30), y_ = (x6_2 ++ [(⟨(rd_T30 (rd_L13 l0 x5_1) x7_2).f0, false, (rd_T30 (rd_L13 l0 x5_1) x7_2).f2⟩ : S30)]) := ⟨_, rfl⟩
             replace H : (if x4_2.length < 8796093022208 then (spec_l3Thin.l1 k2 l0 x3_1 (x4_2 ++ [(rd_T30 (rd_L13 l0 x5_1) x7_2).f0]) x5_1 y473 (wrap64 (x7_2 + 1))) else (none)) = some r := by first | (rw [hy473]; with_reducible exact H) | (have H2_ := (Option.bind_some _ _).symm.trans H; rw [hy473]; with_reducible exact H2_) | (have H2_ := (Option.bind_some _ _).symm.trans H; with_reducible exact H2_) | with_reducible exact H | (rw [hy473]; exact H) | exact H
             have Ny473 := aM hy473; clear hy473
             by_cases c23 : x4_2.length < 8796093022208
             · rw [if_pos c23] at H; have LMc23 := aM c23; clear c23
               obtain ⟨y478, hy478⟩ : ∃ y_ : List ByteArray, y_ = (x4_2 ++ [(rd_T30 (rd_L13 l0 x5_1) x7_2).f0]) := ⟨_, rfl⟩
               replace H : (spec_l3Thin.l1 k2 l0 x3_1 y478 x5_1 y473 (wrap64 (x7_2 + 1))) = some r := by first | (rw [hy478]; with_reducible exact H) | (have H2_ := (Option.bind_some _ _).symm.trans H; rw [hy478]; with_reducible exact H2_) | (have H2_ := (Option.bind_some _ _).symm.trans H; with_reducible exact H2_) | with_reducible exact H | (rw [hy478]; exact H) | exact H
               have Ny478 := aM hy478; clear hy478
               have H' := aM H
               clear H
               have p452 : 0 ≤ (x5_1 : Int) := oD (by first | with_reducible assumption | assumption)
               have q452 : x5_1 < (l0.length : Int) := oD (by first | with_reducible assumption | assumption)
               obtain ⟨ad452, A452_0, c452_0, e452, hx452_0, hl452_0, hi452_0⟩ := at_L13 (Kd.V_reads' HO_0.out).2.2 x5_1 p452 q452
               cases e452
               obtain ⟨ce452, hce452, hMe452, hcc452⟩ := Kd.V_get HO_0.out [] x5_1 p452 (by first | exact q452 | exact oD (by first | with_reducible assumption | assumption) | (have e_ := (Kd.V_reads' HO_0.out).1; omega))
               obtain ⟨ua452_0, uc452_0, rfl, ul452_0, ge452_0⟩ := Kd.FK_slice_open hMe452
               have hv452_0 := hcc452 0 _ rfl
               rw [Nat.add_zero, show ((Kd.slice 30 k30)).sz = 1 from rfl, Nat.mul_one] at hv452_0
               replace hv452_0 := Option.some.inj (hv452_0.symm.trans hx452_0)
               injection hv452_0 with hva_ hvn_ hvc_
               rw [hva_] at ge452_0
               rw [hvc_] at ul452_0
               have HL452_0 := aM (show Kd.V k30 30 _ w.heap.size _ _ (rd_L13 l0 x5_1) from Kd.V_mk ul452_0 ge452_0)
               clear hva_ hvn_ hvc_ ge452_0 ul452_0 hcc452 hce452; have HR452_0 := aM hi452_0; have HC452_0 := aM hl452_0; clear hi452_0 hl452_0; replace p452 := eq_true p452; replace q452 := eq_true q452
               have p456 : 0 ≤ (x5_1 : Int) := oD (by first | with_reducible assumption | assumption)
               have q456 : x5_1 < (l0.length : Int) := oD (by first | with_reducible assumption | assumption)
               obtain ⟨ad456, A456_0, c456_0, e456, hx456_0, hl456_0, hi456_0⟩ := at_L13 (Kd.V_reads' HO_0.out).2.2 x5_1 p456 q456
               obtain rfl : ad452 = ad456 := (by injection e456)
               obtain ⟨ce456, hce456, hMe456, hcc456⟩ := Kd.V_get HO_0.out [] x5_1 p456 (by first | exact q456 | exact oD (by first | with_reducible assumption | assumption) | (have e_ := (Kd.V_reads' HO_0.out).1; omega))
               obtain ⟨ua456_0, uc456_0, rfl, ul456_0, ge456_0⟩ := Kd.FK_slice_open hMe456
               have hv456_0 := hcc456 0 _ rfl
               rw [Nat.add_zero, show ((Kd.slice 30 k30)).sz = 1 from rfl, Nat.mul_one] at hv456_0
               replace hv456_0 := Option.some.inj (hv456_0.symm.trans hx456_0)
               injection hv456_0 with hva_ hvn_ hvc_
               rw [hva_] at ge456_0
               rw [hvc_] at ul456_0
               have HL456_0 := aM (show Kd.V k30 30 _ w.heap.size _ _ (rd_L13 l0 x5_1) from Kd.V_mk ul456_0 ge456_0)
               clear hva_ hvn_ hvc_ ge456_0 ul456_0 hcc456 hce456; have HR456_0 := aM hi456_0; have HC456_0 := aM hl456_0; clear hi456_0 hl456_0; replace p456 := eq_true p456; replace q456 := eq_true q456
               have ea_ := Option.some.inj (hx452_0.symm.trans hx456_0)
               injection ea_ with ea_ en_ ec_
               subst ea_; subst ec_; clear en_
               have p457 : 0 ≤ (x7_2 : Int) := oD (by first | with_reducible assumption | assumption)
               have q457 : x7_2 < ((rd_L13 l0 x5_1).length : Int) := oD (by first | with_reducible assumption | assumption)
               obtain ⟨ad457, A457_2, c457_2, e457, hx457_0, hx457_1, hx457_2, hl457_2, hi457_2⟩ := at_T30 (by repeat (first | (with_reducible exact HR456_0.out) | (with_reducible first | refine Ca ?_ _ | refine Cn ?_ _ | refine Cd ?_) | exact HR456_0.out)) x7_2 p457 q457
               (try rw [← Nbq13.out] at hx457_1)
               cases e457
               obtain ⟨ce457, hce457, hMe457, hcc457⟩ := Kd.V_get HL456_0.out z30 x7_2 p457 (by first | exact q457 | exact oD (by first | with_reducible assumption | assumption) | (have e_ := (Kd.V_reads' HL456_0.out).1; omega))
               obtain ⟨ua457_2, uc457_2, rfl, ul457_2, ge457_2⟩ := k30_openF hMe457
               have hv457_2 := hcc457 2 _ rfl
               rw [add_field _ _ 2 (by omega)] at hv457_2
               replace hv457_2 := Option.some.inj (hv457_2.symm.trans hx457_2)
               injection hv457_2 with hva_ hvn_ hvc_
               rw [hva_] at ge457_2
               rw [hvc_] at ul457_2
               have HL457_2 := aM (show Kd.V k38 38 _ w.heap.size _ _ ((rd_T30 (rd_L13 l0 x5_1) x7_2).f2) from Kd.V_mk ul457_2 ge457_2)
               clear hva_ hvn_ hvc_ ge457_2 ul457_2 hcc457 hce457; have HR457_2 := aM hi457_2; have HC457_2 := aM hl457_2; clear hi457_2 hl457_2; replace p457 := eq_true p457; replace q457 := eq_true q457
               have p468 : 0 ≤ (x5_1 : Int) := oD (by first | with_reducible assumption | assumption)
               have q468 : x5_1 < (l0.length : Int) := oD (by first | with_reducible assumption | assumption)
               obtain ⟨ad468, A468_0, c468_0, e468, hx468_0, hl468_0, hi468_0⟩ := at_L13 (Kd.V_reads' HO_0.out).2.2 x5_1 p468 q468
               obtain rfl : ad452 = ad468 := (by injection e468)
               obtain ⟨ce468, hce468, hMe468, hcc468⟩ := Kd.V_get HO_0.out [] x5_1 p468 (by first | exact q468 | exact oD (by first | with_reducible assumption | assumption) | (have e_ := (Kd.V_reads' HO_0.out).1; omega))
               obtain ⟨ua468_0, uc468_0, rfl, ul468_0, ge468_0⟩ := Kd.FK_slice_open hMe468
               have hv468_0 := hcc468 0 _ rfl
               rw [Nat.add_zero, show ((Kd.slice 30 k30)).sz = 1 from rfl, Nat.mul_one] at hv468_0
               replace hv468_0 := Option.some.inj (hv468_0.symm.trans hx468_0)
               injection hv468_0 with hva_ hvn_ hvc_
               rw [hva_] at ge468_0
               rw [hvc_] at ul468_0
               have HL468_0 := aM (show Kd.V k30 30 _ w.heap.size _ _ (rd_L13 l0 x5_1) from Kd.V_mk ul468_0 ge468_0)
               clear hva_ hvn_ hvc_ ge468_0 ul468_0 hcc468 hce468; have HR468_0 := aM hi468_0; have HC468_0 := aM hl468_0; clear hi468_0 hl468_0; replace p468 := eq_true p468; replace q468 := eq_true q468
               have ea_ := Option.some.inj (hx452_0.symm.trans hx468_0)
               injection ea_ with ea_ en_ ec_
               subst ea_; subst ec_; clear en_
               have p469 : 0 ≤ (x7_2 : Int) := oD (by first | with_reducible assumption | assumption)
               have q469 : x7_2 < ((rd_L13 l0 x5_1).length : Int) := oD (by first | with_reducible assumption | assumption)
               obtain ⟨ad469, A469_2, c469_2, e469, hx469_0, hx469_1, hx469_2, hl469_2, hi469_2⟩ := at_T30 (by repeat (first | (with_reducible exact HR468_0.out) | (with_reducible first | refine Ca ?_ _ | refine Cn ?_ _ | refine Cd ?_) | exact HR468_0.out)) x7_2 p469 q469
               (try rw [← Nbq13.out] at hx469_1)
               cases e469
               obtain ⟨ce469, hce469, hMe469, hcc469⟩ := Kd.V_get HL468_0.out z30 x7_2 p469 (by first | exact q469 | exact oD (by first | with_reducible assumption | assumption) | (have e_ := (Kd.V_reads' HL468_0.out).1; omega))
               obtain ⟨ua469_2, uc469_2, rfl, ul469_2, ge469_2⟩ := k30_openF hMe469
               have hv469_2 := hcc469 2 _ rfl
               rw [add_field _ _ 2 (by omega)] at hv469_2
               replace hv469_2 := Option.some.inj (hv469_2.symm.trans hx469_2)
               injection hv469_2 with hva_ hvn_ hvc_
               rw [hva_] at ge469_2
               rw [hvc_] at ul469_2
               have HL469_2 := aM (show Kd.V k38 38 _ w.heap.size _ _ ((rd_T30 (rd_L13 l0 x5_1) x7_2).f2) from Kd.V_mk ul469_2 ge469_2)
               clear hva_ hvn_ hvc_ ge469_2 ul469_2 hcc469 hce469; have HR469_2 := aM hi469_2; have HC469_2 := aM hl469_2; clear hi469_2 hl469_2; replace p469 := eq_true p469; replace q469 := eq_true q469
               have ea_ := Option.some.inj (hx457_2.symm.trans hx469_2)
               injection ea_ with ea_ en_ ec_
               subst ea_; subst ec_; clear en_
               obtain ⟨Ao24, co24, eo24⟩ := Kd.R_slice HO_4.out
               subst eo24
               go_wp2_with (first | (go_at_call 117; (with_reducible refine (spec_l2Has.calls k2 _ _ x4_2 ((rd_T30 (rd_L13 l0 x5_1) x7_2).f0) false _ ?side1 ?side2 A19.out).mono ?_); (case side1 => repeat (first | exact (Kd.R_reads' HO_4.out).2.2 | (with_reducible first | refine Ca ?_ _ | refine Cn ?_ _ | refine Cd ?_))); (case side2 => exact (Kd.R_reads' HO_4.out).2.1); rintro e w' ⟨rfl, ⟨nd, rfl⟩⟩; have p471 : 0 ≤ (x5_1 : Int) := oD (by first | with_reducible assumption | assumption); have q471 : x5_1 < (l0.length : Int) := oD (by first | with_reducible assumption | assumption); obtain ⟨ad471, A471_0, c471_0, e471, hx471_0, hl471_0, hi471_0⟩ := at_L13 (Kd.V_reads' HO_0.out).2.2 x5_1 p471 q471; obtain rfl : ad452 = ad471 := (by injection e471); obtain ⟨ce471, hce471, hMe471, hcc471⟩ := Kd.V_get HO_0.out [] x5_1 p471 (by first | exact q471 | exact oD (by first | with_reducible assumption | assumption) | (have e_ := (Kd.V_reads' HO_0.out).1; omega)); obtain ⟨ua471_0, uc471_0, rfl, ul471_0, ge471_0⟩ := Kd.FK_slice_open hMe471; have hv471_0 := hcc471 0 _ rfl; rw [Nat.add_zero, show ((Kd.slice 30 k30)).sz = 1 from rfl, Nat.mul_one] at hv471_0; replace hv471_0 := Option.some.inj (hv471_0.symm.trans hx471_0); injection hv471_0 with hva_ hvn_ hvc_; rw [hva_] at ge471_0; rw [hvc_] at ul471_0; have HL471_0 := aM (show Kd.V k30 30 _ w.heap.size _ _ (rd_L13 l0 x5_1) from Kd.V_mk ul471_0 ge471_0); clear hva_ hvn_ hvc_ ge471_0 ul471_0 hcc471 hce471; have HR471_0 := aM hi471_0; have HC471_0 := aM hl471_0; clear hi471_0 hl471_0; replace p471 := eq_true p471; replace q471 := eq_true q471; have ea_ := Option.some.inj (hx452_0.symm.trans hx471_0); injection ea_ with ea_ en_ ec_; subst ea_; subst ec_; clear en_; have p472 : 0 ≤ (x7_2 : Int) := oD (by first | with_reducible assumption | assumption); have q472 : x7_2 < ((rd_L13 l0 x5_1).length : Int) := oD (by first | with_reducible assumption | assumption); obtain ⟨ad472, A472_2, c472_2, e472, hx472_0, hx472_1, hx472_2, hl472_2, hi472_2⟩ := at_T30 (by repeat (first | (with_reducible exact HR471_0.out) | (with_reducible first | refine Ca ?_ _ | refine Cn ?_ _ | refine Cd ?_) | exact HR471_0.out)) x7_2 p472 q472; (try rw [← Nbq13.out] at hx472_1); cases e472; obtain ⟨ce472, hce472, hMe472, hcc472⟩ := Kd.V_get HL471_0.out z30 x7_2 p472 (by first | exact q472 | exact oD (by first | with_reducible assumption | assumption) | (have e_ := (Kd.V_reads' HL471_0.out).1; omega)); obtain ⟨ua472_2, uc472_2, rfl, ul472_2, ge472_2⟩ := k30_openF hMe472; have hv472_2 := hcc472 2 _ rfl; rw [add_field _ _ 2 (by omega)] at hv472_2; replace hv472_2 := Option.some.inj (hv472_2.symm.trans hx472_2); injection hv472_2 with hva_ hvn_ hvc_; rw [hva_] at ge472_2; rw [hvc_] at ul472_2; have HL472_2 := aM (show Kd.V k38 38 _ w.heap.size _ _ ((rd_T30 (rd_L13 l0 x5_1) x7_2).f2) from Kd.V_mk ul472_2 ge472_2); clear hva_ hvn_ hvc_ ge472_2 ul472_2 hcc472 hce472; have HR472_2 := aM hi472_2; have HC472_2 := aM hl472_2; clear hi472_2 hl472_2; replace p472 := eq_true p472; replace q472 := eq_true q472; have ea_ := Option.some.inj (hx457_2.symm.trans hx472_2); injection ea_ with ea_ en_ ec_; subst ea_; subst ec_; clear en_) | ((with_reducible refine gate_builtin (b := .append) (xs := #[.tmp 47, .tmp 55]) rfl ?_); at_builtin; refine Kd.N_append k30 (w0 := w) (W := wr.drewN nd) w.heap.size rfl (.tmp 47) (.tmp 55) 23 30 (.agg #[(.string ⟨#[]⟩), (.bool false), (.slice none 0 0)]) 48 rfl Try.underlying23 info30 rfl (by decide) (by omega) u6 x6_2 (⟨(rd_T30 (rd_L13 l0 x5_1) x7_2).f0, false, (rd_T30 (rd_L13 l0 x5_1) x7_2).f2⟩ : S30) [.string ((rd_T30 (rd_L13 l0 x5_1) x7_2).f0), .bool false, .slice A457_2 ((rd_T30 (rd_L13 l0 x5_1) x7_2).f2).length c457_2] (fun k_ => (P0_ k_ ∨ w.heap.size ≤ k_) ∧ some k_ ≠ (u3 : Value).ownBlock ∧ some k_ ≠ (.slice Ao24 x4_2.length co24 : Value).ownBlock) (fun k_ => ((fun k_ => (P0_ k_ ∨ w.heap.size ≤ k_) ∧ some k_ ≠ (u3 : Value).ownBlock ∧ some k_ ≠ (.slice Ao24 x4_2.length co24 : Value).ownBlock)) k_ ∧ some k_ ≠ (u6 : Value).ownBlock) rfl rfl ?aP (fun _ hk => hk) ?aF ?aO ?aB ?aS ?aL ?_; (case aP => exact (k30_mkF _ _ (⟨(rd_T30 (rd_L13 l0 x5_1) x7_2).f0, false, (rd_T30 (rd_L13 l0 x5_1) x7_2).f2⟩ : S30) (Kd.V_reads' (Kd.V_mono (ok' := (fun k_ => ((fun k_ => (P0_ k_ ∨ w.heap.size ≤ k_) ∧ some k_ ≠ (u3 : Value).ownBlock ∧ some k_ ≠ (.slice Ao24 x4_2.length co24 : Value).ownBlock)) k_ ∧ some k_ ≠ (u6 : Value).ownBlock)) (Kd.V_drewN HL472_2.out nd) (fun k_ hk => ⟨⟨hk.1, ⟨hk.2.1, hk.2.2.1⟩⟩, hk.2.2.2⟩))).2.1 (Kd.V_F (Kd.V_mono (ok' := (fun k_ => ((fun k_ => (P0_ k_ ∨ w.heap.size ≤ k_) ∧ some k_ ≠ (u3 : Value).ownBlock ∧ some k_ ≠ (.slice Ao24 x4_2.length co24 : Value).ownBlock)) k_ ∧ some k_ ≠ (u6 : Value).ownBlock)) (Kd.V_drewN HL472_2.out nd) (fun k_ hk => ⟨⟨hk.1, ⟨hk.2.1, hk.2.2.1⟩⟩, hk.2.2.2⟩))))); (case aB => exact (by repeat (with_reducible first | exact HB.out | apply bA | apply bN | apply bD))); (case aF => exact (fun k_ hk => ⟨(.inr (Nat.le_trans (below_size (by repeat (with_reducible first | exact HB.out | apply bA | apply bN | apply bD))) hk)), Kd.fresh' (Kd.N_lt (by (with_reducible repeat (first | apply Na | apply Nn | apply Nd)); exact HO_3.out)) k_ hk, Kd.fresh' (Kd.R_lt (by (with_reducible repeat (first | apply Ra | apply Rn | apply Rd)); exact HO_4.out)) k_ hk⟩)); (case aO => exact (by (with_reducible repeat (first | apply Na | apply Nn | apply Nd)); exact HO_6.out)); (case aS => exact (below_size (by repeat (with_reducible first | exact HB.out | apply bA | apply bN | apply bD)))); (case aL => have := LMc22.out; omega); intro v474 w25 ho hb hg hat; rw [← Ny473.out] at ho; have n0_ := aM (Kd.V_afterv (ok := (fun k_ => (P0_ k_ ∨ w.heap.size ≤ k_) ∧ some k_ ≠ (u3 : Value).ownBlock ∧ some k_ ≠ (.slice Ao24 x4_2.length co24 : Value).ownBlock)) (by (with_reducible repeat (first | apply Va | apply Vn | apply Vd)); exact Kd.V_mono HO_0.out (fun _ hk => ⟨⟨hk.1, ⟨hk.2.1, hk.2.2.1⟩⟩, hk.2.2.2⟩)) hg hat); have n1_ := aM (Kd.N_afterv (ok := (fun k_ => (P0_ k_ ∨ w.heap.size ≤ k_) ∧ some k_ ≠ (.slice Ao24 x4_2.length co24 : Value).ownBlock)) (by (with_reducible repeat (first | apply Na | apply Nn | apply Nd)); exact Kd.N_mono HO_3.out (fun _ hk => ⟨⟨hk.1, hk.2.1⟩, hk.2.2⟩)) hg hat); have n2_ := aM (Kd.R_over' (by (with_reducible repeat (first | apply Ra | apply Rn | apply Rd)); exact HO_4.out) (Kd.N_typed (by (with_reducible repeat (first | apply Na | apply Nn | apply Nd)); exact HO_6.out)) (by decide) hg); have n3_ := aM (Kd.V_afterv (ok := (fun k_ => (P0_ k_ ∨ w.heap.size ≤ k_) ∧ some k_ ≠ (u3 : Value).ownBlock ∧ some k_ ≠ (.slice Ao24 x4_2.length co24 : Value).ownBlock)) (by (with_reducible repeat (first | apply Va | apply Vn | apply Vd)); exact Kd.V_mono HL452_0.out (fun _ hk => ⟨⟨hk.1, ⟨hk.2.1, hk.2.2.1⟩⟩, hk.2.2.2⟩)) hg hat); have n4_ := aM (Kd.V_afterv (ok := (fun k_ => (P0_ k_ ∨ w.heap.size ≤ k_) ∧ some k_ ≠ (u3 : Value).ownBlock ∧ some k_ ≠ (.slice Ao24 x4_2.length co24 : Value).ownBlock)) (by (with_reducible repeat (first | apply Va | apply Vn | apply Vd)); exact Kd.V_mono HL456_0.out (fun _ hk => ⟨⟨hk.1, ⟨hk.2.1, hk.2.2.1⟩⟩, hk.2.2.2⟩)) hg hat); have n5_ := aM (Kd.V_afterv (ok := (fun k_ => (P0_ k_ ∨ w.heap.size ≤ k_) ∧ some k_ ≠ (u3 : Value).ownBlock ∧ some k_ ≠ (.slice Ao24 x4_2.length co24 : Value).ownBlock)) (by (with_reducible repeat (first | apply Va | apply Vn | apply Vd)); exact Kd.V_mono HL457_2.out (fun _ hk => ⟨⟨hk.1, ⟨hk.2.1, hk.2.2.1⟩⟩, hk.2.2.2⟩)) hg hat); have n6_ := aM (Kd.V_afterv (ok := (fun k_ => (P0_ k_ ∨ w.heap.size ≤ k_) ∧ some k_ ≠ (u3 : Value).ownBlock ∧ some k_ ≠ (.slice Ao24 x4_2.length co24 : Value).ownBlock)) (by (with_reducible repeat (first | apply Va | apply Vn | apply Vd)); exact Kd.V_mono HL468_0.out (fun _ hk => ⟨⟨hk.1, ⟨hk.2.1, hk.2.2.1⟩⟩, hk.2.2.2⟩)) hg hat); have n7_ := aM (Kd.V_afterv (ok := (fun k_ => (P0_ k_ ∨ w.heap.size ≤ k_) ∧ some k_ ≠ (u3 : Value).ownBlock ∧ some k_ ≠ (.slice Ao24 x4_2.length co24 : Value).ownBlock)) (by (with_reducible repeat (first | apply Va | apply Vn | apply Vd)); exact Kd.V_mono HL469_2.out (fun _ hk => ⟨⟨hk.1, ⟨hk.2.1, hk.2.2.1⟩⟩, hk.2.2.2⟩)) hg hat); have n8_ := aM (Kd.V_afterv (ok := (fun k_ => (P0_ k_ ∨ w.heap.size ≤ k_) ∧ some k_ ≠ (u3 : Value).ownBlock ∧ some k_ ≠ (.slice Ao24 x4_2.length co24 : Value).ownBlock)) (by (with_reducible repeat (first | apply Va | apply Vn | apply Vd)); exact Kd.V_mono HL471_0.out (fun _ hk => ⟨⟨hk.1, ⟨hk.2.1, hk.2.2.1⟩⟩, hk.2.2.2⟩)) hg hat); have n9_ := aM (Kd.V_afterv (ok := (fun k_ => (P0_ k_ ∨ w.heap.size ≤ k_) ∧ some k_ ≠ (u3 : Value).ownBlock ∧ some k_ ≠ (.slice Ao24 x4_2.length co24 : Value).ownBlock)) (by (with_reducible repeat (first | apply Va | apply Vn | apply Vd)); exact Kd.V_mono HL472_2.out (fun _ hk => ⟨⟨hk.1, ⟨hk.2.1, hk.2.2.1⟩⟩, hk.2.2.2⟩)) hg hat); have n10_ := aM (hb); have n11_ := aM (ho); clear HO_0 HO_3 HO_4 HL452_0 HL456_0 HL457_2 HL468_0 HL469_2 HL471_0 HL472_2 HB HO_6; have HO_0 := n0_; have HO_3 := n1_; have HO_4 := n2_; have HL452_0 := n3_; have HL456_0 := n4_; have HL457_2 := n5_; have HL468_0 := n6_; have HL469_2 := n7_; have HL471_0 := n8_; have HL472_2 := n9_; have HB := n10_; have HO475 := n11_; clear n0_ n1_ n2_ n3_ n4_ n5_ n6_ n7_ n8_ n9_ n10_ n11_ ho hb hg hat; have p476 : 0 ≤ (x5_1 : Int) := oD (by first | with_reducible assumption | assumption); have q476 : x5_1 < (l0.length : Int) := oD (by first | with_reducible assumption | assumption); obtain ⟨ad476, A476_0, c476_0, e476, hx476_0, hl476_0, hi476_0⟩ := at_L13 (Kd.V_reads' HO_0.out).2.2 x5_1 p476 q476; obtain rfl : ad452 = ad476 := (by injection e476); obtain ⟨ce476, hce476, hMe476, hcc476⟩ := Kd.V_get HO_0.out [] x5_1 p476 (by first | exact q476 | exact oD (by first | with_reducible assumption | assumption) | (have e_ := (Kd.V_reads' HO_0.out).1; omega)); obtain ⟨ua476_0, uc476_0, rfl, ul476_0, ge476_0⟩ := Kd.FK_slice_open hMe476; have hv476_0 := hcc476 0 _ rfl; rw [Nat.add_zero, show ((Kd.slice 30 k30)).sz = 1 from rfl, Nat.mul_one] at hv476_0; replace hv476_0 := Option.some.inj (hv476_0.symm.trans hx476_0); injection hv476_0 with hva_ hvn_ hvc_; rw [hva_] at ge476_0; rw [hvc_] at ul476_0; have HL476_0 := aM (show Kd.V k30 30 _ w.heap.size _ _ (rd_L13 l0 x5_1) from Kd.V_mk ul476_0 ge476_0); clear hva_ hvn_ hvc_ ge476_0 ul476_0 hcc476 hce476; have HR476_0 := aM hi476_0; have HC476_0 := aM hl476_0; clear hi476_0 hl476_0; replace p476 := eq_true p476; replace q476 := eq_true q476; have p477 : 0 ≤ (x7_2 : Int) := oD (by first | with_reducible assumption | assumption); have q477 : x7_2 < ((rd_L13 l0 x5_1).length : Int) := oD (by first | with_reducible assumption | assumption); obtain ⟨ad477, A477_2, c477_2, e477, hx477_0, hx477_1, hx477_2, hl477_2, hi477_2⟩ := at_T30 (by repeat (first | (with_reducible exact HR476_0.out) | (with_reducible first | refine Ca ?_ _ | refine Cn ?_ _ | refine Cd ?_) | exact HR476_0.out)) x7_2 p477 q477; (try rw [← Nbq13.out] at hx477_1); cases e477; obtain ⟨ce477, hce477, hMe477, hcc477⟩ := Kd.V_get HL476_0.out z30 x7_2 p477 (by first | exact q477 | exact oD (by first | with_reducible assumption | assumption) | (have e_ := (Kd.V_reads' HL476_0.out).1; omega)); obtain ⟨ua477_2, uc477_2, rfl, ul477_2, ge477_2⟩ := k30_openF hMe477; have hv477_2 := hcc477 2 _ rfl; rw [add_field _ _ 2 (by omega)] at hv477_2; replace hv477_2 := Option.some.inj (hv477_2.symm.trans hx477_2); injection hv477_2 with hva_ hvn_ hvc_; rw [hva_] at ge477_2; rw [hvc_] at ul477_2; have HL477_2 := aM (show Kd.V k38 38 _ w.heap.size _ _ ((rd_T30 (rd_L13 l0 x5_1) x7_2).f2) from Kd.V_mk ul477_2 ge477_2); clear hva_ hvn_ hvc_ ge477_2 ul477_2 hcc477 hce477; have HR477_2 := aM hi477_2; have HC477_2 := aM hl477_2; clear hi477_2 hl477_2; replace p477 := eq_true p477; replace q477 := eq_true q477) | ((with_reducible refine gate_builtin (b := .append) (xs := #[.tmp 57, .tmp 66]) rfl ?_); at_builtin; refine Kd.R_append Kd.string (w0 := w) w.heap.size rfl (.tmp 57) (.tmp 66) 33 9 (.string ⟨#[]⟩) 16 rfl Try.underlying33 info9 rfl (by decide) (by omega) (.slice Ao24 x4_2.length co24) x4_2 ((rd_T30 (rd_L13 l0 x5_1) x7_2).f0) [.string ((rd_T30 (rd_L13 l0 x5_1) x7_2).f0)] (fun k_ => (w.heap.size ≤ k_)) (fun _ => False) rfl rfl ?aP (fun _ hk => hk.elim) ?aF ?aO ?aB ?aS ?aL ?_; (case aP => exact rfl); (case aB => exact (by repeat (with_reducible first | exact HB.out | apply bA | apply bN | apply bD))); (case aF => exact (fun k_ hk => (Nat.le_trans (below_size (by repeat (with_reducible first | exact HB.out | apply bA | apply bN | apply bD))) hk))); (case aO => exact (by (with_reducible repeat (first | apply Ra | apply Rn | apply Rd)); exact HO_4.out)); (case aS => exact (below_size (by repeat (with_reducible first | exact HB.out | apply bA | apply bN | apply bD)))); (case aL => have := LMc23.out; omega); intro v479 w26 ho hb hg hat; rw [← Ny478.out] at ho; have n0_ := aM (Kd.V_afterv (ok := (fun k_ => (P0_ k_ ∨ w.heap.size ≤ k_) ∧ some k_ ≠ (u3 : Value).ownBlock ∧ some k_ ≠ (v474 : Value).ownBlock)) (by (with_reducible repeat (first | apply Va | apply Vn | apply Vd)); exact Kd.V_mono HO_0.out (fun _ hk => ⟨⟨hk.1.1, ⟨hk.1.2.1, hk.2⟩⟩, hk.1.2.2⟩)) hg hat); have n1_ := aM (Kd.N_afterv (ok := (fun k_ => (P0_ k_ ∨ w.heap.size ≤ k_) ∧ some k_ ≠ (v474 : Value).ownBlock)) (by (with_reducible repeat (first | apply Na | apply Nn | apply Nd)); exact Kd.N_mono HO_3.out (fun _ hk => ⟨⟨hk.1.1, hk.2⟩, hk.1.2⟩)) hg hat); have n2_ := aM (Kd.V_afterv (ok := (fun k_ => (P0_ k_ ∨ w.heap.size ≤ k_) ∧ some k_ ≠ (u3 : Value).ownBlock ∧ some k_ ≠ (v474 : Value).ownBlock)) (by (with_reducible repeat (first | apply Va | apply Vn | apply Vd)); exact Kd.V_mono HL452_0.out (fun _ hk => ⟨⟨hk.1.1, ⟨hk.1.2.1, hk.2⟩⟩, hk.1.2.2⟩)) hg hat); have n3_ := aM (Kd.V_afterv (ok := (fun k_ => (P0_ k_ ∨ w.heap.size ≤ k_) ∧ some k_ ≠ (u3 : Value).ownBlock ∧ some k_ ≠ (v474 : Value).ownBlock)) (by (with_reducible repeat (first | apply Va | apply Vn | apply Vd)); exact Kd.V_mono HL456_0.out (fun _ hk => ⟨⟨hk.1.1, ⟨hk.1.2.1, hk.2⟩⟩, hk.1.2.2⟩)) hg hat); have n4_ := aM (Kd.V_afterv (ok := (fun k_ => (P0_ k_ ∨ w.heap.size ≤ k_) ∧ some k_ ≠ (u3 : Value).ownBlock ∧ some k_ ≠ (v474 : Value).ownBlock)) (by (with_reducible repeat (first | apply Va | apply Vn | apply Vd)); exact Kd.V_mono HL457_2.out (fun _ hk => ⟨⟨hk.1.1, ⟨hk.1.2.1, hk.2⟩⟩, hk.1.2.2⟩)) hg hat); have n5_ := aM (Kd.V_afterv (ok := (fun k_ => (P0_ k_ ∨ w.heap.size ≤ k_) ∧ some k_ ≠ (u3 : Value).ownBlock ∧ some k_ ≠ (v474 : Value).ownBlock)) (by (with_reducible repeat (first | apply Va | apply Vn | apply Vd)); exact Kd.V_mono HL468_0.out (fun _ hk => ⟨⟨hk.1.1, ⟨hk.1.2.1, hk.2⟩⟩, hk.1.2.2⟩)) hg hat); have n6_ := aM (Kd.V_afterv (ok := (fun k_ => (P0_ k_ ∨ w.heap.size ≤ k_) ∧ some k_ ≠ (u3 : Value).ownBlock ∧ some k_ ≠ (v474 : Value).ownBlock)) (by (with_reducible repeat (first | apply Va | apply Vn | apply Vd)); exact Kd.V_mono HL469_2.out (fun _ hk => ⟨⟨hk.1.1, ⟨hk.1.2.1, hk.2⟩⟩, hk.1.2.2⟩)) hg hat); have n7_ := aM (Kd.V_afterv (ok := (fun k_ => (P0_ k_ ∨ w.heap.size ≤ k_) ∧ some k_ ≠ (u3 : Value).ownBlock ∧ some k_ ≠ (v474 : Value).ownBlock)) (by (with_reducible repeat (first | apply Va | apply Vn | apply Vd)); exact Kd.V_mono HL471_0.out (fun _ hk => ⟨⟨hk.1.1, ⟨hk.1.2.1, hk.2⟩⟩, hk.1.2.2⟩)) hg hat); have n8_ := aM (Kd.V_afterv (ok := (fun k_ => (P0_ k_ ∨ w.heap.size ≤ k_) ∧ some k_ ≠ (u3 : Value).ownBlock ∧ some k_ ≠ (v474 : Value).ownBlock)) (by (with_reducible repeat (first | apply Va | apply Vn | apply Vd)); exact Kd.V_mono HL472_2.out (fun _ hk => ⟨⟨hk.1.1, ⟨hk.1.2.1, hk.2⟩⟩, hk.1.2.2⟩)) hg hat); have n9_ := aM (Kd.N_afterv (ok := (fun k_ => (P0_ k_ ∨ w.heap.size ≤ k_) ∧ some k_ ≠ (u3 : Value).ownBlock)) (by (with_reducible repeat (first | apply Na | apply Nn | apply Nd)); exact Kd.N_mono HO475.out (fun _ hk => ⟨⟨hk.1, hk.2.1⟩, hk.2.2⟩)) hg hat); have n10_ := aM (Kd.V_afterv (ok := (fun k_ => (P0_ k_ ∨ w.heap.size ≤ k_) ∧ some k_ ≠ (u3 : Value).ownBlock ∧ some k_ ≠ (v474 : Value).ownBlock)) (by (with_reducible repeat (first | apply Va | apply Vn | apply Vd)); exact Kd.V_mono HL476_0.out (fun _ hk => ⟨⟨hk.1.1, ⟨hk.1.2.1, hk.2⟩⟩, hk.1.2.2⟩)) hg hat); have n11_ := aM (Kd.V_afterv (ok := (fun k_ => (P0_ k_ ∨ w.heap.size ≤ k_) ∧ some k_ ≠ (u3 : Value).ownBlock ∧ some k_ ≠ (v474 : Value).ownBlock)) (by (with_reducible repeat (first | apply Va | apply Vn | apply Vd)); exact Kd.V_mono HL477_2.out (fun _ hk => ⟨⟨hk.1.1, ⟨hk.1.2.1, hk.2⟩⟩, hk.1.2.2⟩)) hg hat); have n12_ := aM (hb); have n13_ := aM (ho); clear HO_0 HO_3 HL452_0 HL456_0 HL457_2 HL468_0 HL469_2 HL471_0 HL472_2 HO475 HL476_0 HL477_2 HB HO_4; have HO_0 := n0_; have HO_3 := n1_; have HL452_0 := n2_; have HL456_0 := n3_; have HL457_2 := n4_; have HL468_0 := n5_; have HL469_2 := n6_; have HL471_0 := n7_; have HL472_2 := n8_; have HO475 := n9_; have HL476_0 := n10_; have HL477_2 := n11_; have HB := n12_; have HO480 := n13_; clear n0_ n1_ n2_ n3_ n4_ n5_ n6_ n7_ n8_ n9_ n10_ n11_ n12_ n13_ ho hb hg hat))
               go_roundg k2
               case measure => have := HK1.out; have := HK2.out; omega
               case rel => exact ⟨(y478), (y473), (wrap64 (x7_2 + 1)), (by first | rfl | (simp; done) | (simp [*]; done)), H', ⟨by have := HK1.out; have := HK2.out; omega⟩, ⟨by (with_reducible repeat (first | apply Va | apply Vn | apply Vd)); exact Kd.V_mono HO_0.out (fun _ hk => ⟨hk.1.1, ⟨hk.1.2.1, ⟨hk.2, hk.1.2.2⟩⟩⟩)⟩, ⟨by (with_reducible repeat (first | apply Na | apply Nn | apply Nd)); exact Kd.N_mono HO_3.out (fun _ hk => ⟨hk.1.1, ⟨hk.2, hk.1.2⟩⟩)⟩, ⟨by (with_reducible repeat (first | apply Ra | apply Rn | apply Rd)); exact HO480.out⟩, ⟨by (with_reducible repeat (first | apply Na | apply Nn | apply Nd)); exact Kd.N_mono HO475.out (fun _ hk => ⟨hk.1.1, ⟨hk.1.2, hk.2⟩⟩)⟩, ⟨by repeat (with_reducible first | exact HB.out | apply bA | apply bN | apply bD)⟩⟩
             rw [if_neg c23] at H
             exact absurd H (by simp)
           rw [if_neg c22] at H
           exact absurd H (by simp)
         rw [if_neg c12] at H
         exact absurd H (by simp)
       rw [if_neg c11] at H
       have c11b0 : decide (x7_2 < ((rd_L13 l0 x5_1).length : Int)) = false := decide_eq_false c11
       clear c11
       by_cases c27 : x3_1.length < 5864062014805
       · rw [if_pos c27] at H; have LMc27 := aM c27; clear c27
         obtain ⟨y453, hy453⟩ : ∃ y_ : List (List (S30)), y_ = (x3_1 ++ [x6_2]) := ⟨_, rfl⟩
         replace H : (spec_l3Thin.l0 k2 l0 y453 x4_2 (wrap64 (x5_1 + 1))) = some r := by first | (rw [hy453]; with_reducible exact H) | (have H2_ := (Option.bind_some _ _).symm.trans H; rw [hy453]; with_reducible exact H2_) | (have H2_ := (Option.bind_some _ _).symm.trans H; with_reducible exact H2_) | with_reducible exact H | (rw [hy453]; exact H) | exact H
         have Ny453 := aM hy453; clear hy453
         have H' := aM H
         clear H
         have p452 : 0 ≤ (x5_1 : Int) := oD (by first | with_reducible assumption | assumption)
         have q452 : x5_1 < (l0.length : Int) := oD (by first | with_reducible assumption | assumption)
         obtain ⟨ad452, A452_0, c452_0, e452, hx452_0, hl452_0, hi452_0⟩ := at_L13 (Kd.V_reads' HO_0.out).2.2 x5_1 p452 q452
         cases e452
         obtain ⟨ce452, hce452, hMe452, hcc452⟩ := Kd.V_get HO_0.out [] x5_1 p452 (by first | exact q452 | exact oD (by first | with_reducible assumption | assumption) | (have e_ := (Kd.V_reads' HO_0.out).1; omega))
         obtain ⟨ua452_0, uc452_0, rfl, ul452_0, ge452_0⟩ := Kd.FK_slice_open hMe452
         have hv452_0 := hcc452 0 _ rfl
         rw [Nat.add_zero, show ((Kd.slice 30 k30)).sz = 1 from rfl, Nat.mul_one] at hv452_0
         replace hv452_0 := Option.some.inj (hv452_0.symm.trans hx452_0)
         injection hv452_0 with hva_ hvn_ hvc_
         rw [hva_] at ge452_0
         rw [hvc_] at ul452_0
         have HL452_0 := aM (show Kd.V k30 30 _ w.heap.size _ _ (rd_L13 l0 x5_1) from Kd.V_mk ul452_0 ge452_0)
         clear hva_ hvn_ hvc_ ge452_0 ul452_0 hcc452 hce452; have HR452_0 := aM hi452_0; have HC452_0 := aM hl452_0; clear hi452_0 hl452_0; replace p452 := eq_true p452; replace q452 := eq_true q452
         obtain ⟨Ao29, co29, eo29⟩ := Kd.N_slice HO_6.out
         subst eo29
         go_wp2_with (first | ((with_reducible refine gate_builtin (b := .append) (xs := #[.tmp 68, .tmp 70]) rfl ?_); at_builtin; refine Kd.N_append (Kd.slice 30 k30) (w0 := w) w.heap.size rfl (.tmp 68) (.tmp 70) 42 23 (.slice none 0 0) 24 rfl Try.underlying42 info23 rfl (by decide) (by omega) u3 x3_1 x6_2 [.slice Ao29 x6_2.length co29] (fun k_ => (P0_ k_ ∨ w.heap.size ≤ k_) ∧ some k_ ≠ (u4 : Value).ownBlock) (fun k_ => ((fun k_ => (P0_ k_ ∨ w.heap.size ≤ k_) ∧ some k_ ≠ (u4 : Value).ownBlock)) k_ ∧ some k_ ≠ (u3 : Value).ownBlock) rfl rfl ?aP (fun _ hk => hk) ?aF ?aO ?aB ?aS ?aL ?_; (case aP => exact (Kd.FK_slice_mk (Kd.N_reads' (Kd.N_mono (ok' := (fun k_ => ((fun k_ => (P0_ k_ ∨ w.heap.size ≤ k_) ∧ some k_ ≠ (u4 : Value).ownBlock)) k_ ∧ some k_ ≠ (u3 : Value).ownBlock)) (HO_6.out) (fun k_ hk => ⟨⟨hk.1, hk.2.2⟩, hk.2.1⟩))).2.1 (Kd.N_F (Kd.N_mono (ok' := (fun k_ => ((fun k_ => (P0_ k_ ∨ w.heap.size ≤ k_) ∧ some k_ ≠ (u4 : Value).ownBlock)) k_ ∧ some k_ ≠ (u3 : Value).ownBlock)) (HO_6.out) (fun k_ hk => ⟨⟨hk.1, hk.2.2⟩, hk.2.1⟩))))); (case aB => exact (by repeat (with_reducible first | exact HB.out | apply bA | apply bN | apply bD))); (case aF => exact (fun k_ hk => ⟨(.inr (Nat.le_trans (below_size (by repeat (with_reducible first | exact HB.out | apply bA | apply bN | apply bD))) hk)), Kd.fresh' (Kd.R_lt (by (with_reducible repeat (first | apply Ra | apply Rn | apply Rd)); exact HO_4.out)) k_ hk⟩)); (case aO => exact (by (with_reducible repeat (first | apply Na | apply Nn | apply Nd)); exact Kd.N_mono HO_3.out (fun _ hk => ⟨hk.1, hk.2.1⟩))); (case aS => exact (below_size (by repeat (with_reducible first | exact HB.out | apply bA | apply bN | apply bD)))); (case aL => have := LMc27.out; omega); intro v454 w28 ho hb hg hat; rw [← Ny453.out] at ho; have n0_ := aM (Kd.V_afterv (ok := (fun k_ => (P0_ k_ ∨ w.heap.size ≤ k_) ∧ some k_ ≠ (u4 : Value).ownBlock ∧ some k_ ≠ (.slice Ao29 x6_2.length co29 : Value).ownBlock)) (by (with_reducible repeat (first | apply Va | apply Vn | apply Vd)); exact Kd.V_mono HO_0.out (fun _ hk => ⟨⟨hk.1, ⟨hk.2.2.1, hk.2.2.2⟩⟩, hk.2.1⟩)) hg hat); have n1_ := aM (Kd.R_over' (by (with_reducible repeat (first | apply Ra | apply Rn | apply Rd)); exact HO_4.out) (Kd.N_typed (by (with_reducible repeat (first | apply Na | apply Nn | apply Nd)); exact HO_3.out)) (by decide) hg); have n2_ := aM (Kd.V_afterv (ok := (fun k_ => (P0_ k_ ∨ w.heap.size ≤ k_) ∧ some k_ ≠ (u4 : Value).ownBlock ∧ some k_ ≠ (.slice Ao29 x6_2.length co29 : Value).ownBlock)) (by (with_reducible repeat (first | apply Va | apply Vn | apply Vd)); exact Kd.V_mono HL452_0.out (fun _ hk => ⟨⟨hk.1, ⟨hk.2.2.1, hk.2.2.2⟩⟩, hk.2.1⟩)) hg hat); have n3_ := aM (hb); have n4_ := aM (ho); clear HO_0 HO_4 HL452_0 HB HO_3 HO_6; have HO_0 := n0_; have HO_4 := n1_; have HL452_0 := n2_; have HB := n3_; have HO455 := n4_; clear n0_ n1_ n2_ n3_ n4_ ho hb hg hat))
         go_roundg k2
         case measure => have := HK1.out; have := HK2.out; omega
         case rel => exact ⟨(y453), (x4_2), (wrap64 (x5_1 + 1)), (by first | rfl | (simp; done) | (simp [*]; done)), H', ⟨by have := HK1.out; have := HK2.out; omega⟩, ⟨by (with_reducible repeat (first | apply Va | apply Vn | apply Vd)); exact Kd.V_mono HO_0.out (fun _ hk => ⟨hk.1.1, ⟨hk.2, hk.1.2.1⟩⟩)⟩, ⟨by (with_reducible repeat (first | apply Na | apply Nn | apply Nd)); exact HO455.out⟩, ⟨by (with_reducible repeat (first | apply Ra | apply Rn | apply Rd)); exact HO_4.out⟩, ⟨by repeat (with_reducible first | exact HB.out | apply bA | apply bN | apply bD)⟩⟩
       rw [if_neg c27] at H
       exact absurd H (by simp)
     rw [if_neg c10] at H
     exact absurd H (by simp)
   rw [if_neg c9] at H
   exact absurd H (by simp)
 rw [if_neg c6] at H
 have c6b0 : decide (x5_1 < (l0.length : Int)) = false := decide_eq_false c6
 clear c6
 obtain rfl := Option.some.inj H
 go_wp2
 go_ret
 exact ⟨_, by first | rfl | (simp [*, errW_none, errW_some] <;> rfl), by (with_reducible repeat (first | apply Na | apply Nn | apply Nd)); exact Kd.N_mono HO_3.out (fun _ hk => hk.1), by repeat (with_reducible first | exact HB.out | apply bA | apply bN | apply bD)⟩
mutual
def spec_l3Bent.j0 : Nat → List (List (S30)) → List Int → Int → Option ((List (List (S30))) × Int)
  | 0, _, _, _ => none
  | k + 1, x5, x1000, x1001 => (spec_l13Rd_pick.f k x1000 x1001 30).bind fun bt490 => (if bt490.1 = 0 then ((spec_l2Bent.f k x1000 bt490.2).bind fun bt492 => (if x5.length < 5864062014805 then (some ((x5 ++ [bt492.1]), bt492.2)) else (none))) else (if bt490.1 = 1 then (spec_l3Bent.l0 k x5 x1000 bt490.2) else (some (x5, bt490.2))))
def spec_l3Bent.l0 : Nat → List (List (S30)) → List Int → Int → Option ((List (List (S30))) × Int)
  | 0, _, _, _ => none
  | k + 1, x5, x1000, x1001 => if (x5.length : Int) ≤ 8 then (if x5.length < 5864062014805 then (spec_l3Bent.l0 k (x5 ++ [(([] : List (S30)))]) x1000 x1001) else (none)) else (some (x5, x1001))
end
def spec_l3Bent.f (k : Nat) (s0_0 : List Int) (s0_1 : Int) (a1 : Int) : Option ((List (List (S30))) × Int) := (spec_l3Units.f k s0_0 s0_1 a1).bind fun bt481 => ((spec_l13Rd_pick.f k s0_0 bt481.2 3).bind fun bt485 => (if bt485.1 > 0 then ((spec_l3Thin.f k bt481.1).bind fun t487 => (spec_l3Bent.j0 k t487 s0_0 bt485.2)) else (spec_l3Bent.j0 k bt481.1 s0_0 bt485.2)))
set_option maxHeartbeats 8000000 in
set_option maxRecDepth 100000 in
theorem spec_l3Bent.calls (k : Nat) (g : Nat) (s0_0 : List Int) (s0_1 : Int) (a1 : Int) (r1 : List (List (S30))) (r2 : Int) (w0 w : World) (hI : IsS112 w0 w g s0_0 s0_1) (hB : Below w0.heap.size w0 w) (h : spec_l3Bent.f k s0_0 s0_1 a1 = some (r1, r2)) :
    Calls Try.prog 81 #[.pointer (some ⟨g, 0, none⟩), .int .i64 a1] w fun e w' => ∃ v0_ : Value, e = .returned (v0_) ∧ Kd.N (Kd.slice 30 k30) 23 w' w.heap.size (fun k_ => (w.heap.size ≤ k_)) v0_ r1 ∧ IsS112 w0 w' g s0_0 r2 ∧ Below w0.heap.size w0 w' ∧ KeepBut w w' g none := by
 have HI0 := aM hI
 have HK := aM (KeepBut.refl w g none)
 have HL := aM hB.size
 clear hI
 have HW0 := aM hB.size
 have HB := aM hB; clear hB
 have H : ((spec_l3Units.f k s0_0 s0_1 a1).bind fun bt481 => ((spec_l13Rd_pick.f k s0_0 bt481.2 3).bind fun bt485 => (if bt485.1 > 0 then ((spec_l3Thin.f k bt481.1).bind fun t487 => (spec_l3Bent.j0 k t487 s0_0 bt485.2)) else (spec_l3Bent.j0 k bt481.1 s0_0 bt485.2)))) = some (r1, r2) := h
 clear h
 replace H := Option.bind_eq_some_iff.mp H
 obtain ⟨⟨t481, t484⟩, A30, H⟩ := H
 replace H : ((spec_l13Rd_pick.f k s0_0 t484 3).bind fun bt485 => (if bt485.1 > 0 then ((spec_l3Thin.f k t481).bind fun t487 => (spec_l3Bent.j0 k t487 s0_0 bt485.2)) else (spec_l3Bent.j0 k t481 s0_0 bt485.2))) = some (r1, r2) := H
 have A3 := aM A30; clear A30
 replace H := Option.bind_eq_some_iff.mp H
 obtain ⟨⟨t485, t486⟩, A40, H⟩ := H
 replace H : (if t485 > 0 then ((spec_l3Thin.f k t481).bind fun t487 => (spec_l3Bent.j0 k t487 s0_0 t486)) else (spec_l3Bent.j0 k t481 s0_0 t486)) = some (r1, r2) := H
 have A4 := aM A40; clear A40; have HC5 := aM H; clear H
 go_enter Try.func81, Try.ntmps81
 go_upto_if 11 with (first | ((with_reducible refine gate_callee (f := 120) rfl ?_); refine goesL_ (some 8) rfl rfl Try.func120 (by kernel_rfl) rfl #[.pointer (some ⟨g, 0, none⟩), .int .i64 a1] rfl (by (try simp only [List.map_toArray, List.map_cons, List.map_nil]); first | done | rfl) ?_; (with_reducible refine (spec_l3Units.calls k g s0_0 s0_1 a1 t481 t484 w0 _ ?side1 ?side2 A3.out).mono ?_); (case side1 => repeat (with_reducible first | exact HI0.out | apply IsS112.alloc | apply IsS112.drewN | apply IsS112.drew | apply IsS112.set_1)); (case side2 => repeat (with_reducible first | exact HB.out | apply bA | apply bN | apply bD | refine below_set ?_ (IsS112.ge HI0.out))); rintro e w6 ⟨v482, rfl, ho0, hi, hb, hk⟩; refine ⟨_, rfl, ?_⟩; have n0_ := aM (Kd.N_lower (Kd.N_mono (ok' := fun k_ => (w.heap.size ≤ k_) ∧ k_ ≠ g) (Kd.R_N (Kd.R_bound ho0)) (fun k_ hk_ => ⟨(Nat.le_trans (keep_size (w := w) (g := g) (row := none) (by repeat (with_reducible first | exact HK.out | apply KeepBut.set_ | apply kN | apply kD | apply kA))) hk_.2.1), (IsS112.fresh (by repeat (with_reducible first | exact HI0.out | apply IsS112.alloc | apply IsS112.drewN | apply IsS112.drew | apply IsS112.set_1)) k_ hk_.2.1)⟩)) (keep_size (w := w) (g := g) (row := none) (by repeat (with_reducible first | exact HK.out | apply KeepBut.set_ | apply kN | apply kD | apply kA)))); have n1_ := aM (KeepBut.trans (by repeat (with_reducible first | exact HK.out | apply KeepBut.set_ | apply kN | apply kD | apply kA)) hk (.inl rfl)); have n2_ := aM (hb); have n3_ := aM (hi); clear HK HB HI0; have HO483 := n0_; have HK := n1_; have HB := n2_; have HI0 := n3_; clear n0_ n1_ n2_ n3_; (try clear ho0)) | ((with_reducible refine gate_callee (f := 109) rfl ?_); refine goesL_ (some 10) rfl rfl Try.func109 (by kernel_rfl) rfl #[.pointer (some ⟨g, 0, none⟩), .int .i64 3] rfl (by (try simp only [List.map_toArray, List.map_cons, List.map_nil]); first | done | rfl) ?_; (with_reducible refine (spec_l13Rd_pick.calls k g s0_0 t484 3 t485 t486 w0 _ ?side1 ?side2 A4.out).mono ?_); (case side1 => repeat (with_reducible first | exact HI0.out | apply IsS112.alloc | apply IsS112.drewN | apply IsS112.drew | apply IsS112.set_1)); (case side2 => repeat (with_reducible first | exact HB.out | apply bA | apply bN | apply bD | refine below_set ?_ (IsS112.ge HI0.out))); rintro e w7 ⟨rfl, hi, hb, hk⟩; refine ⟨_, rfl, ?_⟩; have n0_ := aM (Kd.N_mono (Kd.N_keep (Kd.N_mono (ok := fun k_ => (((w.heap.size ≤ k_)) ∧ k_ ≠ g)) (by (with_reducible repeat (first | apply Na | apply Nn | apply Nd)); exact HO483.out) (fun k_ hk_ => (⟨hk_, hk_.2⟩ : _ ∧ k_ ≠ g))) hk (fun _ h => h.2)) (fun _ h => h.1)); have n1_ := aM (KeepBut.trans (by repeat (with_reducible first | exact HK.out | apply KeepBut.set_ | apply kN | apply kD | apply kA)) hk (.inl rfl)); have n2_ := aM (hb); have n3_ := aM (hi); clear HO483 HK HB HI0; have HO483 := n0_; have HK := n1_; have HB := n2_; have HI0 := n3_; clear n0_ n1_ n2_ n3_))
 (try simp only [Act.put, List.setIfInBounds_toArray, List.set_cons_zero, List.set_cons_succ])
 go_cut [5] (fun v5 wc => ∃ (kq : Nat) (x5_4 : List (List (S30))), Aside0 (spec_l3Bent.j0 kq x5_4 s0_0 t486 = some (r1, r2)) ∧ Aside0 (kq ≤ k) ∧ Aside0 (Kd.N (Kd.slice 30 k30) 23 wc w.heap.size (fun k_ => (w.heap.size ≤ k_) ∧ k_ ≠ g) v5 x5_4) ∧ Aside0 (IsS112 w0 wc g s0_0 t486) ∧ Aside0 (KeepBut w wc g none) ∧ Aside0 (Below w0.heap.size w0 wc))
 case first =>
  have H := HC5.out
  clear HC5
  by_cases c8 : t485 > 0
  · rw [if_pos c8] at H
    have c8b0 : decide (0 < t485) = true := decide_eq_true c8
    clear c8
    (first | rw [c8b0] | (simp only [i64_w, i32_w]; rw [c8b0]) | (have cn_ := c8b0; simp only [bne] at cn_; rw [cn_]; clear cn_) | skip)
    replace H := Option.bind_eq_some_iff.mp H
    obtain ⟨t487, A90, H⟩ := H
    replace H : (spec_l3Bent.j0 k t487 s0_0 t486) = some (r1, r2) := H
    have A9 := aM A90; clear A90
    have H' := aM H
    clear H
    obtain ⟨Ao10, co10, eo10⟩ := Kd.N_slice HO483.out
    subst eo10
    go_wp2_with (first | ((with_reducible refine gate_callee (f := 121) rfl ?_); refine goesL_ (some 13) rfl rfl Try.func121 (by kernel_rfl) rfl #[.slice Ao10 t481.length co10] rfl (by (try simp only [List.map_toArray, List.map_cons, List.map_nil]); first | done | rfl) ?_; (with_reducible refine (spec_l3Thin.calls k (fun k_ => ((w.heap.size ≤ k_) ∧ k_ ≠ g)) _ _ t481 t487 _ ?side1 A9.out).mono ?_); (case side1 => exact Kd.N_V (HO483.out)); rintro e w11 ⟨v488, rfl, ho0, hb⟩; refine ⟨_, rfl, ?_⟩; have n0_ := aM (Kd.N_elder' (by (with_reducible repeat (first | apply Na | apply Nn | apply Nd)); exact HO483.out) (Kd.N_base ho0) hb); have n1_ := aM (Kd.N_lower (Kd.N_mono (ok' := fun k_ => (w.heap.size ≤ k_) ∧ k_ ≠ g) ho0 (fun k_ hk_ => ⟨Or.elim hk_ (fun hs_ => hs_.1) (fun hn_ => (Nat.le_trans (keep_size (w := w) (g := g) (row := none) (by repeat (with_reducible first | exact HK.out | apply KeepBut.set_ | apply kN | apply kD | apply kA))) hn_)), Or.elim hk_ (fun hs_ => hs_.2) (fun hn_ => (IsS112.fresh (by repeat (with_reducible first | exact HI0.out | apply IsS112.alloc | apply IsS112.drewN | apply IsS112.drew | apply IsS112.set_1)) k_ hn_))⟩)) (keep_size (w := w) (g := g) (row := none) (by repeat (with_reducible first | exact HK.out | apply KeepBut.set_ | apply kN | apply kD | apply kA)))); have n2_ := aM (IsS112.below (by repeat (with_reducible first | exact HI0.out | apply IsS112.alloc | apply IsS112.drewN | apply IsS112.drew | apply IsS112.set_1)) hb); have n3_ := aM (KeepBut.trans (by repeat (with_reducible first | exact HK.out | apply KeepBut.set_ | apply kN | apply kD | apply kA)) (KeepBut.of_below hb g none) (.inl rfl)); have n4_ := aM (below_step (by repeat (with_reducible first | exact HB.out | apply bA | apply bN | apply bD | refine below_set ?_ (IsS112.ge HI0.out))) hb); clear HO483 HI0 HK HB; have HO483 := n0_; have HO489 := n1_; have HI0 := n2_; have HK := n3_; have HB := n4_; clear n0_ n1_ n2_ n3_ n4_; (try clear ho0)))
    go_meet
    case rel => exact ⟨_, (t487), H', ⟨by first | omega | exact Nat.le_refl _⟩, ⟨by (with_reducible repeat (first | apply Na | apply Nn | apply Nd)); exact HO489.out⟩, ⟨by repeat (with_reducible first | exact HI0.out | apply IsS112.alloc | apply IsS112.drewN | apply IsS112.drew | apply IsS112.set_1)⟩, ⟨by repeat (with_reducible first | exact HK.out | apply KeepBut.set_ | apply kN | apply kD | apply kA)⟩, ⟨by repeat (with_reducible first | exact HB.out | apply bA | apply bN | apply bD | refine below_set ?_ (IsS112.ge HI0.out))⟩⟩
  rw [if_neg c8] at H
  have c8b0 : decide (0 < t485) = false := decide_eq_false c8
  clear c8
  (first | rw [c8b0] | (simp only [i64_w, i32_w]; rw [c8b0]) | (have cn_ := c8b0; simp only [bne] at cn_; rw [cn_]; clear cn_) | skip)
  have H' := aM H
  clear H
  go_wp2
  go_meet
  case rel => exact ⟨_, (t481), H', ⟨by first | omega | exact Nat.le_refl _⟩, ⟨by (with_reducible repeat (first | apply Na | apply Nn | apply Nd)); exact HO483.out⟩, ⟨by repeat (with_reducible first | exact HI0.out | apply IsS112.alloc | apply IsS112.drewN | apply IsS112.drew | apply IsS112.set_1)⟩, ⟨by repeat (with_reducible first | exact HK.out | apply KeepBut.set_ | apply kN | apply kD | apply kA)⟩, ⟨by repeat (with_reducible first | exact HB.out | apply bA | apply bN | apply bD | refine below_set ?_ (IsS112.ge HI0.out))⟩⟩
 clear HC5; try clear c1; try clear p2; try clear c8; try clear c8b0; try clear c10
 obtain ⟨kq, x5_4, HA, HJ4, HO_5, HI0, HK, HB⟩ := hcut
 obtain _ | kj4 := kq
 · exact absurd HA.out (by simp [spec_l3Bent.j0])
 have H := HA.out
 clear HA
 simp only [spec_l3Bent.j0] at H
 replace H := Option.bind_eq_some_iff.mp H
 obtain ⟨⟨t490, t491⟩, A120, H⟩ := H
 replace H : (if t490 = 0 then ((spec_l2Bent.f kj4 s0_0 t491).bind fun bt492 => (if x5_4.length < 5864062014805 then (some ((x5_4 ++ [bt492.1]), bt492.2)) else (none))) else (if t490 = 1 then (spec_l3Bent.l0 kj4 x5_4 s0_0 t491) else (some (x5_4, t491)))) = some (r1, r2) := H
 have A12 := aM A120; clear A120
 by_cases c13 : t490 = 0
 · rw [if_pos c13] at H
   have c13b0 : (t490 == 0) = true := beq_iff_eq.mpr c13
   have c13b1 : (t490 != 0) = false := bne_eq_false_iff_eq.mpr c13
   clear c13
   replace H := Option.bind_eq_some_iff.mp H
   obtain ⟨⟨t492, t495⟩, A140, H⟩ := H
   replace H : (if x5_4.length < 5864062014805 then (some ((x5_4 ++ [t492]), t495)) else (none)) = some (r1, r2) := H
   have A14 := aM A140; clear A140
   by_cases c15 : x5_4.length < 5864062014805
   · rw [if_pos c15] at H; have LMc15 := aM c15; clear c15
     obtain ⟨y496, hy496⟩ : ∃ y_ : List (List (S30)), y_ = (x5_4 ++ [t492]) := ⟨_, rfl⟩
     replace H : (some (y496, t495)) = some (r1, r2) := by first | (rw [hy496]; with_reducible exact H) | (have H2_ := (Option.bind_some _ _).symm.trans H; rw [hy496]; with_reducible exact H2_) | (have H2_ := (Option.bind_some _ _).symm.trans H; with_reducible exact H2_) | with_reducible exact H | (rw [hy496]; exact H) | exact H
     have Ny496 := aM hy496; clear hy496
     simp only [Option.some.injEq, Prod.mk.injEq] at H
     obtain ⟨rfl, rfl⟩ := H
     go_wp2_with (first | ((with_reducible refine gate_callee (f := 109) rfl ?_); refine goesL_ (some 15) rfl rfl Try.func109 (by kernel_rfl) rfl #[.pointer (some ⟨g, 0, none⟩), .int .i64 30] rfl (by (try simp only [List.map_toArray, List.map_cons, List.map_nil]); first | done | rfl) ?_; (with_reducible refine (spec_l13Rd_pick.calls kj4 g s0_0 t486 30 t490 t491 w0 _ ?side1 ?side2 A12.out).mono ?_); (case side1 => repeat (with_reducible first | exact HI0.out | apply IsS112.alloc | apply IsS112.drewN | apply IsS112.drew | apply IsS112.set_1)); (case side2 => repeat (with_reducible first | exact HB.out | apply bA | apply bN | apply bD | refine below_set ?_ (IsS112.ge HI0.out))); rintro e w16 ⟨rfl, hi, hb, hk⟩; refine ⟨_, rfl, ?_⟩; have n0_ := aM (Kd.N_mono (Kd.N_keep (Kd.N_mono (ok := fun k_ => (((w.heap.size ≤ k_)) ∧ k_ ≠ g)) (by (with_reducible repeat (first | apply Na | apply Nn | apply Nd)); exact HO_5.out) (fun k_ hk_ => (⟨hk_, hk_.2⟩ : _ ∧ k_ ≠ g))) hk (fun _ h => h.2)) (fun _ h => h.1)); have n1_ := aM (KeepBut.trans (by repeat (with_reducible first | exact HK.out | apply KeepBut.set_ | apply kN | apply kD | apply kA)) hk (.inl rfl)); have n2_ := aM (hb); have n3_ := aM (hi); clear HO_5 HK HB HI0; have HO_5 := n0_; have HK := n1_; have HB := n2_; have HI0 := n3_; clear n0_ n1_ n2_ n3_) | ((with_reducible refine gate_callee (f := 62) rfl ?_); refine goesL_ (some 20) rfl rfl Try.func62 (by kernel_rfl) rfl #[.pointer (some ⟨g, 0, none⟩)] rfl (by (try simp only [List.map_toArray, List.map_cons, List.map_nil]); first | done | rfl) ?_; (with_reducible refine (spec_l2Bent.calls kj4 g s0_0 t491 t492 t495 w0 _ ?side1 ?side2 A14.out).mono ?_); (case side1 => repeat (with_reducible first | exact HI0.out | apply IsS112.alloc | apply IsS112.drewN | apply IsS112.drew | apply IsS112.set_1)); (case side2 => repeat (with_reducible first | exact HB.out | apply bA | apply bN | apply bD | refine below_set ?_ (IsS112.ge HI0.out))); rintro e w17 ⟨v493, rfl, ho0, hi, hb, hk⟩; refine ⟨_, rfl, ?_⟩; have n0_ := aM (Kd.N_mono (Kd.N_told (Kd.N_oldK (Kd.N_mono (ok := fun k_ => (((w.heap.size ≤ k_)) ∧ k_ ≠ g)) (by (with_reducible repeat (first | apply Na | apply Nn | apply Nd)); exact HO_5.out) (fun k_ hk_ => (⟨hk_, hk_.2⟩ : _ ∧ k_ ≠ g))) hk) (Kd.R_base ho0)) (fun _ h_ => h_.1)); have n1_ := aM (Kd.N_lower (Kd.N_mono (ok' := fun k_ => (w.heap.size ≤ k_) ∧ some k_ ≠ (u5 : Value).ownBlock ∧ k_ ≠ g) (Kd.R_N (Kd.R_bound ho0)) (fun k_ hk_ => ⟨(Nat.le_trans (keep_size (w := w) (g := g) (row := none) (by repeat (with_reducible first | exact HK.out | apply KeepBut.set_ | apply kN | apply kD | apply kA))) hk_.2.1), (Kd.fresh' (Kd.N_lt (by (with_reducible repeat (first | apply Na | apply Nn | apply Nd)); exact HO_5.out)) k_ hk_.2.1), (IsS112.fresh (by repeat (with_reducible first | exact HI0.out | apply IsS112.alloc | apply IsS112.drewN | apply IsS112.drew | apply IsS112.set_1)) k_ hk_.2.1)⟩)) (keep_size (w := w) (g := g) (row := none) (by repeat (with_reducible first | exact HK.out | apply KeepBut.set_ | apply kN | apply kD | apply kA)))); have n2_ := aM (KeepBut.trans (by repeat (with_reducible first | exact HK.out | apply KeepBut.set_ | apply kN | apply kD | apply kA)) hk (.inl rfl)); have n3_ := aM (hb); have n4_ := aM (hi); clear HO_5 HK HB HI0; have HO_5 := n0_; have HO494 := n1_; have HK := n2_; have HB := n3_; have HI0 := n4_; clear n0_ n1_ n2_ n3_ n4_; (try clear ho0); obtain ⟨Ao19, co19, eo19⟩ := Kd.N_slice HO494.out; subst eo19) | ((with_reducible refine gate_builtin (b := .append) (xs := #[.tmp 18, .tmp 21]) rfl ?_); at_builtin; refine Kd.N_append (Kd.slice 30 k30) w.heap.size rfl (.tmp 18) (.tmp 21) 42 23 (.slice none 0 0) 24 rfl Try.underlying42 info23 rfl (by decide) (by omega) u5 x5_4 t492 [.slice Ao19 t492.length co19] (fun k_ => (w.heap.size ≤ k_) ∧ k_ ≠ g) (fun k_ => ((fun k_ => (w.heap.size ≤ k_) ∧ k_ ≠ g)) k_ ∧ some k_ ≠ (u5 : Value).ownBlock) rfl rfl ?aP (fun _ hk => hk) ?aF ?aO (Below.refl _ _) ?aS ?aL ?_; (case aP => exact (Kd.FK_slice_mk (Kd.N_reads' (Kd.N_mono (ok' := (fun k_ => ((fun k_ => (w.heap.size ≤ k_) ∧ k_ ≠ g)) k_ ∧ some k_ ≠ (u5 : Value).ownBlock)) (HO494.out) (fun k_ hk => ⟨⟨hk.1, hk.2.2⟩, hk.2.1⟩))).2.1 (Kd.N_F (Kd.N_mono (ok' := (fun k_ => ((fun k_ => (w.heap.size ≤ k_) ∧ k_ ≠ g)) k_ ∧ some k_ ≠ (u5 : Value).ownBlock)) (HO494.out) (fun k_ hk => ⟨⟨hk.1, hk.2.2⟩, hk.2.1⟩))))); (case aF => exact (fun k_ hk => ⟨(Nat.le_trans (keep_size (w := w) (g := g) (row := none) (by repeat (with_reducible first | exact HK.out | apply KeepBut.set_ | apply kN | apply kD | apply kA))) hk), IsS112.fresh (by repeat (with_reducible first | exact HI0.out | apply IsS112.alloc | apply IsS112.drewN | apply IsS112.drew | apply IsS112.set_1)) k_ hk⟩)); (case aO => exact (by (with_reducible repeat (first | apply Na | apply Nn | apply Nd)); exact Kd.N_mono HO_5.out (fun _ hk => ⟨hk.1.1, hk.1.2⟩))); (case aS => exact (keep_size (w := w) (g := g) (row := none) (by repeat (with_reducible first | exact HK.out | apply KeepBut.set_ | apply kN | apply kD | apply kA)))); (case aL => have := LMc15.out; omega); intro v497 w18 ho hb hg hat; rw [← Ny496.out] at ho; have n0_ := aM (IsS112.grown (by repeat (with_reducible first | exact HI0.out | apply IsS112.alloc | apply IsS112.drewN | apply IsS112.drew | apply IsS112.set_1)) hg (IsS112.own_neN HI0.out HO_5.out (by decide))); have n1_ := aM (below_weaken (by repeat (with_reducible first | exact HB.out | apply bA | apply bN | apply bD | refine below_set ?_ (IsS112.ge HI0.out))) HL.out hb); have n2_ := aM (KeepBut.trans (by repeat (with_reducible first | exact HK.out | apply KeepBut.set_ | apply kN | apply kD | apply kA)) (KeepBut.of_grown hg g) (Kd.N_base2 HO_5.out)); have n3_ := aM (ho); clear HI0 HB HK HO_5 HO494; have HI0 := n0_; have HB := n1_; have HK := n2_; have HO498 := n3_; clear n0_ n1_ n2_ n3_ ho hb hg hat))
     go_ret
     exact ⟨_, by first | rfl | (simp [*, errW_none, errW_some] <;> rfl), by (with_reducible repeat (first | apply Na | apply Nn | apply Nd)); exact Kd.N_mono HO498.out (fun _ hk => hk.1), by repeat (with_reducible first | exact HI0.out | apply IsS112.alloc | apply IsS112.drewN | apply IsS112.drew | apply IsS112.set_1), by repeat (with_reducible first | exact HB.out | apply bA | apply bN | apply bD | refine below_set ?_ (IsS112.ge HI0.out)), by repeat (with_reducible first | exact HK.out | apply KeepBut.set_ | apply kN | apply kD | apply kA)⟩
   rw [if_neg c15] at H
   exact absurd H (by simp)
 rw [if_neg c13] at H
 have c13b0 : (t490 == 0) = false := beq_eq_false_iff_ne.mpr c13
 have c13b1 : (t490 != 0) = true := bne_iff_ne.mpr c13
 by_cases c20 : t490 = 1
 · rw [if_pos c20] at H
   have c20b0 : (t490 == 1) = true := beq_iff_eq.mpr c20
   have c20b1 : (t490 != 1) = false := bne_eq_false_iff_eq.mpr c20
   clear c20
   have H' := aM H
   clear H
   go_wp2_with (first | ((with_reducible refine gate_callee (f := 109) rfl ?_); refine goesL_ (some 15) rfl rfl Try.func109 (by kernel_rfl) rfl #[.pointer (some ⟨g, 0, none⟩), .int .i64 30] rfl (by (try simp only [List.map_toArray, List.map_cons, List.map_nil]); first | done | rfl) ?_; (with_reducible refine (spec_l13Rd_pick.calls kj4 g s0_0 t486 30 t490 t491 w0 _ ?side1 ?side2 A12.out).mono ?_); (case side1 => repeat (with_reducible first | exact HI0.out | apply IsS112.alloc | apply IsS112.drewN | apply IsS112.drew | apply IsS112.set_1)); (case side2 => repeat (with_reducible first | exact HB.out | apply bA | apply bN | apply bD | refine below_set ?_ (IsS112.ge HI0.out))); rintro e w21 ⟨rfl, hi, hb, hk⟩; refine ⟨_, rfl, ?_⟩; have n0_ := aM (Kd.N_mono (Kd.N_keep (Kd.N_mono (ok := fun k_ => (((w.heap.size ≤ k_)) ∧ k_ ≠ g)) (by (with_reducible repeat (first | apply Na | apply Nn | apply Nd)); exact HO_5.out) (fun k_ hk_ => (⟨hk_, hk_.2⟩ : _ ∧ k_ ≠ g))) hk (fun _ h => h.2)) (fun _ h => h.1)); have n1_ := aM (KeepBut.trans (by repeat (with_reducible first | exact HK.out | apply KeepBut.set_ | apply kN | apply kD | apply kA)) hk (.inl rfl)); have n2_ := aM (hb); have n3_ := aM (hi); clear HO_5 HK HB HI0; have HO_5 := n0_; have HK := n1_; have HB := n2_; have HI0 := n3_; clear n0_ n1_ n2_ n3_))
   go_loopg [5] kj4 (fun kq v5 w' => ∃ (x5_2 : List (List (S30))), Aside0 (spec_l3Bent.l0 kq x5_2 s0_0 t491 = some (r1, r2)) ∧ Aside0 (kq ≤ kj4) ∧ Aside0 (Kd.N (Kd.slice 30 k30) 23 w' w.heap.size (fun k_ => (w.heap.size ≤ k_) ∧ k_ ≠ g) v5 x5_2) ∧ Aside0 (IsS112 w0 w' g s0_0 t491) ∧ Aside0 (KeepBut w w' g none) ∧ Aside0 (Below w0.heap.size w0 w'))
   case atStart => exact ⟨(x5_4), H', ⟨Nat.le_refl _⟩, ⟨by (with_reducible repeat (first | apply Na | apply Nn | apply Nd)); exact HO_5.out⟩, ⟨by repeat (with_reducible first | exact HI0.out | apply IsS112.alloc | apply IsS112.drewN | apply IsS112.drew | apply IsS112.set_1)⟩, ⟨by repeat (with_reducible first | exact HK.out | apply KeepBut.set_ | apply kN | apply kD | apply kA)⟩, ⟨by repeat (with_reducible first | exact HB.out | apply bA | apply bN | apply bD | refine below_set ?_ (IsS112.ge HI0.out))⟩⟩
   clear H'
   try clear c1; try clear c2; try clear p2; try clear c6; try clear c8; try clear c8b0; try clear c10; try clear c12; try clear c13; try clear c13b0; try clear c13b1; try clear c15; try clear c20; try clear c20b0; try clear c20b1; try clear p2
   obtain ⟨x5_2, HA, HK2, HO_5, HI0, HK, HB⟩ := hrel
   obtain _ | k2 := gk
   · exact absurd HA.out (by simp [spec_l3Bent.l0])
   have H := HA.out
   clear HA
   simp only [spec_l3Bent.l0] at H
   by_cases c22 : (x5_2.length : Int) ≤ 8
   · rw [if_pos c22] at H
     have c22b0 : decide ((x5_2.length : Int) ≤ 8) = true := decide_eq_true c22
     have c22b1 : decide (x5_2.length ≤ 8) = true := decide_eq_true (by omega)
     clear c22
     obtain ⟨y499, hy499⟩ : ∃ y_ : List (S30), y_ = (([] : List (S30))) := ⟨_, rfl⟩
     replace H : (if x5_2.length < 5864062014805 then (spec_l3Bent.l0 k2 (x5_2 ++ [y499]) s0_0 t491) else (none)) = some (r1, r2) := by first | (rw [hy499]; with_reducible exact H) | (have H2_ := (Option.bind_some _ _).symm.trans H; rw [hy499]; with_reducible exact H2_) | (have H2_ := (Option.bind_some _ _).symm.trans H; with_reducible exact H2_) | with_reducible exact H | (rw [hy499]; exact H) | exact H
     have Ny499 := aM hy499; clear hy499
     by_cases c23 : x5_2.length < 5864062014805
     · rw [if_pos c23] at H; have LMc23 := aM c23; clear c23
       obtain ⟨y502, hy502⟩ : ∃ y_ : List (List (S30)), y_ = (x5_2 ++ [y499]) := ⟨_, rfl⟩
       replace H : (spec_l3Bent.l0 k2 y502 s0_0 t491) = some (r1, r2) := by first | (rw [hy502]; with_reducible exact H) | (have H2_ := (Option.bind_some _ _).symm.trans H; rw [hy502]; with_reducible exact H2_) | (have H2_ := (Option.bind_some _ _).symm.trans H; with_reducible exact H2_) | with_reducible exact H | (rw [hy502]; exact H) | exact H
       have Ny502 := aM hy502; clear hy502
       have H' := aM H
       clear H
       obtain ⟨Ao24, co24, eo24⟩ := Kd.N_slice HO_5.out
       subst eo24
       go_wp2_with (first | ((with_reducible refine gate_dst (N := 29) rfl ?_); refine Kd.N_lit k30 _ 30 ?hg (N' := 29) ?hd (xs := ([] : List (S30))) (inner := []) (ok := (fun k_ => (w.heap.size ≤ k_) ∧ some k_ ≠ (.slice Ao24 x5_2.length co24 : Value).ownBlock ∧ k_ ≠ g)) (okp := (fun k_ => (w.heap.size ≤ k_) ∧ some k_ ≠ (.slice Ao24 x5_2.length co24 : Value).ownBlock ∧ k_ ≠ g)) ?hr ?hp (fun _ hk => hk) ((show ∀ k_, wr.heap.size ≤ k_ → (fun k_ => (w.heap.size ≤ k_) ∧ some k_ ≠ (.slice Ao24 x5_2.length co24 : Value).ownBlock ∧ k_ ≠ g) k_ from fun k_ hk => ⟨(Nat.le_trans (keep_size (w := w) (g := g) (row := none) (by repeat (with_reducible first | exact HK.out | apply KeepBut.set_ | apply kN | apply kD | apply kA))) hk), Kd.fresh' (Kd.N_lt (by (with_reducible repeat (first | apply Na | apply Nn | apply Nd)); exact HO_5.out)) k_ hk, IsS112.fresh (by repeat (with_reducible first | exact HI0.out | apply IsS112.alloc | apply IsS112.drewN | apply IsS112.drew | apply IsS112.set_1)) k_ hk⟩) _ (Nat.le_refl _)) (Below.refl _ _) (Nat.le_refl _) (by simp) ?_; (case hd => rfl); (case hg => rfl); (case hr => first | (go_simp; done) | (go_simp; rfl)); (case hp => exact (Reps.none _ _)); intro v500 w25 ho26 hb hg_ hnew_; clear hg_ hnew_; (first | rw [← Ny499.out] at ho26 | (simp only [Int.reduceToNat] at ho26; rw [← Ny499.out] at ho26)); have n0_ := aM (Kd.N_elder' (by (with_reducible repeat (first | apply Na | apply Nn | apply Nd)); exact HO_5.out) (Kd.N_base ho26) hb); have n1_ := aM (Kd.N_lower ho26 (keep_size (w := w) (g := g) (row := none) (by repeat (with_reducible first | exact HK.out | apply KeepBut.set_ | apply kN | apply kD | apply kA)))); have n2_ := aM (IsS112.below (by repeat (with_reducible first | exact HI0.out | apply IsS112.alloc | apply IsS112.drewN | apply IsS112.drew | apply IsS112.set_1)) hb); have n3_ := aM (KeepBut.trans (by repeat (with_reducible first | exact HK.out | apply KeepBut.set_ | apply kN | apply kD | apply kA)) (KeepBut.of_below hb g none) (.inl rfl)); have n4_ := aM (below_step (by repeat (with_reducible first | exact HB.out | apply bA | apply bN | apply bD | refine below_set ?_ (IsS112.ge HI0.out))) hb); clear HO_5 HI0 HK HB; have HO_5 := n0_; have HO501 := n1_; have HI0 := n2_; have HK := n3_; have HB := n4_; clear n0_ n1_ n2_ n3_ n4_ hb ho26; obtain ⟨Ao28, co28, eo28⟩ := Kd.N_slice HO501.out; subst eo28) | ((with_reducible refine gate_builtin (b := .append) (xs := #[.tmp 28, .tmp 30]) rfl ?_); at_builtin; refine Kd.N_append (Kd.slice 30 k30) w.heap.size rfl (.tmp 28) (.tmp 30) 42 23 (.slice none 0 0) 24 rfl Try.underlying42 info23 rfl (by decide) (by omega) (.slice Ao24 x5_2.length co24) x5_2 y499 [.slice Ao28 y499.length co28] (fun k_ => (w.heap.size ≤ k_) ∧ k_ ≠ g) (fun k_ => ((fun k_ => (w.heap.size ≤ k_) ∧ k_ ≠ g)) k_ ∧ some k_ ≠ (.slice Ao24 x5_2.length co24 : Value).ownBlock) rfl rfl ?aP (fun _ hk => hk) ?aF ?aO (Below.refl _ _) ?aS ?aL ?_; (case aP => exact (Kd.FK_slice_mk (Kd.N_reads' (Kd.N_mono (ok' := (fun k_ => ((fun k_ => (w.heap.size ≤ k_) ∧ k_ ≠ g)) k_ ∧ some k_ ≠ (.slice Ao24 x5_2.length co24 : Value).ownBlock)) (HO501.out) (fun k_ hk => ⟨⟨hk.1, hk.2.2⟩, hk.2.1⟩))).2.1 (Kd.N_F (Kd.N_mono (ok' := (fun k_ => ((fun k_ => (w.heap.size ≤ k_) ∧ k_ ≠ g)) k_ ∧ some k_ ≠ (.slice Ao24 x5_2.length co24 : Value).ownBlock)) (HO501.out) (fun k_ hk => ⟨⟨hk.1, hk.2.2⟩, hk.2.1⟩))))); (case aF => exact (fun k_ hk => ⟨(Nat.le_trans (keep_size (w := w) (g := g) (row := none) (by repeat (with_reducible first | exact HK.out | apply KeepBut.set_ | apply kN | apply kD | apply kA))) hk), IsS112.fresh (by repeat (with_reducible first | exact HI0.out | apply IsS112.alloc | apply IsS112.drewN | apply IsS112.drew | apply IsS112.set_1)) k_ hk⟩)); (case aO => exact (by (with_reducible repeat (first | apply Na | apply Nn | apply Nd)); exact Kd.N_mono HO_5.out (fun _ hk => ⟨hk.1.1, hk.1.2⟩))); (case aS => exact (keep_size (w := w) (g := g) (row := none) (by repeat (with_reducible first | exact HK.out | apply KeepBut.set_ | apply kN | apply kD | apply kA)))); (case aL => have := LMc23.out; omega); intro v503 w27 ho hb hg hat; rw [← Ny502.out] at ho; have n0_ := aM (IsS112.grown (by repeat (with_reducible first | exact HI0.out | apply IsS112.alloc | apply IsS112.drewN | apply IsS112.drew | apply IsS112.set_1)) hg (IsS112.own_neN HI0.out HO_5.out (by decide))); have n1_ := aM (below_weaken (by repeat (with_reducible first | exact HB.out | apply bA | apply bN | apply bD | refine below_set ?_ (IsS112.ge HI0.out))) HL.out hb); have n2_ := aM (KeepBut.trans (by repeat (with_reducible first | exact HK.out | apply KeepBut.set_ | apply kN | apply kD | apply kA)) (KeepBut.of_grown hg g) (Kd.N_base2 HO_5.out)); have n3_ := aM (ho); clear HI0 HB HK HO_5 HO501; have HI0 := n0_; have HB := n1_; have HK := n2_; have HO504 := n3_; clear n0_ n1_ n2_ n3_ ho hb hg hat))
       go_roundg k2
       case measure => have := HJ4.out; have := HK2.out; omega
       case rel => exact ⟨(y502), H', ⟨by have := HJ4.out; have := HK2.out; omega⟩, ⟨by (with_reducible repeat (first | apply Na | apply Nn | apply Nd)); exact HO504.out⟩, ⟨by repeat (with_reducible first | exact HI0.out | apply IsS112.alloc | apply IsS112.drewN | apply IsS112.drew | apply IsS112.set_1)⟩, ⟨by repeat (with_reducible first | exact HK.out | apply KeepBut.set_ | apply kN | apply kD | apply kA)⟩, ⟨by repeat (with_reducible first | exact HB.out | apply bA | apply bN | apply bD | refine below_set ?_ (IsS112.ge HI0.out))⟩⟩
     rw [if_neg c23] at H
     exact absurd H (by simp)
   rw [if_neg c22] at H
   have c22b0 : decide ((x5_2.length : Int) ≤ 8) = false := decide_eq_false c22
   have c22b1 : decide (x5_2.length ≤ 8) = false := decide_eq_false (by omega)
   clear c22
   simp only [Option.some.injEq, Prod.mk.injEq] at H
   obtain ⟨rfl, rfl⟩ := H
   obtain ⟨Ao29, co29, eo29⟩ := Kd.N_slice HO_5.out
   subst eo29
   go_wp2
   go_ret
   exact ⟨_, by first | rfl | (simp [*, errW_none, errW_some] <;> rfl), by (with_reducible repeat (first | apply Na | apply Nn | apply Nd)); exact Kd.N_mono HO_5.out (fun _ hk => hk.1), by repeat (with_reducible first | exact HI0.out | apply IsS112.alloc | apply IsS112.drewN | apply IsS112.drew | apply IsS112.set_1), by repeat (with_reducible first | exact HB.out | apply bA | apply bN | apply bD | refine below_set ?_ (IsS112.ge HI0.out)), by repeat (with_reducible first | exact HK.out | apply KeepBut.set_ | apply kN | apply kD | apply kA)⟩
 rw [if_neg c20] at H
 have c20b0 : (t490 == 1) = false := beq_eq_false_iff_ne.mpr c20
 have c20b1 : (t490 != 1) = true := bne_iff_ne.mpr c20
 simp only [Option.some.injEq, Prod.mk.injEq] at H
 obtain ⟨rfl, rfl⟩ := H
 go_wp2_with (first | ((with_reducible refine gate_callee (f := 109) rfl ?_); refine goesL_ (some 15) rfl rfl Try.func109 (by kernel_rfl) rfl #[.pointer (some ⟨g, 0, none⟩), .int .i64 30] rfl (by (try simp only [List.map_toArray, List.map_cons, List.map_nil]); first | done | rfl) ?_; (with_reducible refine (spec_l13Rd_pick.calls kj4 g s0_0 t486 30 t490 t491 w0 _ ?side1 ?side2 A12.out).mono ?_); (case side1 => repeat (with_reducible first | exact HI0.out | apply IsS112.alloc | apply IsS112.drewN | apply IsS112.drew | apply IsS112.set_1)); (case side2 => repeat (with_reducible first | exact HB.out | apply bA | apply bN | apply bD | refine below_set ?_ (IsS112.ge HI0.out))); rintro e w30 ⟨rfl, hi, hb, hk⟩; refine ⟨_, rfl, ?_⟩; have n0_ := aM (Kd.N_mono (Kd.N_keep (Kd.N_mono (ok := fun k_ => (((w.heap.size ≤ k_)) ∧ k_ ≠ g)) (by (with_reducible repeat (first | apply Na | apply Nn | apply Nd)); exact HO_5.out) (fun k_ hk_ => (⟨hk_, hk_.2⟩ : _ ∧ k_ ≠ g))) hk (fun _ h => h.2)) (fun _ h => h.1)); have n1_ := aM (KeepBut.trans (by repeat (with_reducible first | exact HK.out | apply KeepBut.set_ | apply kN | apply kD | apply kA)) hk (.inl rfl)); have n2_ := aM (hb); have n3_ := aM (hi); clear HO_5 HK HB HI0; have HO_5 := n0_; have HK := n1_; have HB := n2_; have HI0 := n3_; clear n0_ n1_ n2_ n3_))
 go_ret
 exact ⟨_, by first | rfl | (simp [*, errW_none, errW_some] <;> rfl), by (with_reducible repeat (first | apply Na | apply Nn | apply Nd)); exact Kd.N_mono HO_5.out (fun _ hk => hk.1), by repeat (with_reducible first | exact HI0.out | apply IsS112.alloc | apply IsS112.drewN | apply IsS112.drew | apply IsS112.set_1), by repeat (with_reducible first | exact HB.out | apply bA | apply bN | apply bD | refine below_set ?_ (IsS112.ge HI0.out)), by repeat (with_reducible first | exact HK.out | apply KeepBut.set_ | apply kN | apply kD | apply kA)⟩
end Go.Proofs.Ytpckkkcaffhhnaa.P
