-- PxspecUnitOk, PxspecUnitFind, LUnit, PximplunitsOk, Pximplpick, PximplPickAt: put together by squash.py
import Derived.Test.YtpckkkcaffhhnaaSqFnPickStrong3
import Derived.Test.YtpckkkcaffhhnaaSqFnPickStrong4

-- made by printx.py (own driver over the kit's print); Lean checks it
namespace Go.Proofs.Ytpckkkcaffhhnaa.P
open Go.RowKit Go.Proofs.YtpckkkcaffhhnaaW.PrintWords Go.Proofs.YtpckkkcaffhhnaaW.PrintLast Go.Proofs.YtpckkkcaffhhnaaW.PrintMore
attribute [local go_sem] max2_int min2_int max_two min_two max_three min_three max_four min_four   -- for this text's walks alone
set_option linter.unusedVariables false
set_option linter.unusedSimpArgs false

/-! ### spec_UnitOk: function 18 -/
def spec_UnitOk.l0 : Nat → List (S30) → Int → Option (Bool)
  | 0, _, _ => none
  | k + 1, x0, x3 => if x3 < (x0.length : Int) then (if 0 ≤ x3 then ((spec_FunOk.f k ((rd_T30 x0 x3).f0) ((rd_T30 x0 x3).f1) ((rd_T30 x0 x3).f2)).bind fun t252 => (if t252 = true then ((spec_l2Find.f k x0 ((rd_T30 x0 x3).f0)).bind fun t254 => (if t254 = x3 then (spec_UnitOk.l0 k x0 (wrap64 (x3 + 1))) else (some false))) else (some false))) else (none)) else (some (decide ((x0.length : Int) ≤ 5)))
def spec_UnitOk.f (k : Nat) (l0 : List (S30)) : Option (Bool) := spec_UnitOk.l0 k l0 0
set_option maxHeartbeats 8000000 in
set_option maxRecDepth 100000 in
theorem spec_UnitOk.calls (k : Nat) (A0 : Option Addr) (c0 : Nat) (l0 : List (S30)) (r : Bool) (w : World) (hr0 : Kd.C k30 w A0 l0.length l0) (hc0 : l0.length ≤ c0) (h : spec_UnitOk.f k l0 = some r) :
    Calls Try.prog 18 #[.slice A0 l0.length c0] w fun e w' => e = .returned (.bool r) ∧ Below w.heap.size w w' := by
 have hu30 := Try.underlying30
 have HR0 := Aside0.mk hr0; have HC0 := Aside0.mk hc0; clear hr0 hc0
 have HB := Aside0.mk (Below.refl w.heap.size w)
 have H : (spec_UnitOk.l0 k l0 0) = some r := h
 clear h
 have H' := Aside0.mk H
 clear H
 go_enter Try.func18, Try.ntmps18
 go_wp2
 go_loopg [3] k (fun kq v3 w' => ∃ (x3_1 : Int), v3 = .int .i64 x3_1 ∧ Aside0 (spec_UnitOk.l0 kq l0 x3_1 = some r) ∧ Aside0 (kq ≤ k) ∧ Aside0 (Below w.heap.size w w'))
 case atStart => exact ⟨(0), (by first | rfl | (simp; done) | (simp [*]; done)), H', ⟨Nat.le_refl _⟩, ⟨by repeat (first | (with_reducible first | exact HB.out | apply below_alloc | apply pw_below_drewN | apply below_drew1) | exact HB.out)⟩⟩
 clear H'
 try clear c1
 obtain ⟨x3_1, rfl, HA, HK1, HB⟩ := hrel
 obtain _ | k1 := gk
 · exact absurd HA.out (by simp [spec_UnitOk.l0])
 have H := HA.out
 clear HA
 simp only [spec_UnitOk.l0] at H
 by_cases c2 : x3_1 < (l0.length : Int)
 · rw [if_pos c2] at H
   have c2b0 : decide (x3_1 < (l0.length : Int)) = true := decide_eq_true c2
   clear c2
   by_cases c3 : 0 ≤ x3_1
   · rw [if_pos c3] at H
     have c3b0 : decide (0 ≤ x3_1) = true := decide_eq_true c3
     clear c3
     replace H := Option.bind_eq_some_iff.mp H
     obtain ⟨t252, A40, H⟩ := H
     replace H : (if t252 = true then ((spec_l2Find.f k1 l0 ((rd_T30 l0 x3_1).f0)).bind fun t254 => (if t254 = x3_1 then (spec_UnitOk.l0 k1 l0 (wrap64 (x3_1 + 1))) else (some false))) else (some false)) = some r := H
     have A4 := Aside0.mk A40; clear A40
     by_cases c5 : t252 = true
     · subst c5
       have H1 : ((spec_l2Find.f k1 l0 ((rd_T30 l0 x3_1).f0)).bind fun t254 => (if t254 = x3_1 then (spec_UnitOk.l0 k1 l0 (wrap64 (x3_1 + 1))) else (some false))) = some r := by rw [if_pos rfl] at H; exact H
       clear H
       have H := H1
       clear H1
       replace H := Option.bind_eq_some_iff.mp H
       obtain ⟨t254, A60, H⟩ := H
       replace H : (if t254 = x3_1 then (spec_UnitOk.l0 k1 l0 (wrap64 (x3_1 + 1))) else (some false)) = some r := H
       have A6 := Aside0.mk A60; clear A60
       by_cases c7 : t254 = x3_1
       · rw [if_pos c7] at H
         have c7b0 : (t254 == x3_1) = true := beq_iff_eq.mpr c7
         have c7b1 : (t254 != x3_1) = false := bne_eq_false_iff_eq.mpr c7
         clear c7
         have H' := Aside0.mk H
         clear H
         have p251 : 0 ≤ (x3_1 : Int) := of_decide_eq_true (by first | (with_reducible assumption) | assumption)
         have q251 : x3_1 < (l0.length : Int) := of_decide_eq_true (by first | (with_reducible assumption) | assumption)
         obtain ⟨ad251, A251_2, c251_2, e251, hx251_0, hx251_1, hx251_2, hl251_2, hi251_2⟩ := at_T30 HR0.out x3_1 p251 q251
         cases e251
         replace hx251_0 := (HB.out.cell (World.block_lt_of_cell? w _ hx251_0)).trans hx251_0
         replace hx251_1 := (HB.out.cell (World.block_lt_of_cell? w _ hx251_1)).trans hx251_1
         replace hx251_2 := (HB.out.cell (World.block_lt_of_cell? w _ hx251_2)).trans hx251_2
         have HR251_2 := Aside0.mk hi251_2; have HC251_2 := Aside0.mk hl251_2; clear hi251_2 hl251_2; replace p251 := eq_true p251; replace q251 := eq_true q251
         go_wp2_with (first | ((with_reducible refine gate_callee (f := 22) rfl ?_); refine goesL_ (some 14) rfl rfl Try.func22 (by kernel_rfl) rfl #[.agg #[.string ((rd_T30 l0 x3_1).f0), .bool ((rd_T30 l0 x3_1).f1), .slice A251_2 ((rd_T30 l0 x3_1).f2).length c251_2]] rfl (by (try simp only [List.map_toArray, List.map_cons, List.map_nil]); first | done | rfl | (simp only [List.length_drop, List.length_take]; rfl)) ?_; (with_reducible refine (spec_FunOk.calls k1 ((rd_T30 l0 x3_1).f0) ((rd_T30 l0 x3_1).f1) _ _ ((rd_T30 l0 x3_1).f2) true _ ?side1 ?side2 A4.out).mono ?_); (case side1 => repeat (first | exact (Kd.C_below HR251_2.out HB.out) | (with_reducible refine Kd.C_alloc ?_ _) | (with_reducible refine Kd.C_drewN ?_ _) | (with_reducible refine Kd.C_drew ?_))); (case side2 => exact HC251_2.out); rintro e w8 ⟨rfl, hb⟩; refine ⟨_, rfl, ?_⟩; have n0_ := Aside0.mk (below_step (by repeat (first | (with_reducible first | exact HB.out | apply below_alloc | apply pw_below_drewN | apply below_drew1) | exact HB.out)) hb); clear HB; have HB := n0_; clear n0_; (try clear hb); (try clear hb2); (try clear hk); (try clear hi); have p253 : 0 ≤ (x3_1 : Int) := of_decide_eq_true (by first | (with_reducible assumption) | assumption); have q253 : x3_1 < (l0.length : Int) := of_decide_eq_true (by first | (with_reducible assumption) | assumption); obtain ⟨ad253, A253_2, c253_2, e253, hx253_0, hx253_1, hx253_2, hl253_2, hi253_2⟩ := at_T30 HR0.out x3_1 p253 q253; obtain rfl : ad251 = ad253 := (by injection e253); replace hx253_0 := (HB.out.cell (World.block_lt_of_cell? w _ hx253_0)).trans hx253_0; replace hx253_1 := (HB.out.cell (World.block_lt_of_cell? w _ hx253_1)).trans hx253_1; replace hx253_2 := (HB.out.cell (World.block_lt_of_cell? w _ hx253_2)).trans hx253_2; have HR253_2 := Aside0.mk hi253_2; have HC253_2 := Aside0.mk hl253_2; clear hi253_2 hl253_2; replace p253 := eq_true p253; replace q253 := eq_true q253) | (go_at_call 66; (with_reducible refine (spec_l2Find.calls k1 _ _ l0 ((rd_T30 l0 x3_1).f0) t254 _ ?side1 ?side2 A6.out).mono ?_); (case side1 => repeat (first | exact (Kd.C_below HR0.out HB.out) | (with_reducible refine Kd.C_alloc ?_ _) | (with_reducible refine Kd.C_drewN ?_ _) | (with_reducible refine Kd.C_drew ?_))); (case side2 => exact HC0.out); rintro e w' ⟨rfl, ⟨nd, rfl⟩⟩))
         go_roundg k1
         case measure => have := HK1.out; omega
         case rel => exact ⟨(wrap64 (x3_1 + 1)), (by first | rfl | (simp; done) | (simp [*]; done)), H', ⟨by have := HK1.out; omega⟩, ⟨by repeat (first | (with_reducible first | exact HB.out | apply below_alloc | apply pw_below_drewN | apply below_drew1) | exact HB.out)⟩⟩
       rw [if_neg c7] at H
       have c7b0 : (t254 == x3_1) = false := beq_eq_false_iff_ne.mpr c7
       have c7b1 : (t254 != x3_1) = true := bne_iff_ne.mpr c7
       obtain rfl := Option.some.inj H
       have p251 : 0 ≤ (x3_1 : Int) := of_decide_eq_true (by first | (with_reducible assumption) | assumption)
       have q251 : x3_1 < (l0.length : Int) := of_decide_eq_true (by first | (with_reducible assumption) | assumption)
       obtain ⟨ad251, A251_2, c251_2, e251, hx251_0, hx251_1, hx251_2, hl251_2, hi251_2⟩ := at_T30 HR0.out x3_1 p251 q251
       cases e251
       replace hx251_0 := (HB.out.cell (World.block_lt_of_cell? w _ hx251_0)).trans hx251_0
       replace hx251_1 := (HB.out.cell (World.block_lt_of_cell? w _ hx251_1)).trans hx251_1
       replace hx251_2 := (HB.out.cell (World.block_lt_of_cell? w _ hx251_2)).trans hx251_2
       have HR251_2 := Aside0.mk hi251_2; have HC251_2 := Aside0.mk hl251_2; clear hi251_2 hl251_2; replace p251 := eq_true p251; replace q251 := eq_true q251
       go_wp2_with (first | ((with_reducible refine gate_callee (f := 22) rfl ?_); refine goesL_ (some 14) rfl rfl Try.func22 (by kernel_rfl) rfl #[.agg #[.string ((rd_T30 l0 x3_1).f0), .bool ((rd_T30 l0 x3_1).f1), .slice A251_2 ((rd_T30 l0 x3_1).f2).length c251_2]] rfl (by (try simp only [List.map_toArray, List.map_cons, List.map_nil]); first | done | rfl | (simp only [List.length_drop, List.length_take]; rfl)) ?_; (with_reducible refine (spec_FunOk.calls k1 ((rd_T30 l0 x3_1).f0) ((rd_T30 l0 x3_1).f1) _ _ ((rd_T30 l0 x3_1).f2) true _ ?side1 ?side2 A4.out).mono ?_); (case side1 => repeat (first | exact (Kd.C_below HR251_2.out HB.out) | (with_reducible refine Kd.C_alloc ?_ _) | (with_reducible refine Kd.C_drewN ?_ _) | (with_reducible refine Kd.C_drew ?_))); (case side2 => exact HC251_2.out); rintro e w9 ⟨rfl, hb⟩; refine ⟨_, rfl, ?_⟩; have n0_ := Aside0.mk (below_step (by repeat (first | (with_reducible first | exact HB.out | apply below_alloc | apply pw_below_drewN | apply below_drew1) | exact HB.out)) hb); clear HB; have HB := n0_; clear n0_; (try clear hb); (try clear hb2); (try clear hk); (try clear hi); have p253 : 0 ≤ (x3_1 : Int) := of_decide_eq_true (by first | (with_reducible assumption) | assumption); have q253 : x3_1 < (l0.length : Int) := of_decide_eq_true (by first | (with_reducible assumption) | assumption); obtain ⟨ad253, A253_2, c253_2, e253, hx253_0, hx253_1, hx253_2, hl253_2, hi253_2⟩ := at_T30 HR0.out x3_1 p253 q253; obtain rfl : ad251 = ad253 := (by injection e253); replace hx253_0 := (HB.out.cell (World.block_lt_of_cell? w _ hx253_0)).trans hx253_0; replace hx253_1 := (HB.out.cell (World.block_lt_of_cell? w _ hx253_1)).trans hx253_1; replace hx253_2 := (HB.out.cell (World.block_lt_of_cell? w _ hx253_2)).trans hx253_2; have HR253_2 := Aside0.mk hi253_2; have HC253_2 := Aside0.mk hl253_2; clear hi253_2 hl253_2; replace p253 := eq_true p253; replace q253 := eq_true q253) | (go_at_call 66; (with_reducible refine (spec_l2Find.calls k1 _ _ l0 ((rd_T30 l0 x3_1).f0) t254 _ ?side1 ?side2 A6.out).mono ?_); (case side1 => repeat (first | exact (Kd.C_below HR0.out HB.out) | (with_reducible refine Kd.C_alloc ?_ _) | (with_reducible refine Kd.C_drewN ?_ _) | (with_reducible refine Kd.C_drew ?_))); (case side2 => exact HC0.out); rintro e w' ⟨rfl, ⟨nd, rfl⟩⟩))
       go_ret
       exact ⟨by first | rfl | (simp [errW_none, errW_some] <;> rfl) | (simp [*, errW_none, errW_some] <;> rfl), by repeat (first | (with_reducible first | exact HB.out | apply below_alloc | apply pw_below_drewN | apply below_drew1) | exact HB.out)⟩
     replace c5 := Bool.eq_false_iff.mpr c5
     subst c5
     have H1 : (some false) = some r := by rw [if_neg (show ¬ (false = true) by decide)] at H; exact H
     clear H
     have H := H1
     clear H1
     obtain rfl := Option.some.inj H
     have p251 : 0 ≤ (x3_1 : Int) := of_decide_eq_true (by first | (with_reducible assumption) | assumption)
     have q251 : x3_1 < (l0.length : Int) := of_decide_eq_true (by first | (with_reducible assumption) | assumption)
     obtain ⟨ad251, A251_2, c251_2, e251, hx251_0, hx251_1, hx251_2, hl251_2, hi251_2⟩ := at_T30 HR0.out x3_1 p251 q251
     cases e251
     replace hx251_0 := (HB.out.cell (World.block_lt_of_cell? w _ hx251_0)).trans hx251_0
     replace hx251_1 := (HB.out.cell (World.block_lt_of_cell? w _ hx251_1)).trans hx251_1
     replace hx251_2 := (HB.out.cell (World.block_lt_of_cell? w _ hx251_2)).trans hx251_2
     have HR251_2 := Aside0.mk hi251_2; have HC251_2 := Aside0.mk hl251_2; clear hi251_2 hl251_2; replace p251 := eq_true p251; replace q251 := eq_true q251
     go_wp2_with (first | ((with_reducible refine gate_callee (f := 22) rfl ?_); refine goesL_ (some 14) rfl rfl Try.func22 (by kernel_rfl) rfl #[.agg #[.string ((rd_T30 l0 x3_1).f0), .bool ((rd_T30 l0 x3_1).f1), .slice A251_2 ((rd_T30 l0 x3_1).f2).length c251_2]] rfl (by (try simp only [List.map_toArray, List.map_cons, List.map_nil]); first | done | rfl | (simp only [List.length_drop, List.length_take]; rfl)) ?_; (with_reducible refine (spec_FunOk.calls k1 ((rd_T30 l0 x3_1).f0) ((rd_T30 l0 x3_1).f1) _ _ ((rd_T30 l0 x3_1).f2) false _ ?side1 ?side2 A4.out).mono ?_); (case side1 => repeat (first | exact (Kd.C_below HR251_2.out HB.out) | (with_reducible refine Kd.C_alloc ?_ _) | (with_reducible refine Kd.C_drewN ?_ _) | (with_reducible refine Kd.C_drew ?_))); (case side2 => exact HC251_2.out); rintro e w10 ⟨rfl, hb⟩; refine ⟨_, rfl, ?_⟩; have n0_ := Aside0.mk (below_step (by repeat (first | (with_reducible first | exact HB.out | apply below_alloc | apply pw_below_drewN | apply below_drew1) | exact HB.out)) hb); clear HB; have HB := n0_; clear n0_; (try clear hb); (try clear hb2); (try clear hk); (try clear hi)))
     go_ret
     exact ⟨by first | rfl | (simp [errW_none, errW_some] <;> rfl) | (simp [*, errW_none, errW_some] <;> rfl), by repeat (first | (with_reducible first | exact HB.out | apply below_alloc | apply pw_below_drewN | apply below_drew1) | exact HB.out)⟩
   rw [if_neg c3] at H
   exact absurd H (by simp)
 rw [if_neg c2] at H
 have c2b0 : decide (x3_1 < (l0.length : Int)) = false := decide_eq_false c2
 clear c2
 obtain rfl := Option.some.inj H
 go_wp2
 go_ret
 exact ⟨by first | rfl | (simp [errW_none, errW_some] <;> rfl) | (simp [*, errW_none, errW_some] <;> rfl), by repeat (first | (with_reducible first | exact HB.out | apply below_alloc | apply pw_below_drewN | apply below_drew1) | exact HB.out)⟩

end Go.Proofs.Ytpckkkcaffhhnaa.P

-- made by printx.py (own driver over the kit's print); Lean checks it
namespace Go.Proofs.Ytpckkkcaffhhnaa.P
open Go.RowKit Go.Proofs.YtpckkkcaffhhnaaW.PrintWords Go.Proofs.YtpckkkcaffhhnaaW.PrintLast Go.Proofs.YtpckkkcaffhhnaaW.PrintMore
attribute [local go_sem] max2_int min2_int max_two min_two max_three min_three max_four min_four   -- for this text's walks alone
set_option linter.unusedVariables false
set_option linter.unusedSimpArgs false

/-! ### spec_UnitFind: function 17 -/
def spec_UnitFind.f (k : Nat) (l0 : List (S30)) (a1 : ByteArray) : Option (Int) := (spec_UnitOk.f k l0).bind fun t255 => (if t255 = true then ((spec_l2Find.f k l0 a1).bind fun t256 => (some t256)) else (some (-1)))
end Go.Proofs.Ytpckkkcaffhhnaa.P

/- When a unit is ok, and where its functions are: what the printed functions of both sides compute. -/
namespace Go.Proofs.Ytpckkkcaffhhnaa.L
open Go.RowKit Go.Proofs.YtpckkkcaffhhnaaW.PrintWords Go.Proofs.YtpckkkcaffhhnaaW.PrintLast Go.Proofs.YtpckkkcaffhhnaaW.PrintMore Go.Proofs.Ytpckkkcaffhhnaa.P
set_option linter.unusedVariables false
set_option linter.unusedSimpArgs false
/-- No text of the function is too long for an argument. -/
def FitI (x : S38) : Prop := x.f2.size ≤ 140737488351232
def FitF (x : S30) : Prop := x.f0.size ≤ 140737488351232 ∧ x.f2.length ≤ 140737488351232 ∧ ∀ y ∈ x.f2, y.f2.size ≤ 140737488351232
def named (a : ByteArray) (x : S30) : Bool := x.f0.toList == a.toList
def findI (l : List S30) (a : ByteArray) : Int := idxFrom (named a) l 0
def unitGood (l : List S30) : Bool := allFrom (fun i x => funOkB x.f0 x.f2 && (findI l x.f0 == (i : Int))) l 0
def unitOkB (l : List S30) : Bool := unitGood l && decide (l.length ≤ 5)
theorem impl_FunOk_f (x : S30) (h : FitF x) : impl_FunOk.f x.f0 x.f1 x.f2 = some (funOkB x.f0 x.f2) := by
  unfold impl_FunOk.f
  rw [if_pos ⟨h.1, h.2.2⟩]
theorem spec_FunOk_l0 (x : S30) (h : FitF x) (k : Nat) (hk : 140737488351236 + x.f2.length < k) : spec_FunOk.l0 k (x.f2.length : Int) 0 x.f0 x.f1 x.f2 = some (!(x.f2.any fun y => !insOkB y.f0 y.f1 y.f2)) := by
  have e := loop_all (fun _ (y : S38) => insOkB y.f0 y.f1 y.f2) z38 x.f2 true (by have := h.2.1; omega) (fun k i => spec_FunOk.l0 k (x.f2.length : Int) i x.f0 x.f1 x.f2) 140737488351236 ?_ ?_ ?_ k hk
  · rw [e, allFrom_all, Bool.and_true, all_not_any]
  · intro k i hK hi hq
    simp only [spec_FunOk.l0]
    have e := spec_InsOk_f (rd_T38 x.f2 (i : Int)).f0 (rd_T38 x.f2 (i : Int)).f1 (rd_T38 x.f2 (i : Int)).f2 (h.2.2 _ (getD_mem hi)) k (by have : (rd_T38 x.f2 (i : Int)).f2.size ≤ 140737488351232 := h.2.2 _ (getD_mem hi); omega)
    rw [show insOkB (rd_T38 x.f2 (i : Int)).f0 (rd_T38 x.f2 (i : Int)).f1 (rd_T38 x.f2 (i : Int)).f2 = true from hq] at e
    rw [if_pos (by omega), if_pos (by omega), if_pos (by omega), e]
    rfl
  · intro k i hK hi hq
    simp only [spec_FunOk.l0]
    have e := spec_InsOk_f (rd_T38 x.f2 (i : Int)).f0 (rd_T38 x.f2 (i : Int)).f1 (rd_T38 x.f2 (i : Int)).f2 (h.2.2 _ (getD_mem hi)) k (by have : (rd_T38 x.f2 (i : Int)).f2.size ≤ 140737488351232 := h.2.2 _ (getD_mem hi); omega)
    rw [show insOkB (rd_T38 x.f2 (i : Int)).f0 (rd_T38 x.f2 (i : Int)).f1 (rd_T38 x.f2 (i : Int)).f2 = false from hq] at e
    rw [if_pos (by omega), if_pos (by omega), if_pos (by omega), e]
    rfl
  · intro k hK
    simp only [spec_FunOk.l0]
    rw [if_neg (by omega)]
theorem spec_FunOk_f (x : S30) (h : FitF x) (k : Nat) (hk : 140737488351240 + x.f2.length < k) : spec_FunOk.f k x.f0 x.f1 x.f2 = some (funOkB x.f0 x.f2) := by
  obtain ⟨m, rfl⟩ : ∃ m, k = m + 1 := ⟨k - 1, by omega⟩
  have hs := h.1
  have hl := h.2.1
  unfold spec_FunOk.f funOkB
  rw [spec_NameOk_f x.f0 h.1 _ (by omega)]
  simp only [Option.bind_some]
  have j (b : Bool) : spec_FunOk.j0 (m + 1) (x.f2.length : Int) b x.f0 x.f1 x.f2 = some (!b && !(x.f2.any fun y => !insOkB y.f0 y.f1 y.f2)) := by
    simp only [spec_FunOk.j0]
    cases b with
    | true => rfl
    | false => rw [if_neg (by decide), spec_FunOk_l0 x h m (by omega)]; rfl
  cases nameOk x.f0 with
  | false => rw [if_neg (by decide), j]; rfl
  | true =>
    rw [if_pos rfl]
    by_cases h1 : (x.f2.length : Int) < 1
    · have e1 : decide (1 ≤ (x.f2.length : Int)) = false := decide_eq_false (by omega)
      rw [if_pos h1, j, e1]; rfl
    · rw [if_neg h1]
      have e1 : decide (1 ≤ (x.f2.length : Int)) = true := decide_eq_true (by omega)
      by_cases h2 : (x.f2.length : Int) > 10
      · have e2 : decide ((x.f2.length : Int) ≤ 10) = false := decide_eq_false (by omega)
        rw [if_pos h2, j, e1, e2]; rfl
      · rw [if_neg h2]
        have e2 : decide ((x.f2.length : Int) ≤ 10) = true := decide_eq_true (by omega)
        have w : wrap64 ((x.f2.length : Int) - 1) = (x.f2.length : Int) - 1 := wrap_id (by omega) (by omega)
        rw [w, if_pos (by omega), if_pos (by omega), spec_InsLast_f]
        simp only [Option.bind_some]
        rw [j, e1, e2]
        have e3 : (rd_T38 x.f2 ((x.f2.length : Int) - 1)) = x.f2.getD (x.f2.length - 1) z38 := by
          unfold rd_T38
          rw [show ((x.f2.length : Int) - 1).toNat = x.f2.length - 1 by omega]
        rw [e3]
        simp [Bool.and_comm]
theorem spec_l2Find_f (l : List S30) (hn : l.length ≤ 9223372036854775807) (a : ByteArray) (k : Nat) (hk : l.length < k) : spec_l2Find.f k l a = some (findI l a) := by
  unfold spec_l2Find.f findI
  refine loop_idx (named a) z30 l hn (fun k i => spec_l2Find.l0 k l a i) 0 ?_ ?_ ?_ k (by omega)
  · intro k i _ hi hq
    simp only [spec_l2Find.l0]
    rw [if_pos (by omega), if_pos (by omega), if_pos (show (rd_T30 l (i : Int)).f0.toList = a.toList from beq_iff_eq.mp hq)]
  · intro k i _ hi hq
    simp only [spec_l2Find.l0]
    rw [if_pos (by omega), if_pos (by omega), if_neg (show ¬ (rd_T30 l (i : Int)).f0.toList = a.toList from beq_eq_false_iff_ne.mp hq)]
  · intro k _
    simp only [spec_l2Find.l0]
    rw [if_neg (by omega)]
theorem spec_UnitOk_f (l : List S30) (hn : l.length ≤ 140737488351232) (hx : ∀ x ∈ l, FitF x) (k : Nat) (hk : 500000000000000 ≤ k) : spec_UnitOk.f k l = some (unitOkB l) := by
  unfold spec_UnitOk.f unitOkB
  have ed : decide ((l.length : Int) ≤ 5) = decide (l.length ≤ 5) := by congr 1; exact propext ⟨fun h => by omega, fun h => by omega⟩
  rw [← ed]
  have step : ∀ (k i : Nat), 300000000000000 ≤ k → i < l.length → spec_UnitOk.l0 (k + 1) l (i : Int) = if (funOkB (l.getD i z30).f0 (l.getD i z30).f2 && (findI l (l.getD i z30).f0 == (i : Int))) = true then spec_UnitOk.l0 k l (wrap64 ((i : Int) + 1)) else some false := by
    intro k i hK hi
    simp only [spec_UnitOk.l0]
    have hf := hx _ (getD_mem (d := z30) hi)
    have hl2 := hf.2.1
    have e := spec_FunOk_f (rd_T30 l (i : Int)) hf k (by have e0 : rd_T30 l (i : Int) = l.getD i z30 := rfl; rw [e0]; omega)
    rw [if_pos (by omega), if_pos (by omega), e]
    simp only [Option.bind_some]
    show (if funOkB (l.getD i z30).f0 (l.getD i z30).f2 = true then _ else _) = _
    cases funOkB (l.getD i z30).f0 (l.getD i z30).f2 with
    | false => rfl
    | true =>
      rw [if_pos rfl, spec_l2Find_f l (by omega) _ k (by omega)]
      simp only [Option.bind_some, Bool.true_and]
      show (if findI l (l.getD i z30).f0 = (i : Int) then _ else _) = _
      by_cases hq : findI l (l.getD i z30).f0 = (i : Int)
      · rw [if_pos hq, if_pos (beq_iff_eq.mpr hq)]
      · rw [if_neg hq, if_neg (by rw [beq_eq_false_iff_ne.mpr hq]; decide)]
  refine loop_all (fun i x => funOkB x.f0 x.f2 && (findI l x.f0 == (i : Int))) z30 l (decide ((l.length : Int) ≤ 5)) (by omega) (fun k i => spec_UnitOk.l0 k l i) 300000000000000 ?_ ?_ ?_ k (by omega)
  · intro k i hK hi hq
    show spec_UnitOk.l0 (k + 1) l (i : Int) = _
    rw [step k i hK hi, if_pos hq]
  · intro k i hK hi hq
    show spec_UnitOk.l0 (k + 1) l (i : Int) = _
    rw [step k i hK hi, if_neg (by rw [hq]; decide)]
  · intro k _
    simp only [spec_UnitOk.l0]
    rw [if_neg (by omega)]
theorem impl_funsOk_f (l : List S30) (hn : l.length ≤ 140737488351232) (hx : ∀ x ∈ l, FitF x) (k : Nat) (hk : l.length < k) : impl_funsOk.f k l = some (unitGood l) := by
  unfold impl_funsOk.f
  have step : ∀ (k i : Nat), i < l.length → impl_funsOk.l0 (k + 1) l l (l.length : Int) (i : Int) = if (funOkB (l.getD i z30).f0 (l.getD i z30).f2 && (findI l (l.getD i z30).f0 == (i : Int))) = true then impl_funsOk.l0 k l l (l.length : Int) (wrap64 ((i : Int) + 1)) else some false := by
    intro k i hi
    simp only [impl_funsOk.l0]
    have hf := hx _ (getD_mem (d := z30) hi)
    have e := impl_FunOk_f (rd_T30 l (i : Int)) hf
    rw [if_pos (by omega), if_pos (by omega), if_pos (by omega), e]
    simp only [Option.bind_some]
    show (if funOkB (l.getD i z30).f0 (l.getD i z30).f2 = true then _ else _) = _
    cases funOkB (l.getD i z30).f0 (l.getD i z30).f2 with
    | false => rfl
    | true =>
      rw [if_pos rfl]
      simp only [impl_find.f, Option.bind_some, Bool.true_and]
      show (if findI l (l.getD i z30).f0 = (i : Int) then _ else _) = _
      by_cases hq : findI l (l.getD i z30).f0 = (i : Int)
      · rw [if_pos hq, if_pos (beq_iff_eq.mpr hq)]
      · rw [if_neg hq, if_neg (by rw [beq_eq_false_iff_ne.mpr hq]; decide)]
  have e := loop_all (fun i x => funOkB x.f0 x.f2 && (findI l x.f0 == (i : Int))) z30 l true (by omega) (fun k i => impl_funsOk.l0 k l l (l.length : Int) i) 0 ?_ ?_ ?_ k (by omega)
  · rw [e, Bool.and_true]; rfl
  · intro k i hK hi hq
    show impl_funsOk.l0 (k + 1) l l (l.length : Int) (i : Int) = _
    rw [step k i hi, if_pos hq]
  · intro k i hK hi hq
    show impl_funsOk.l0 (k + 1) l l (l.length : Int) (i : Int) = _
    rw [step k i hi, if_neg (by rw [hq]; decide)]
  · intro k _
    simp only [impl_funsOk.l0]
    rw [if_neg (by omega)]
theorem impl_UnitOk_f (l : List S30) (hn : l.length ≤ 140737488351232) (hx : ∀ x ∈ l, FitF x) (k : Nat) (hk : l.length < k) : impl_UnitOk.f k l = some (unitOkB l) := by
  unfold impl_UnitOk.f unitOkB
  by_cases h : l.length ≤ 5
  · rw [if_pos (by omega), impl_funsOk_f l hn hx k hk]
    simp [h]
  · rw [if_neg (by omega)]
    simp [h]
def unitFindI (l : List S30) (a : ByteArray) : Int := if unitOkB l = true then findI l a else -1
theorem impl_UnitFind_f (l : List S30) (hn : l.length ≤ 140737488351232) (hx : ∀ x ∈ l, FitF x) (a : ByteArray) (k : Nat) (hk : l.length < k) : impl_UnitFind.f k l a = some (unitFindI l a) := by
  unfold impl_UnitFind.f unitFindI
  rw [impl_UnitOk_f l hn hx k hk]
  simp only [Option.bind_some]
  split <;> rfl
end Go.Proofs.Ytpckkkcaffhhnaa.L

-- made by printx.py (own driver over the kit's print); Lean checks it
namespace Go.Proofs.Ytpckkkcaffhhnaa.P
open Go.RowKit Go.Proofs.YtpckkkcaffhhnaaW.PrintWords Go.Proofs.YtpckkkcaffhhnaaW.PrintLast Go.Proofs.YtpckkkcaffhhnaaW.PrintMore
attribute [local go_sem] max2_int min2_int max_two min_two max_three min_three max_four min_four   -- for this text's walks alone
set_option linter.unusedVariables false
set_option linter.unusedSimpArgs false

/-! ### impl_unitsOk: function 82 -/
-- IMPORT Derived.Test.YtpckkkcaffhhnaaLUnit
open Go.Proofs.Ytpckkkcaffhhnaa.L in
/-- Are there not too many units, all ok? (Not told of what is too long for any argument.) -/
def impl_unitsOk.f (l0 : List (List S30)) (a1 : Int) : Option Bool := if (∀ u ∈ l0, u.length ≤ 140737488351232 ∧ ∀ x ∈ u, x.f0.size ≤ 140737488351232 ∧ x.f2.length ≤ 140737488351232 ∧ ∀ y ∈ x.f2, y.f2.size ≤ 140737488351232) then some (decide ((l0.length : Int) ≤ a1) && !(l0.any fun u => !unitOkB u)) else none
open Go.Proofs.Ytpckkkcaffhhnaa.L in
set_option maxHeartbeats 1000000 in
theorem unitsok1_calls (A : Option Addr) (c : Nat) (u : List S30) (hl : u.length ≤ 140737488351232) (hx : ∀ x ∈ u, FitF x) (w : World) (hr : Kd.C k30 w A u.length u) (hc : u.length ≤ c) :
    Calls Try.prog 123 #[.slice A u.length c] w fun e w' => e = .returned (.bool (!unitOkB u)) ∧ Below w.heap.size w w' := by
  have H := Aside0.mk (fun W : World => fun (h : Kd.C k30 W A u.length u) => (impl_UnitOk.calls (u.length + 1) A c u (unitOkB u) W h hc (impl_UnitOk_f u hl hx _ (Nat.lt_succ_self _))).mono fun e w' (h : _ ∧ _) => (⟨h.1, by first | exact h.2 | exact h.2.below⟩ : e = .returned (.bool (unitOkB u)) ∧ Below W.heap.size W w'))
  have HR := Aside0.mk hr
  clear hx hr
  generalize unitOkB u = b at H
  go_enter Try.func123, Try.ntmps123
  go_wp2_with (go_at_call 64; refine (H.out _ (Kd.C_below HR.out (by first | exact Below.refl _ _ | exact below_alloc (Below.refl _ _) _))).mono ?_; rintro e w' ⟨rfl, hb⟩)
  all_goals
    go_ret
    exact ⟨by first | rfl | simp, by first | exact hb | exact below_then (below_alloc (Below.refl _ _) _) (below_size (below_alloc (Below.refl _ _) _)) hb⟩
open Go.Proofs.Ytpckkkcaffhhnaa.L in
set_option maxHeartbeats 4000000 in
theorem impl_unitsOk.calls (A0 : Option Addr) (c0 : Nat) (l0 : List (List S30)) (a1 : Int) (r : Bool) (w : World) (hr0 : Kd.C (Kd.slice 30 k30) w A0 l0.length l0) (hc0 : l0.length ≤ c0) (h : impl_unitsOk.f l0 a1 = some r) :
    Calls Try.prog 82 #[.slice A0 l0.length c0, .int .i64 a1] w fun e w' => e = .returned (.bool r) ∧ Below w.heap.size w w' := by
 unfold impl_unitsOk.f at h
 split at h
 case isFalse => exact absurd h (by simp)
 rename_i hf
 obtain rfl := Option.some.inj h
 clear h
 have HA := Aside0.mk (fun (W : World) (hb : Below w.heap.size w W) => anyFuns_calls A0 c0 l0 #[] (fun u => !unitOkB u) W (Kd.C_below hr0 hb) hc0 (fun W' x A2 c2 _ hx hc2 h2 => unitsok1_calls A2 c2 x (hf x hx).1 (hf x hx).2 W' h2 hc2))
 clear hf hr0
 by_cases hq : (l0.length : Int) ≤ a1
 · have e0 : (decide ((l0.length : Int) ≤ a1) && !(l0.any fun u => !unitOkB u)) = !(l0.any fun u => !unitOkB u) := by simp [hq]
   rw [e0]
   generalize (l0.any fun u => !unitOkB u) = b at HA
   go_enter Try.func82, Try.ntmps82
   go_wp2_with (go_at_call 122; refine (HA.out _ (by first | exact Below.refl _ _ | exact below_alloc (Below.refl _ _) _)).mono ?_; rintro e w' ⟨rfl, hb⟩)
   all_goals
     go_ret
     exact ⟨by first | rfl | simp, by first | exact hb | exact below_then (below_alloc (Below.refl _ _) _) (below_size (below_alloc (Below.refl _ _) _)) hb⟩
 have e0 : (decide ((l0.length : Int) ≤ a1) && !(l0.any fun u => !unitOkB u)) = false := by simp [hq]
 rw [e0]
 go_enter Try.func82, Try.ntmps82
 go_wp2_with (go_at_call 122; exact False.elim (by omega))
 all_goals
   go_ret
   exact ⟨rfl, by first | exact Below.refl _ _ | exact below_alloc (Below.refl _ _) _⟩

end Go.Proofs.Ytpckkkcaffhhnaa.P

-- made by printx.py (own driver over the kit's print); Lean checks it
namespace Go.Proofs.Ytpckkkcaffhhnaa.P
open Go.RowKit Go.Proofs.YtpckkkcaffhhnaaW.PrintWords Go.Proofs.YtpckkkcaffhhnaaW.PrintLast Go.Proofs.YtpckkkcaffhhnaaW.PrintMore
attribute [local go_sem] max2_int min2_int max_two min_two max_three min_three max_four min_four   -- for this text's walks alone
set_option linter.unusedVariables false
set_option linter.unusedSimpArgs false

/-! ### impl_pick: function 83 -/
mutual
def impl_pick.l0 : Nat → List (List (S30)) → ByteArray → List Bool → Int → Int → Option (Int × Int × Bool)
  | 0, _, _, _, _, _ => none
  | k + 1, x0, x1, x12, x13, x14 => if x14 < x13 then (if 0 ≤ x14 then (if x14 < (x12.length : Int) then (impl_pick.l1 k x0 x1 (rdOf false x12 x14) x12 x13 x14 x0 (x0.length : Int) 0) else (none)) else (none)) else (some (0, 0, false))
def impl_pick.l1 : Nat → List (List (S30)) → ByteArray → Bool → List Bool → Int → Int → List (List (S30)) → Int → Int → Option (Int × Int × Bool)
  | 0, _, _, _, _, _, _, _, _, _ => none
  | k + 1, x0, x1, x8, x12, x13, x14, x18, x19, x20 => if x20 < x19 then (if 0 ≤ x20 then (if x20 < (x18.length : Int) then ((impl_find.f (rd_L13 x18 x20) x1).bind fun t519 => (if t519 ≥ 0 then (if 0 ≤ t519 then (if t519 < ((rd_L13 x18 x20).length : Int) then (if (((rd_T30 (rd_L13 x18 x20) t519).f1) == x8) = true then (some (x20, t519, true)) else (impl_pick.l1 k x0 x1 x8 x12 x13 x14 x18 x19 (wrap64 (x20 + 1)))) else (none)) else (none)) else (impl_pick.l1 k x0 x1 x8 x12 x13 x14 x18 x19 (wrap64 (x20 + 1))))) else (none)) else (none)) else (impl_pick.l0 k x0 x1 x12 x13 (wrap64 (x14 + 1)))
end
def impl_pick.f (k : Nat) (l0 : List (List (S30))) (a1 : ByteArray) : Option (Int × Int × Bool) := (some (([false, true] : List Bool) : List Bool)).bind fun y514 => (impl_pick.l0 k l0 a1 y514 (y514.length : Int) 0)
set_option maxHeartbeats 8000000 in
set_option maxRecDepth 100000 in
theorem impl_pick.calls (k : Nat) (A0 : Option Addr) (c0 : Nat) (l0 : List (List (S30))) (a1 : ByteArray) (r1 : Int) (r2 : Int) (r3 : Bool) (w : World) (hr0 : Kd.C (Kd.slice 30 k30) w A0 l0.length l0) (hc0 : l0.length ≤ c0) (h : impl_pick.f k l0 a1 = some (r1, r2, r3)) :
    Calls Try.prog 83 #[.slice A0 l0.length c0, .string a1] w fun e w' => e = .returned (.tuple #[.int .i64 r1, .int .i64 r2, .bool r3]) ∧ Below w.heap.size w w' := by
 have HR0 := Aside0.mk hr0; have HC0 := Aside0.mk hc0; clear hr0 hc0
 have HB := Aside0.mk (Below.refl w.heap.size w)
 have H : ((some (([false, true] : List Bool) : List Bool)).bind fun y514 => (impl_pick.l0 k l0 a1 y514 (y514.length : Int) 0)) = some (r1, r2, r3) := h
 clear h
 obtain ⟨y514, hy514⟩ : ∃ y_ : List Bool, y_ = (([false, true] : List Bool)) := ⟨_, rfl⟩
 replace H : (impl_pick.l0 k l0 a1 y514 (y514.length : Int) 0) = some (r1, r2, r3) := by first | (rw [hy514]; with_reducible exact H) | (have H2_ := (Option.bind_some _ _).symm.trans H; rw [hy514]; with_reducible exact H2_) | (have H2_ := (Option.bind_some _ _).symm.trans H; with_reducible exact H2_) | with_reducible exact H | (rw [hy514]; exact H) | exact H
 have Ny514 := Aside0.mk hy514; clear hy514
 have H' := Aside0.mk H
 clear H
 go_enter Try.func83, Try.ntmps83
 go_wp2_with (first | ((with_reducible refine gate_dst (N := 12) rfl ?_); refine Kd.R_lit Kd.bool _ 4 ?hg (N := 12) ?hd (xs := ([false, true] : List Bool)) (inner := [.bool false, .bool true]) (ok := fun _ => True) (okp := fun _ => True) ?hr ?hp (fun _ hk => hk) trivial (Below.refl _ _) (Nat.le_refl _) (by simp) ?_; (case hd => rfl); (case hg => rfl); (case hr => first | (go_simp; done) | (go_simp; rfl)); (case hp => exact (Reps.one (show Kd.M Kd.bool _ _ _ false [.bool false] from rfl) (Reps.one (show Kd.M Kd.bool _ _ _ true [.bool true] from rfl) (Reps.none _ _)))); intro v515 w3 ho4 hb hg_ hnew_; clear hg_ hnew_; (first | rw [← Ny514.out] at ho4 | (simp only [Int.reduceToNat] at ho4; rw [← Ny514.out] at ho4)); have n0_ := Aside0.mk (Kd.R_lower ho4 (below_size (by repeat (first | (with_reducible first | exact HB.out | apply below_alloc | apply pw_below_drewN | apply below_drew1) | exact HB.out)))); have n1_ := Aside0.mk (below_step (by repeat (first | (with_reducible first | exact HB.out | apply below_alloc | apply pw_below_drewN | apply below_drew1) | exact HB.out)) hb); clear HB; have HO516 := n0_; have HB := n1_; clear n0_ n1_ hb ho4; obtain ⟨Ao5, co5, eo5⟩ := Kd.R_slice HO516.out; subst eo5))
 go_loopg [14] k (fun kq v14 w' => ∃ (x14_1 : Int), v14 = .int .i64 x14_1 ∧ Aside0 (impl_pick.l0 kq l0 a1 y514 (y514.length : Int) x14_1 = some (r1, r2, r3)) ∧ Aside0 (kq ≤ k) ∧ Aside0 (Kd.R Kd.bool 4 w' w.heap.size (fun _ => True) (.slice Ao5 y514.length co5) y514) ∧ Aside0 (Below w.heap.size w w'))
 case atStart => exact ⟨(0), (by first | rfl | (simp; done) | (simp [*]; done)), H', ⟨Nat.le_refl _⟩, ⟨by (with_reducible repeat (first | apply Kd.R_alloc | apply Kd.R_drewN | apply Kd.R_drew)); exact HO516.out⟩, ⟨by repeat (first | (with_reducible first | exact HB.out | apply below_alloc | apply pw_below_drewN | apply below_drew1) | exact HB.out)⟩⟩
 clear H'
 try clear p2
 obtain ⟨x14_1, rfl, HA, HK1, HO_12, HB⟩ := hrel
 obtain _ | k1 := gk
 · exact absurd HA.out (by simp [impl_pick.l0])
 have H := HA.out
 clear HA
 simp only [impl_pick.l0] at H
 by_cases c6 : x14_1 < (y514.length : Int)
 · rw [if_pos c6] at H
   have c6b0 : decide (x14_1 < (y514.length : Int)) = true := decide_eq_true c6
   clear c6
   by_cases c7 : 0 ≤ x14_1
   · rw [if_pos c7] at H
     have c7b0 : decide (0 ≤ x14_1) = true := decide_eq_true c7
     clear c7
     by_cases c8 : x14_1 < (y514.length : Int)
     · rw [if_pos c8] at H
       have c8b0 : decide (x14_1 < (y514.length : Int)) = true := decide_eq_true c8
       clear c8
       have H' := Aside0.mk H
       clear H
       have p517 : 0 ≤ (x14_1 : Int) := of_decide_eq_true (by first | (with_reducible assumption) | assumption)
       have q517 : x14_1 < (y514.length : Int) := of_decide_eq_true (by first | (with_reducible assumption) | assumption)
       obtain ⟨ad517, e517, hx517_0⟩ := Kd.at_bool (Kd.R_reads' HO_12.out).2.2 x14_1 p517 q517
       cases e517
       replace p517 := eq_true p517; replace q517 := eq_true q517
       go_wp2
       go_loopg [20] k1 (fun kq v20 w' => ∃ (x20_2 : Int), v20 = .int .i64 x20_2 ∧ Aside0 (impl_pick.l1 kq l0 a1 (rdOf false y514 x14_1) y514 (y514.length : Int) x14_1 l0 (l0.length : Int) x20_2 = some (r1, r2, r3)) ∧ Aside0 (kq ≤ k1) ∧ Aside0 (Kd.R Kd.bool 4 w' w.heap.size (fun _ => True) (.slice (some ad517) y514.length co5) y514) ∧ Aside0 (Below w.heap.size w w'))
       case atStart => exact ⟨(0), (by first | rfl | (simp; done) | (simp [*]; done)), H', ⟨Nat.le_refl _⟩, ⟨by (with_reducible repeat (first | apply Kd.R_alloc | apply Kd.R_drewN | apply Kd.R_drew)); exact HO_12.out⟩, ⟨by repeat (first | (with_reducible first | exact HB.out | apply below_alloc | apply pw_below_drewN | apply below_drew1) | exact HB.out)⟩⟩
       clear H'
       try clear p2; try clear p5; try clear q5; try clear hx5; try clear c6; try clear c6b0; try clear c7; try clear c7b0; try clear c8; try clear c8b0; try clear hx517_0; try clear p2; try clear p517; try clear q517
       obtain ⟨x20_2, rfl, HA, HK2, HO_12, HB⟩ := hrel
       obtain _ | k2 := gk
       · exact absurd HA.out (by simp [impl_pick.l1])
       have H := HA.out
       clear HA
       simp only [impl_pick.l1] at H
       by_cases c9 : x20_2 < (l0.length : Int)
       · rw [if_pos c9] at H
         have c9b0 : decide (x20_2 < (l0.length : Int)) = true := decide_eq_true c9
         clear c9
         by_cases c10 : 0 ≤ x20_2
         · rw [if_pos c10] at H
           have c10b0 : decide (0 ≤ x20_2) = true := decide_eq_true c10
           clear c10
           by_cases c11 : x20_2 < (l0.length : Int)
           · rw [if_pos c11] at H
             have c11b0 : decide (x20_2 < (l0.length : Int)) = true := decide_eq_true c11
             clear c11
             replace H := Option.bind_eq_some_iff.mp H
             obtain ⟨t519, A120, H⟩ := H
             replace H : (if t519 ≥ 0 then (if 0 ≤ t519 then (if t519 < ((rd_L13 l0 x20_2).length : Int) then (if (((rd_T30 (rd_L13 l0 x20_2) t519).f1) == (rdOf false y514 x14_1)) = true then (some (x20_2, t519, true)) else (impl_pick.l1 k2 l0 a1 (rdOf false y514 x14_1) y514 (y514.length : Int) x14_1 l0 (l0.length : Int) (wrap64 (x20_2 + 1)))) else (none)) else (none)) else (impl_pick.l1 k2 l0 a1 (rdOf false y514 x14_1) y514 (y514.length : Int) x14_1 l0 (l0.length : Int) (wrap64 (x20_2 + 1)))) = some (r1, r2, r3) := H
             have A12 := Aside0.mk A120; clear A120
             by_cases c13 : t519 ≥ 0
             · rw [if_pos c13] at H
               have c13b0 : decide (0 ≤ t519) = true := decide_eq_true c13
               clear c13
               by_cases c14 : 0 ≤ t519
               · rw [if_pos c14] at H
                 have c14b0 : decide (0 ≤ t519) = true := decide_eq_true c14
                 clear c14
                 by_cases c15 : t519 < ((rd_L13 l0 x20_2).length : Int)
                 · rw [if_pos c15] at H
                   have c15b0 : decide (t519 < ((rd_L13 l0 x20_2).length : Int)) = true := decide_eq_true c15
                   clear c15
                   by_cases c16 : (((rd_T30 (rd_L13 l0 x20_2) t519).f1) == (rdOf false y514 x14_1)) = true
                   · rw [if_pos c16] at H
                     have c16b0 : (((rd_T30 (rd_L13 l0 x20_2) t519).f1) == (rdOf false y514 x14_1)) = true := c16
                     (try (have c16b1 : decide (((rd_T30 (rd_L13 l0 x20_2) t519).f1) = (rdOf false y514 x14_1)) = true := by simpa using c16))
                     (try (have c16b2 : (((rd_T30 (rd_L13 l0 x20_2) t519).f1) == (rdOf false y514 x14_1)) = true := by simpa using c16))
                     clear c16
                     simp only [Option.some.injEq, Prod.mk.injEq] at H
                     obtain ⟨rfl, rfl, rfl⟩ := H
                     have p518 : 0 ≤ (x20_2 : Int) := of_decide_eq_true (by first | (with_reducible assumption) | assumption)
                     have q518 : x20_2 < (l0.length : Int) := of_decide_eq_true (by first | (with_reducible assumption) | assumption)
                     obtain ⟨ad518, A518_0, c518_0, e518, hx518_0, hl518_0, hi518_0⟩ := at_L13 HR0.out x20_2 p518 q518
                     cases e518
                     replace hx518_0 := (HB.out.cell (World.block_lt_of_cell? w _ hx518_0)).trans hx518_0
                     have HR518_0 := Aside0.mk hi518_0; have HC518_0 := Aside0.mk hl518_0; clear hi518_0 hl518_0; replace p518 := eq_true p518; replace q518 := eq_true q518
                     go_wp2_with (first | ((with_reducible refine gate_callee (f := 65) rfl ?_); refine goesL_ (some 27) rfl rfl Try.func65 (by kernel_rfl) rfl #[.slice A518_0 (rd_L13 l0 x20_2).length c518_0, .string a1] rfl (by (try simp only [List.map_toArray, List.map_cons, List.map_nil]); first | done | rfl | (simp only [List.length_drop, List.length_take]; rfl)) ?_; (with_reducible refine (impl_find.calls _ _ (rd_L13 l0 x20_2) a1 t519 _ ?side1 ?side2 A12.out).mono ?_); (case side1 => repeat (first | exact (Kd.C_below HR518_0.out HB.out) | (with_reducible refine Kd.C_alloc ?_ _) | (with_reducible refine Kd.C_drewN ?_ _) | (with_reducible refine Kd.C_drew ?_))); (case side2 => exact HC518_0.out); rintro e w17 ⟨rfl, hb⟩; refine ⟨_, rfl, ?_⟩; have n0_ := Aside0.mk (Kd.R_below (by (with_reducible repeat (first | apply Kd.R_alloc | apply Kd.R_drewN | apply Kd.R_drew)); exact HO_12.out) hb); have n1_ := Aside0.mk (below_step (by repeat (first | (with_reducible first | exact HB.out | apply below_alloc | apply pw_below_drewN | apply below_drew1) | exact HB.out)) hb); clear HO_12 HB; have HO_12 := n0_; have HB := n1_; clear n0_ n1_; (try clear hb); (try clear hb2); (try clear hk); (try clear hi); have p520 : 0 ≤ (t519 : Int) := of_decide_eq_true (by first | (with_reducible assumption) | assumption); have q520 : t519 < ((rd_L13 l0 x20_2).length : Int) := of_decide_eq_true (by first | (with_reducible assumption) | assumption); obtain ⟨ad520, A520_2, c520_2, e520, hx520_0, hx520_1, hx520_2, hl520_2, hi520_2⟩ := at_T30 HR518_0.out t519 p520 q520; cases e520; replace hx520_0 := (HB.out.cell (World.block_lt_of_cell? w _ hx520_0)).trans hx520_0; replace hx520_1 := (HB.out.cell (World.block_lt_of_cell? w _ hx520_1)).trans hx520_1; replace hx520_2 := (HB.out.cell (World.block_lt_of_cell? w _ hx520_2)).trans hx520_2; have HR520_2 := Aside0.mk hi520_2; have HC520_2 := Aside0.mk hl520_2; clear hi520_2 hl520_2; replace p520 := eq_true p520; replace q520 := eq_true q520))
                     go_ret3
                     exact ⟨by first | rfl | (simp [errW_none, errW_some] <;> rfl) | (simp [*, errW_none, errW_some] <;> rfl), by repeat (first | (with_reducible first | exact HB.out | apply below_alloc | apply pw_below_drewN | apply below_drew1) | exact HB.out)⟩
                   rw [if_neg c16] at H
                   have c16b0 : (((rd_T30 (rd_L13 l0 x20_2) t519).f1) == (rdOf false y514 x14_1)) = false := by simpa using c16
                   (try (have c16b1 : decide (((rd_T30 (rd_L13 l0 x20_2) t519).f1) = (rdOf false y514 x14_1)) = false := by simpa using c16))
                   (try (have c16b2 : (((rd_T30 (rd_L13 l0 x20_2) t519).f1) == (rdOf false y514 x14_1)) = false := by simpa using c16))
                   (try (have c16b3 : ¬ (((rd_T30 (rd_L13 l0 x20_2) t519).f1) = (rdOf false y514 x14_1)) := by simpa using c16))
                   clear c16
                   have H' := Aside0.mk H
                   clear H
                   have p518 : 0 ≤ (x20_2 : Int) := of_decide_eq_true (by first | (with_reducible assumption) | assumption)
                   have q518 : x20_2 < (l0.length : Int) := of_decide_eq_true (by first | (with_reducible assumption) | assumption)
                   obtain ⟨ad518, A518_0, c518_0, e518, hx518_0, hl518_0, hi518_0⟩ := at_L13 HR0.out x20_2 p518 q518
                   cases e518
                   replace hx518_0 := (HB.out.cell (World.block_lt_of_cell? w _ hx518_0)).trans hx518_0
                   have HR518_0 := Aside0.mk hi518_0; have HC518_0 := Aside0.mk hl518_0; clear hi518_0 hl518_0; replace p518 := eq_true p518; replace q518 := eq_true q518
                   go_wp2_with (first | ((with_reducible refine gate_callee (f := 65) rfl ?_); refine goesL_ (some 27) rfl rfl Try.func65 (by kernel_rfl) rfl #[.slice A518_0 (rd_L13 l0 x20_2).length c518_0, .string a1] rfl (by (try simp only [List.map_toArray, List.map_cons, List.map_nil]); first | done | rfl | (simp only [List.length_drop, List.length_take]; rfl)) ?_; (with_reducible refine (impl_find.calls _ _ (rd_L13 l0 x20_2) a1 t519 _ ?side1 ?side2 A12.out).mono ?_); (case side1 => repeat (first | exact (Kd.C_below HR518_0.out HB.out) | (with_reducible refine Kd.C_alloc ?_ _) | (with_reducible refine Kd.C_drewN ?_ _) | (with_reducible refine Kd.C_drew ?_))); (case side2 => exact HC518_0.out); rintro e w18 ⟨rfl, hb⟩; refine ⟨_, rfl, ?_⟩; have n0_ := Aside0.mk (Kd.R_below (by (with_reducible repeat (first | apply Kd.R_alloc | apply Kd.R_drewN | apply Kd.R_drew)); exact HO_12.out) hb); have n1_ := Aside0.mk (below_step (by repeat (first | (with_reducible first | exact HB.out | apply below_alloc | apply pw_below_drewN | apply below_drew1) | exact HB.out)) hb); clear HO_12 HB; have HO_12 := n0_; have HB := n1_; clear n0_ n1_; (try clear hb); (try clear hb2); (try clear hk); (try clear hi); have p520 : 0 ≤ (t519 : Int) := of_decide_eq_true (by first | (with_reducible assumption) | assumption); have q520 : t519 < ((rd_L13 l0 x20_2).length : Int) := of_decide_eq_true (by first | (with_reducible assumption) | assumption); obtain ⟨ad520, A520_2, c520_2, e520, hx520_0, hx520_1, hx520_2, hl520_2, hi520_2⟩ := at_T30 HR518_0.out t519 p520 q520; cases e520; replace hx520_0 := (HB.out.cell (World.block_lt_of_cell? w _ hx520_0)).trans hx520_0; replace hx520_1 := (HB.out.cell (World.block_lt_of_cell? w _ hx520_1)).trans hx520_1; replace hx520_2 := (HB.out.cell (World.block_lt_of_cell? w _ hx520_2)).trans hx520_2; have HR520_2 := Aside0.mk hi520_2; have HC520_2 := Aside0.mk hl520_2; clear hi520_2 hl520_2; replace p520 := eq_true p520; replace q520 := eq_true q520))
                   go_roundg k2
                   case measure => have := HK1.out; have := HK2.out; omega
                   case rel => exact ⟨(wrap64 (x20_2 + 1)), (by first | rfl | (simp; done) | (simp [*]; done)), H', ⟨by have := HK1.out; have := HK2.out; omega⟩, ⟨by (with_reducible repeat (first | apply Kd.R_alloc | apply Kd.R_drewN | apply Kd.R_drew)); exact HO_12.out⟩, ⟨by repeat (first | (with_reducible first | exact HB.out | apply below_alloc | apply pw_below_drewN | apply below_drew1) | exact HB.out)⟩⟩
                 rw [if_neg c15] at H
                 exact absurd H (by simp)
               rw [if_neg c14] at H
               exact absurd H (by simp)
             rw [if_neg c13] at H
             have c13b0 : decide (0 ≤ t519) = false := decide_eq_false c13
             clear c13
             have H' := Aside0.mk H
             clear H
             have p518 : 0 ≤ (x20_2 : Int) := of_decide_eq_true (by first | (with_reducible assumption) | assumption)
             have q518 : x20_2 < (l0.length : Int) := of_decide_eq_true (by first | (with_reducible assumption) | assumption)
             obtain ⟨ad518, A518_0, c518_0, e518, hx518_0, hl518_0, hi518_0⟩ := at_L13 HR0.out x20_2 p518 q518
             cases e518
             replace hx518_0 := (HB.out.cell (World.block_lt_of_cell? w _ hx518_0)).trans hx518_0
             have HR518_0 := Aside0.mk hi518_0; have HC518_0 := Aside0.mk hl518_0; clear hi518_0 hl518_0; replace p518 := eq_true p518; replace q518 := eq_true q518
             go_wp2_with (first | ((with_reducible refine gate_callee (f := 65) rfl ?_); refine goesL_ (some 27) rfl rfl Try.func65 (by kernel_rfl) rfl #[.slice A518_0 (rd_L13 l0 x20_2).length c518_0, .string a1] rfl (by (try simp only [List.map_toArray, List.map_cons, List.map_nil]); first | done | rfl | (simp only [List.length_drop, List.length_take]; rfl)) ?_; (with_reducible refine (impl_find.calls _ _ (rd_L13 l0 x20_2) a1 t519 _ ?side1 ?side2 A12.out).mono ?_); (case side1 => repeat (first | exact (Kd.C_below HR518_0.out HB.out) | (with_reducible refine Kd.C_alloc ?_ _) | (with_reducible refine Kd.C_drewN ?_ _) | (with_reducible refine Kd.C_drew ?_))); (case side2 => exact HC518_0.out); rintro e w19 ⟨rfl, hb⟩; refine ⟨_, rfl, ?_⟩; have n0_ := Aside0.mk (Kd.R_below (by (with_reducible repeat (first | apply Kd.R_alloc | apply Kd.R_drewN | apply Kd.R_drew)); exact HO_12.out) hb); have n1_ := Aside0.mk (below_step (by repeat (first | (with_reducible first | exact HB.out | apply below_alloc | apply pw_below_drewN | apply below_drew1) | exact HB.out)) hb); clear HO_12 HB; have HO_12 := n0_; have HB := n1_; clear n0_ n1_; (try clear hb); (try clear hb2); (try clear hk); (try clear hi)))
             go_roundg k2
             case measure => have := HK1.out; have := HK2.out; omega
             case rel => exact ⟨(wrap64 (x20_2 + 1)), (by first | rfl | (simp; done) | (simp [*]; done)), H', ⟨by have := HK1.out; have := HK2.out; omega⟩, ⟨by (with_reducible repeat (first | apply Kd.R_alloc | apply Kd.R_drewN | apply Kd.R_drew)); exact HO_12.out⟩, ⟨by repeat (first | (with_reducible first | exact HB.out | apply below_alloc | apply pw_below_drewN | apply below_drew1) | exact HB.out)⟩⟩
           rw [if_neg c11] at H
           exact absurd H (by simp)
         rw [if_neg c10] at H
         exact absurd H (by simp)
       rw [if_neg c9] at H
       have c9b0 : decide (x20_2 < (l0.length : Int)) = false := decide_eq_false c9
       clear c9
       have H' := Aside0.mk H
       clear H
       go_wp2
       go_roundg k2
       case measure => have := HK1.out; have := HK2.out; omega
       case rel => exact ⟨(wrap64 (x14_1 + 1)), (by first | rfl | (simp; done) | (simp [*]; done)), H', ⟨by have := HK1.out; have := HK2.out; omega⟩, ⟨by (with_reducible repeat (first | apply Kd.R_alloc | apply Kd.R_drewN | apply Kd.R_drew)); exact HO_12.out⟩, ⟨by repeat (first | (with_reducible first | exact HB.out | apply below_alloc | apply pw_below_drewN | apply below_drew1) | exact HB.out)⟩⟩
     rw [if_neg c8] at H
     exact absurd H (by simp)
   rw [if_neg c7] at H
   exact absurd H (by simp)
 rw [if_neg c6] at H
 have c6b0 : decide (x14_1 < (y514.length : Int)) = false := decide_eq_false c6
 clear c6
 simp only [Option.some.injEq, Prod.mk.injEq] at H
 obtain ⟨rfl, rfl, rfl⟩ := H
 go_wp2
 go_ret3
 exact ⟨by first | rfl | (simp [errW_none, errW_some] <;> rfl) | (simp [*, errW_none, errW_some] <;> rfl), by repeat (first | (with_reducible first | exact HB.out | apply below_alloc | apply pw_below_drewN | apply below_drew1) | exact HB.out)⟩

end Go.Proofs.Ytpckkkcaffhhnaa.P

-- made by printx.py (own driver over the kit's print); Lean checks it
namespace Go.Proofs.Ytpckkkcaffhhnaa.P
open Go.RowKit Go.Proofs.YtpckkkcaffhhnaaW.PrintWords Go.Proofs.YtpckkkcaffhhnaaW.PrintLast Go.Proofs.YtpckkkcaffhhnaaW.PrintMore
attribute [local go_sem] max2_int min2_int max_two min_two max_three min_three max_four min_four   -- for this text's walks alone
set_option linter.unusedVariables false
set_option linter.unusedSimpArgs false

/-! ### impl_PickAt: function 31 -/
def impl_PickAt.f (k : Nat) (l0 : List (List (S30))) (a1 : ByteArray) : Option (Int × Int × Bool) := (impl_unitsOk.f l0 8).bind fun t521 => (if t521 = true then ((impl_pick.f k l0 a1).bind fun bt522 => (some (bt522.1, bt522.2.1, bt522.2.2))) else (some (0, 0, false)))
set_option maxHeartbeats 8000000 in
set_option maxRecDepth 100000 in
theorem impl_PickAt.calls (k : Nat) (A0 : Option Addr) (c0 : Nat) (l0 : List (List (S30))) (a1 : ByteArray) (r1 : Int) (r2 : Int) (r3 : Bool) (w : World) (hr0 : Kd.C (Kd.slice 30 k30) w A0 l0.length l0) (hc0 : l0.length ≤ c0) (h : impl_PickAt.f k l0 a1 = some (r1, r2, r3)) :
    Calls Try.prog 31 #[.slice A0 l0.length c0, .string a1] w fun e w' => e = .returned (.tuple #[.int .i64 r1, .int .i64 r2, .bool r3]) ∧ Below w.heap.size w w' := by
 have HR0 := Aside0.mk hr0; have HC0 := Aside0.mk hc0; clear hr0 hc0
 have HB := Aside0.mk (Below.refl w.heap.size w)
 have H : ((impl_unitsOk.f l0 8).bind fun t521 => (if t521 = true then ((impl_pick.f k l0 a1).bind fun bt522 => (some (bt522.1, bt522.2.1, bt522.2.2))) else (some (0, 0, false)))) = some (r1, r2, r3) := h
 clear h
 replace H := Option.bind_eq_some_iff.mp H
 obtain ⟨t521, A30, H⟩ := H
 replace H : (if t521 = true then ((impl_pick.f k l0 a1).bind fun bt522 => (some (bt522.1, bt522.2.1, bt522.2.2))) else (some (0, 0, false))) = some (r1, r2, r3) := H
 have A3 := Aside0.mk A30; clear A30
 by_cases c4 : t521 = true
 · subst c4
   have H1 : ((impl_pick.f k l0 a1).bind fun bt522 => (some (bt522.1, bt522.2.1, bt522.2.2))) = some (r1, r2, r3) := by rw [if_pos rfl] at H; exact H
   clear H
   have H := H1
   clear H1
   replace H := Option.bind_eq_some_iff.mp H
   obtain ⟨⟨t522, t523, t524⟩, A50, H⟩ := H
   replace H : (some (t522, t523, t524)) = some (r1, r2, r3) := H
   have A5 := Aside0.mk A50; clear A50
   simp only [Option.some.injEq, Prod.mk.injEq] at H
   obtain ⟨rfl, rfl, rfl⟩ := H
   go_enter Try.func31, Try.ntmps31
   go_wp2_with (first | ((with_reducible refine gate_callee (f := 82) rfl ?_); refine goesL_ (some 8) rfl rfl Try.func82 (by kernel_rfl) rfl #[.slice A0 l0.length c0, .int .i64 8] rfl (by (try simp only [List.map_toArray, List.map_cons, List.map_nil]); first | done | rfl | (simp only [List.length_drop, List.length_take]; rfl)) ?_; (with_reducible refine (impl_unitsOk.calls _ _ l0 8 true _ ?side1 ?side2 A3.out).mono ?_); (case side1 => repeat (first | exact HR0.out | (with_reducible refine Kd.C_alloc ?_ _) | (with_reducible refine Kd.C_drewN ?_ _) | (with_reducible refine Kd.C_drew ?_))); (case side2 => exact HC0.out); rintro e w6 ⟨rfl, hb⟩; refine ⟨_, rfl, ?_⟩; have n0_ := Aside0.mk (below_step (by repeat (first | (with_reducible first | exact HB.out | apply below_alloc | apply pw_below_drewN | apply below_drew1) | exact HB.out)) hb); clear HB; have HB := n0_; clear n0_; (try clear hb); (try clear hb2); (try clear hk); (try clear hi)) | ((with_reducible refine gate_callee (f := 83) rfl ?_); refine goesL_ (some 12) rfl rfl Try.func83 (by kernel_rfl) rfl #[.slice A0 l0.length c0, .string a1] rfl (by (try simp only [List.map_toArray, List.map_cons, List.map_nil]); first | done | rfl | (simp only [List.length_drop, List.length_take]; rfl)) ?_; (with_reducible refine (impl_pick.calls k _ _ l0 a1 t522 t523 t524 _ ?side1 ?side2 A5.out).mono ?_); (case side1 => repeat (first | exact (Kd.C_below HR0.out HB.out) | (with_reducible refine Kd.C_alloc ?_ _) | (with_reducible refine Kd.C_drewN ?_ _) | (with_reducible refine Kd.C_drew ?_))); (case side2 => exact HC0.out); rintro e w7 ⟨rfl, hb⟩; refine ⟨_, rfl, ?_⟩; have n0_ := Aside0.mk (below_step (by repeat (first | (with_reducible first | exact HB.out | apply below_alloc | apply pw_below_drewN | apply below_drew1) | exact HB.out)) hb); clear HB; have HB := n0_; clear n0_; (try clear hb); (try clear hb2); (try clear hk); (try clear hi)))
   go_ret3
   exact ⟨by first | rfl | (simp [errW_none, errW_some] <;> rfl) | (simp [*, errW_none, errW_some] <;> rfl), by repeat (first | (with_reducible first | exact HB.out | apply below_alloc | apply pw_below_drewN | apply below_drew1) | exact HB.out)⟩
 replace c4 := Bool.eq_false_iff.mpr c4
 subst c4
 have H1 : (some (0, 0, false)) = some (r1, r2, r3) := by rw [if_neg (show ¬ (false = true) by decide)] at H; exact H
 clear H
 have H := H1
 clear H1
 simp only [Option.some.injEq, Prod.mk.injEq] at H
 obtain ⟨rfl, rfl, rfl⟩ := H
 go_enter Try.func31, Try.ntmps31
 go_wp2_with (first | ((with_reducible refine gate_callee (f := 82) rfl ?_); refine goesL_ (some 8) rfl rfl Try.func82 (by kernel_rfl) rfl #[.slice A0 l0.length c0, .int .i64 8] rfl (by (try simp only [List.map_toArray, List.map_cons, List.map_nil]); first | done | rfl | (simp only [List.length_drop, List.length_take]; rfl)) ?_; (with_reducible refine (impl_unitsOk.calls _ _ l0 8 false _ ?side1 ?side2 A3.out).mono ?_); (case side1 => repeat (first | exact HR0.out | (with_reducible refine Kd.C_alloc ?_ _) | (with_reducible refine Kd.C_drewN ?_ _) | (with_reducible refine Kd.C_drew ?_))); (case side2 => exact HC0.out); rintro e w8 ⟨rfl, hb⟩; refine ⟨_, rfl, ?_⟩; have n0_ := Aside0.mk (below_step (by repeat (first | (with_reducible first | exact HB.out | apply below_alloc | apply pw_below_drewN | apply below_drew1) | exact HB.out)) hb); clear HB; have HB := n0_; clear n0_; (try clear hb); (try clear hb2); (try clear hk); (try clear hi)))
 go_ret3
 exact ⟨by first | rfl | (simp [errW_none, errW_some] <;> rfl) | (simp [*, errW_none, errW_some] <;> rfl), by repeat (first | (with_reducible first | exact HB.out | apply below_alloc | apply pw_below_drewN | apply below_drew1) | exact HB.out)⟩

end Go.Proofs.Ytpckkkcaffhhnaa.P
