-- put together by squash.py
import Derived.Test.YtpckkkcaffhhnaaSqFnPickWants3
import Derived.Test.YtpckkkcaffhhnaaSqFnPickWants4
set_option linter.unusedVariables false
set_option linter.unusedSimpArgs false

namespace Go.Proofs.Ytpckkkcaffhhnaa.P
open Go.RowKit Go.Proofs.YtpckkkcaffhhnaaW.PrintWords Go.Proofs.YtpckkkcaffhhnaaW.PrintLast Go.Proofs.YtpckkkcaffhhnaaW.PrintMore
attribute [local go_sem] max2_int min2_int max_two min_two max_three min_three max_four min_four
def spec_UnitOk.l0 : Nat → List (S30) → Int → Option (Bool)
  | 0, _, _ => none
  | k + 1, x0, x3 => if x3 < (x0.length : Int) then (if 0 ≤ x3 then ((spec_FunOk.f k ((rd_T30 x0 x3).f0) ((rd_T30 x0 x3).f1) ((rd_T30 x0 x3).f2)).bind fun t252 => (if t252 = true then ((spec_l2Find.f k x0 ((rd_T30 x0 x3).f0)).bind fun t254 => (if t254 = x3 then (spec_UnitOk.l0 k x0 (wrap64 (x3 + 1))) else (some false))) else (some false))) else (none)) else (some (decide ((x0.length : Int) ≤ 5)))
def spec_UnitOk.f (k : Nat) (l0 : List (S30)) : Option (Bool) := spec_UnitOk.l0 k l0 0
set_option maxHeartbeats 8000000 in
set_option maxRecDepth 100000 in
theorem spec_UnitOk.calls (k : Nat) (A0 : Option Addr) (c0 : Nat) (l0 : List (S30)) (r : Bool) (w : World) (hr0 : Kd.C k30 w A0 l0.length l0) (hc0 : l0.length ≤ c0) (h : spec_UnitOk.f k l0 = some r) :
    Calls Try.prog 18 #[.slice A0 l0.length c0] w fun e w' => e = .returned (.bool r) ∧ Below w.heap.size w w' := by
 have hu30 := Try.underlying30
 have HR0 := aM hr0; have HC0 := aM hc0; clear hr0 hc0
 have HB := aM (Below.refl w.heap.size w)
 have H : (spec_UnitOk.l0 k l0 0) = some r := h
 clear h
 have H' := aM H
 clear H
 go_enter Try.func18, Try.ntmps18
 go_wp2
 go_loopg [3] k (fun kq v3 w' => ∃ (x3_1 : Int), v3 = .int .i64 x3_1 ∧ Aside0 (spec_UnitOk.l0 kq l0 x3_1 = some r) ∧ Aside0 (kq ≤ k) ∧ Aside0 (Below w.heap.size w w'))
 case atStart => exact ⟨(0), (by first | rfl | (simp; done) | (simp [*]; done)), H', ⟨Nat.le_refl _⟩, ⟨by repeat (with_reducible first | exact HB.out | apply bA | apply bN | apply bD)⟩⟩
 clear H'
 try clear c1
 obtain ⟨x3_1, rfl, HA, HK1, HB⟩ := hrel
 obtain _ | k1 := gk
 · exact absurd HA.out (by simp [spec_UnitOk.l0])
 have H := HA.out
 clear HA
 simp only [spec_UnitOk.l0] at H
 by_cases c2 : x3_1 < (l0.length : Int)
 · rw [if_pos c2] at H
   have c2b0 : decide (x3_1 < (l0.length : Int)) = true := decide_eq_true c2
   clear c2
   by_cases c3 : 0 ≤ x3_1
   · rw [if_pos c3] at H
     have c3b0 : decide (0 ≤ x3_1) = true := decide_eq_true c3
     clear c3
     replace H := Option.bind_eq_some_iff.mp H
     obtain ⟨t252, A40, H⟩ := H
     replace H : (if t252 = true then ((spec_l2Find.f k1 l0 ((rd_T30 l0 x3_1).f0)).bind fun t254 => (if t254 = x3_1 then (spec_UnitOk.l0 k1 l0 (wrap64 (x3_1 + 1))) else (some false))) else (some false)) = some r := H
     have A4 := aM A40; clear A40
     by_cases c5 : t252 = true
     · subst c5
       have H1 : ((spec_l2Find.f k1 l0 ((rd_T30 l0 x3_1).f0)).bind fun t254 => (if t254 = x3_1 then (spec_UnitOk.l0 k1 l0 (wrap64 (x3_1 + 1))) else (some false))) = some r := by rw [if_pos rfl] at H; exact H
       clear H
       have H := H1
       clear H1
       replace H := Option.bind_eq_some_iff.mp H
       obtain ⟨t254, A60, H⟩ := H
       replace H : (if t254 = x3_1 then (spec_UnitOk.l0 k1 l0 (wrap64 (x3_1 + 1))) else (some false)) = some r := H
       have A6 := aM A60; clear A60
       by_cases c7 : t254 = x3_1
       · rw [if_pos c7] at H
         have c7b0 : (t254 == x3_1) = true := beq_iff_eq.mpr c7
         have c7b1 : (t254 != x3_1) = false := bne_eq_false_iff_eq.mpr c7
         clear c7
         have H' := aM H
         clear H
         have p251 : 0 ≤ (x3_1 : Int) := oD (by first | with_reducible assumption | assumption)
         have q251 : x3_1 < (l0.length : Int) := oD (by first | with_reducible assumption | assumption)
         obtain ⟨ad251, A251_2, c251_2, e251, hx251_0, hx251_1, hx251_2, hl251_2, hi251_2⟩ := at_T30 HR0.out x3_1 p251 q251
         cases e251
         replace hx251_0 := (HB.out.cell (World.block_lt_of_cell? w _ hx251_0)).trans hx251_0
         replace hx251_1 := (HB.out.cell (World.block_lt_of_cell? w _ hx251_1)).trans hx251_1
         replace hx251_2 := (HB.out.cell (World.block_lt_of_cell? w _ hx251_2)).trans hx251_2
         have HR251_2 := aM hi251_2; have HC251_2 := aM hl251_2; clear hi251_2 hl251_2; replace p251 := eq_true p251; replace q251 := eq_true q251
         go_wp2_with (first | ((with_reducible refine gate_callee (f := 22) rfl ?_); refine goesL_ (some 14) rfl rfl Try.func22 (by kernel_rfl) rfl #[.agg #[.string ((rd_T30 l0 x3_1).f0), .bool ((rd_T30 l0 x3_1).f1), .slice A251_2 ((rd_T30 l0 x3_1).f2).length c251_2]] rfl (by (try simp only [List.map_toArray, List.map_cons, List.map_nil]); first | done | rfl) ?_; (with_reducible refine (spec_FunOk.calls k1 ((rd_T30 l0 x3_1).f0) ((rd_T30 l0 x3_1).f1) _ _ ((rd_T30 l0 x3_1).f2) true _ ?side1 ?side2 A4.out).mono ?_); (case side1 => repeat (first | exact (Kd.C_below HR251_2.out HB.out) | (with_reducible first | refine Ca ?_ _ | refine Cn ?_ _ | refine Cd ?_))); (case side2 => exact HC251_2.out); rintro e w8 ⟨rfl, hb⟩; refine ⟨_, rfl, ?_⟩; have n0_ := aM (below_step (by repeat (with_reducible first | exact HB.out | apply bA | apply bN | apply bD)) hb); clear HB; have HB := n0_; clear n0_; have p253 : 0 ≤ (x3_1 : Int) := oD (by first | with_reducible assumption | assumption); have q253 : x3_1 < (l0.length : Int) := oD (by first | with_reducible assumption | assumption); obtain ⟨ad253, A253_2, c253_2, e253, hx253_0, hx253_1, hx253_2, hl253_2, hi253_2⟩ := at_T30 HR0.out x3_1 p253 q253; obtain rfl : ad251 = ad253 := (by injection e253); replace hx253_0 := (HB.out.cell (World.block_lt_of_cell? w _ hx253_0)).trans hx253_0; replace hx253_1 := (HB.out.cell (World.block_lt_of_cell? w _ hx253_1)).trans hx253_1; replace hx253_2 := (HB.out.cell (World.block_lt_of_cell? w _ hx253_2)).trans hx253_2; have HR253_2 := aM hi253_2; have HC253_2 := aM hl253_2; clear hi253_2 hl253_2; replace p253 := eq_true p253; replace q253 := eq_true q253) | (go_at_call 66; (with_reducible refine (spec_l2Find.calls k1 _ _ l0 ((rd_T30 l0 x3_1).f0) t254 _ ?side1 ?side2 A6.out).mono ?_); (case side1 => repeat (first | exact (Kd.C_below HR0.out HB.out) | (with_reducible first | refine Ca ?_ _ | refine Cn ?_ _ | refine Cd ?_))); (case side2 => exact HC0.out); rintro e w' ⟨rfl, ⟨nd, rfl⟩⟩))
         go_roundg k1
         case measure => have := HK1.out; omega
         case rel => exact ⟨(wrap64 (x3_1 + 1)), (by first | rfl | (simp; done) | (simp [*]; done)), H', ⟨by have := HK1.out; omega⟩, ⟨by repeat (with_reducible first | exact HB.out | apply bA | apply bN | apply bD)⟩⟩
       rw [if_neg c7] at H
       have c7b0 : (t254 == x3_1) = false := beq_eq_false_iff_ne.mpr c7
       have c7b1 : (t254 != x3_1) = true := bne_iff_ne.mpr c7
       obtain rfl := Option.some.inj H
       have p251 : 0 ≤ (x3_1 : Int) := oD (by first | with_reducible assumption | assumption)
       have q251 : x3_1 < (l0.length : Int) := oD (by first | with_reducible assumption | assumption)
       obtain ⟨ad251, A251_2, c251_2, e251, hx251_0, hx251_1, hx251_2, hl251_2, hi251_2⟩ := at_T30 HR0.out x3_1 p251 q251
       cases e251
       replace hx251_0 := (HB.out.cell (World.block_lt_of_cell? w _ hx251_0)).trans hx251_0
       replace hx251_1 := (HB.out.cell (World.block_lt_of_cell? w _ hx251_1)).trans hx251_1
       replace hx251_2 := (HB.out.cell (World.block_lt_of_cell? w _ hx251_2)).trans hx251_2
       have HR251_2 := aM hi251_2; have HC251_2 := aM hl251_2; clear hi251_2 hl251_2; replace p251 := eq_true p251; replace q251 := eq_true q251
       go_wp2_with (first | ((with_reducible refine gate_callee (f := 22) rfl ?_); refine goesL_ (some 14) rfl rfl Try.func22 (by kernel_rfl) rfl #[.agg #[.string ((rd_T30 l0 x3_1).f0), .bool ((rd_T30 l0 x3_1).f1), .slice A251_2 ((rd_T30 l0 x3_1).f2).length c251_2]] rfl (by (try simp only [List.map_toArray, List.map_cons, List.map_nil]); first | done | rfl) ?_; (with_reducible refine (spec_FunOk.calls k1 ((rd_T30 l0 x3_1).f0) ((rd_T30 l0 x3_1).f1) _ _ ((rd_T30 l0 x3_1).f2) true _ ?side1 ?side2 A4.out).mono ?_); (case side1 => repeat (first | exact (Kd.C_below HR251_2.out HB.out) | (with_reducible first | refine Ca ?_ _ | refine Cn ?_ _ | refine Cd ?_))); (case side2 => exact HC251_2.out); rintro e w9 ⟨rfl, hb⟩; refine ⟨_, rfl, ?_⟩; have n0_ := aM (below_step (by repeat (with_reducible first | exact HB.out | apply bA | apply bN | apply bD)) hb); clear HB; have HB := n0_; clear n0_; have p253 : 0 ≤ (x3_1 : Int) := oD (by first | with_reducible assumption | assumption); have q253 : x3_1 < (l0.length : Int) := oD (by first | with_reducible assumption | assumption); obtain ⟨ad253, A253_2, c253_2, e253, hx253_0, hx253_1, hx253_2, hl253_2, hi253_2⟩ := at_T30 HR0.out x3_1 p253 q253; obtain rfl : ad251 = ad253 := (by injection e253); replace hx253_0 := (HB.out.cell (World.block_lt_of_cell? w _ hx253_0)).trans hx253_0; replace hx253_1 := (HB.out.cell (World.block_lt_of_cell? w _ hx253_1)).trans hx253_1; replace hx253_2 := (HB.out.cell (World.block_lt_of_cell? w _ hx253_2)).trans hx253_2; have HR253_2 := aM hi253_2; have HC253_2 := aM hl253_2; clear hi253_2 hl253_2; replace p253 := eq_true p253; replace q253 := eq_true q253) | (go_at_call 66; (with_reducible refine (spec_l2Find.calls k1 _ _ l0 ((rd_T30 l0 x3_1).f0) t254 _ ?side1 ?side2 A6.out).mono ?_); (case side1 => repeat (first | exact (Kd.C_below HR0.out HB.out) | (with_reducible first | refine Ca ?_ _ | refine Cn ?_ _ | refine Cd ?_))); (case side2 => exact HC0.out); rintro e w' ⟨rfl, ⟨nd, rfl⟩⟩))
       go_ret
       exact ⟨by first | rfl | (simp [*, errW_none, errW_some] <;> rfl), by repeat (with_reducible first | exact HB.out | apply bA | apply bN | apply bD)⟩
     replace c5 := Bool.eq_false_iff.mpr c5
     subst c5
     have H1 : (some false) = some r := by rw [if_neg (show ¬ (false = true) by decide)] at H; exact H
     clear H
     have H := H1
     clear H1
     obtain rfl := Option.some.inj H
     have p251 : 0 ≤ (x3_1 : Int) := oD (by first | with_reducible assumption | assumption)
     have q251 : x3_1 < (l0.length : Int) := oD (by first | with_reducible assumption | assumption)
     obtain ⟨ad251, A251_2, c251_2, e251, hx251_0, hx251_1, hx251_2, hl251_2, hi251_2⟩ := at_T30 HR0.out x3_1 p251 q251
     cases e251
     replace hx251_0 := (HB.out.cell (World.block_lt_of_cell? w _ hx251_0)).trans hx251_0
     replace hx251_1 := (HB.out.cell (World.block_lt_of_cell? w _ hx251_1)).trans hx251_1
     replace hx251_2 := (HB.out.cell (World.block_lt_of_cell? w _ hx251_2)).trans hx251_2
     have HR251_2 := aM hi251_2; have HC251_2 := aM hl251_2; clear hi251_2 hl251_2; replace p251 := eq_true p251; replace q251 := eq_true q251
     go_wp2_with (first | ((with_reducible refine gate_callee (f := 22) rfl ?_); refine goesL_ (some 14) rfl rfl Try.func22 (by kernel_rfl) rfl #[.agg #[.string ((rd_T30 l0 x3_1).f0), .bool ((rd_T30 l0 x3_1).f1), .slice A251_2 ((rd_T30 l0 x3_1).f2).length c251_2]] rfl (by (try simp only [List.map_toArray, List.map_cons, List.map_nil]); first | done | rfl) ?_; (with_reducible refine (spec_FunOk.calls k1 ((rd_T30 l0 x3_1).f0) ((rd_T30 l0 x3_1).f1) _ _ ((rd_T30 l0 x3_1).f2) false _ ?side1 ?side2 A4.out).mono ?_); (case side1 => repeat (first | exact (Kd.C_below HR251_2.out HB.out) | (with_reducible first | refine Ca ?_ _ | refine Cn ?_ _ | refine Cd ?_))); (case side2 => exact HC251_2.out); rintro e w10 ⟨rfl, hb⟩; refine ⟨_, rfl, ?_⟩; have n0_ := aM (below_step (by repeat (with_reducible first | exact HB.out | apply bA | apply bN | apply bD)) hb); clear HB; have HB := n0_; clear n0_))
     go_ret
     exact ⟨by first | rfl | (simp [*, errW_none, errW_some] <;> rfl), by repeat (with_reducible first | exact HB.out | apply bA | apply bN | apply bD)⟩
   rw [if_neg c3] at H
   exact absurd H (by simp)
 rw [if_neg c2] at H
 have c2b0 : decide (x3_1 < (l0.length : Int)) = false := decide_eq_false c2
 clear c2
 obtain rfl := Option.some.inj H
 go_wp2
 go_ret
 exact ⟨by first | rfl | (simp [*, errW_none, errW_some] <;> rfl), by repeat (with_reducible first | exact HB.out | apply bA | apply bN | apply bD)⟩
def spec_UnitFind.f (k : Nat) (l0 : List (S30)) (a1 : ByteArray) : Option (Int) := (spec_UnitOk.f k l0).bind fun t255 => (if t255 = true then ((spec_l2Find.f k l0 a1).bind fun t256 => (some t256)) else (some (-1)))
end Go.Proofs.Ytpckkkcaffhhnaa.P
namespace Go.Proofs.Ytpckkkcaffhhnaa.L
open Go.RowKit Go.Proofs.YtpckkkcaffhhnaaW.PrintWords Go.Proofs.YtpckkkcaffhhnaaW.PrintLast Go.Proofs.YtpckkkcaffhhnaaW.PrintMore Go.Proofs.Ytpckkkcaffhhnaa.P
def FitF (x : S30) : Prop := x.f0.size ≤ 140737488351232 ∧ x.f2.length ≤ 140737488351232 ∧ ∀ y ∈ x.f2, y.f2.size ≤ 140737488351232
def named (a : ByteArray) (x : S30) : Bool := x.f0.toList == a.toList
def findI (l : List S30) (a : ByteArray) : Int := idxFrom (named a) l 0
def unitGood (l : List S30) : Bool := allFrom (fun i x => funOkB x.f0 x.f2 && (findI l x.f0 == (i : Int))) l 0
def unitOkB (l : List S30) : Bool := unitGood l && decide (l.length ≤ 5)
theorem impl_FunOk_f (x : S30) (h : FitF x) : impl_FunOk.f x.f0 x.f1 x.f2 = some (funOkB x.f0 x.f2) := by
  unfold impl_FunOk.f
  rw [if_pos ⟨h.1, h.2.2⟩]
theorem spec_FunOk_l0 (x : S30) (h : FitF x) (k : Nat) (hk : 140737488351236 + x.f2.length < k) : spec_FunOk.l0 k (x.f2.length : Int) 0 x.f0 x.f1 x.f2 = some (!(x.f2.any fun y => !insOkB y.f0 y.f1 y.f2)) := by
  have e := loop_all (fun _ (y : S38) => insOkB y.f0 y.f1 y.f2) z38 x.f2 true (by have := h.2.1; omega) (fun k i => spec_FunOk.l0 k (x.f2.length : Int) i x.f0 x.f1 x.f2) 140737488351236 ?_ ?_ ?_ k hk
  · rw [e, allFrom_all, Bool.and_true, all_not_any]
  · intro k i hK hi hq
    simp only [spec_FunOk.l0]
    have e := spec_InsOk_f (rd_T38 x.f2 (i : Int)).f0 (rd_T38 x.f2 (i : Int)).f1 (rd_T38 x.f2 (i : Int)).f2 (h.2.2 _ (getD_mem hi)) k (by have : (rd_T38 x.f2 (i : Int)).f2.size ≤ 140737488351232 := h.2.2 _ (getD_mem hi); omega)
    rw [show insOkB (rd_T38 x.f2 (i : Int)).f0 (rd_T38 x.f2 (i : Int)).f1 (rd_T38 x.f2 (i : Int)).f2 = true from hq] at e
    rw [if_pos (by omega), if_pos (by omega), if_pos (by omega), e]
    rfl
  · intro k i hK hi hq
    simp only [spec_FunOk.l0]
    have e := spec_InsOk_f (rd_T38 x.f2 (i : Int)).f0 (rd_T38 x.f2 (i : Int)).f1 (rd_T38 x.f2 (i : Int)).f2 (h.2.2 _ (getD_mem hi)) k (by have : (rd_T38 x.f2 (i : Int)).f2.size ≤ 140737488351232 := h.2.2 _ (getD_mem hi); omega)
    rw [show insOkB (rd_T38 x.f2 (i : Int)).f0 (rd_T38 x.f2 (i : Int)).f1 (rd_T38 x.f2 (i : Int)).f2 = false from hq] at e
    rw [if_pos (by omega), if_pos (by omega), if_pos (by omega), e]
    rfl
  · intro k hK
    simp only [spec_FunOk.l0]
    rw [if_neg (by omega)]
theorem spec_FunOk_f (x : S30) (h : FitF x) (k : Nat) (hk : 140737488351240 + x.f2.length < k) : spec_FunOk.f k x.f0 x.f1 x.f2 = some (funOkB x.f0 x.f2) := by
  obtain ⟨m, rfl⟩ : ∃ m, k = m + 1 := ⟨k - 1, by omega⟩
  have hs := h.1
  have hl := h.2.1
  unfold spec_FunOk.f funOkB
  rw [spec_NameOk_f x.f0 h.1 _ (by omega)]
  simp only [Option.bind_some]
  have j (b : Bool) : spec_FunOk.j0 (m + 1) (x.f2.length : Int) b x.f0 x.f1 x.f2 = some (!b && !(x.f2.any fun y => !insOkB y.f0 y.f1 y.f2)) := by
    simp only [spec_FunOk.j0]
    cases b with
    | true => rfl
    | false => rw [if_neg (by decide), spec_FunOk_l0 x h m (by omega)]; rfl
  cases nameOk x.f0 with
  | false => rw [if_neg (by decide), j]; rfl
  | true =>
    rw [if_pos rfl]
    by_cases h1 : (x.f2.length : Int) < 1
    · have e1 : decide (1 ≤ (x.f2.length : Int)) = false := decide_eq_false (by omega)
      rw [if_pos h1, j, e1]; rfl
    · rw [if_neg h1]
      have e1 : decide (1 ≤ (x.f2.length : Int)) = true := decide_eq_true (by omega)
      by_cases h2 : (x.f2.length : Int) > 10
      · have e2 : decide ((x.f2.length : Int) ≤ 10) = false := decide_eq_false (by omega)
        rw [if_pos h2, j, e1, e2]; rfl
      · rw [if_neg h2]
        have e2 : decide ((x.f2.length : Int) ≤ 10) = true := decide_eq_true (by omega)
        have w : wrap64 ((x.f2.length : Int) - 1) = (x.f2.length : Int) - 1 := wrap_id (by omega) (by omega)
        rw [w, if_pos (by omega), if_pos (by omega), spec_InsLast_f]
        simp only [Option.bind_some]
        rw [j, e1, e2]
        have e3 : (rd_T38 x.f2 ((x.f2.length : Int) - 1)) = x.f2.getD (x.f2.length - 1) z38 := by
          unfold rd_T38
          rw [show ((x.f2.length : Int) - 1).toNat = x.f2.length - 1 by omega]
        rw [e3]
        simp [Bool.and_comm]
theorem spec_l2Find_f (l : List S30) (hn : l.length ≤ 9223372036854775807) (a : ByteArray) (k : Nat) (hk : l.length < k) : spec_l2Find.f k l a = some (findI l a) := by
  unfold spec_l2Find.f findI
  refine loop_idx (named a) z30 l hn (fun k i => spec_l2Find.l0 k l a i) 0 ?_ ?_ ?_ k (by omega)
  · intro k i _ hi hq
    simp only [spec_l2Find.l0]
    rw [if_pos (by omega), if_pos (by omega), if_pos (show (rd_T30 l (i : Int)).f0.toList = a.toList from beq_iff_eq.mp hq)]
  · intro k i _ hi hq
    simp only [spec_l2Find.l0]
    rw [if_pos (by omega), if_pos (by omega), if_neg (show ¬ (rd_T30 l (i : Int)).f0.toList = a.toList from beq_eq_false_iff_ne.mp hq)]
  · intro k _
    simp only [spec_l2Find.l0]
    rw [if_neg (by omega)]
theorem spec_UnitOk_f (l : List S30) (hn : l.length ≤ 140737488351232) (hx : ∀ x ∈ l, FitF x) (k : Nat) (hk : 500000000000000 ≤ k) : spec_UnitOk.f k l = some (unitOkB l) := by
  unfold spec_UnitOk.f unitOkB
  have ed : decide ((l.length : Int) ≤ 5) = decide (l.length ≤ 5) := by congr 1; exact propext ⟨fun h => by omega, fun h => by omega⟩
  rw [← ed]
  have step : ∀ (k i : Nat), 300000000000000 ≤ k → i < l.length → spec_UnitOk.l0 (k + 1) l (i : Int) = if (funOkB (l.getD i z30).f0 (l.getD i z30).f2 && (findI l (l.getD i z30).f0 == (i : Int))) = true then spec_UnitOk.l0 k l (wrap64 ((i : Int) + 1)) else some false := by
    intro k i hK hi
    simp only [spec_UnitOk.l0]
    have hf := hx _ (getD_mem (d := z30) hi)
    have hl2 := hf.2.1
    have e := spec_FunOk_f (rd_T30 l (i : Int)) hf k (by have e0 : rd_T30 l (i : Int) = l.getD i z30 := rfl; rw [e0]; omega)
    rw [if_pos (by omega), if_pos (by omega), e]
    simp only [Option.bind_some]
    show (if funOkB (l.getD i z30).f0 (l.getD i z30).f2 = true then _ else _) = _
    cases funOkB (l.getD i z30).f0 (l.getD i z30).f2 with
    | false => rfl
    | true =>
      rw [if_pos rfl, spec_l2Find_f l (by omega) _ k (by omega)]
      simp only [Option.bind_some, Bool.true_and]
      show (if findI l (l.getD i z30).f0 = (i : Int) then _ else _) = _
      by_cases hq : findI l (l.getD i z30).f0 = (i : Int)
      · rw [if_pos hq, if_pos (beq_iff_eq.mpr hq)]
      · rw [if_neg hq, if_neg (by rw [beq_eq_false_iff_ne.mpr hq]; decide)]
  refine loop_all (fun i x => funOkB x.f0 x.f2 && (findI l x.f0 == (i : Int))) z30 l (decide ((l.length : Int) ≤ 5)) (by omega) (fun k i => spec_UnitOk.l0 k l i) 300000000000000 ?_ ?_ ?_ k (by omega)
  · intro k i hK hi hq
    show spec_UnitOk.l0 (k + 1) l (i : Int) = _
    rw [step k i hK hi, if_pos hq]
  · intro k i hK hi hq
    show spec_UnitOk.l0 (k + 1) l (i : Int) = _
    rw [step k i hK hi, if_neg (by rw [hq]; decide)]
  · intro k _
    simp only [spec_UnitOk.l0]
    rw [if_neg (by omega)]
theorem impl_funsOk_f (l : List S30) (hn : l.length ≤ 140737488351232) (hx : ∀ x ∈ l, FitF x) (k : Nat) (hk : l.length < k) : impl_funsOk.f k l = some (unitGood l) := by
  unfold impl_funsOk.f
  have step : ∀ (k i : Nat), i < l.length → impl_funsOk.l0 (k + 1) l l (l.length : Int) (i : Int) = if (funOkB (l.getD i z30).f0 (l.getD i z30).f2 && (findI l (l.getD i z30).f0 == (i : Int))) = true then impl_funsOk.l0 k l l (l.length : Int) (wrap64 ((i : Int) + 1)) else some false := by
    intro k i hi
    simp only [impl_funsOk.l0]
    have hf := hx _ (getD_mem (d := z30) hi)
    have e := impl_FunOk_f (rd_T30 l (i : Int)) hf
    rw [if_pos (by omega), if_pos (by omega), if_pos (by omega), e]
    simp only [Option.bind_some]
    show (if funOkB (l.getD i z30).f0 (l.getD i z30).f2 = true then _ else _) = _
    cases funOkB (l.getD i z30).f0 (l.getD i z30).f2 with
    | false => rfl
    | true =>
      rw [if_pos rfl]
      simp only [impl_find.f, Option.bind_some, Bool.true_and]
      show (if findI l (l.getD i z30).f0 = (i : Int) then _ else _) = _
      by_cases hq : findI l (l.getD i z30).f0 = (i : Int)
      · rw [if_pos hq, if_pos (beq_iff_eq.mpr hq)]
      · rw [if_neg hq, if_neg (by rw [beq_eq_false_iff_ne.mpr hq]; decide)]
  have e := loop_all (fun i x => funOkB x.f0 x.f2 && (findI l x.f0 == (i : Int))) z30 l true (by omega) (fun k i => impl_funsOk.l0 k l l (l.length : Int) i) 0 ?_ ?_ ?_ k (by omega)
  · rw [e, Bool.and_true]; rfl
  · intro k i hK hi hq
    show impl_funsOk.l0 (k + 1) l l (l.length : Int) (i : Int) = _
    rw [step k i hi, if_pos hq]
  · intro k i hK hi hq
    show impl_funsOk.l0 (k + 1) l l (l.length : Int) (i : Int) = _
    rw [step k i hi, if_neg (by rw [hq]; decide)]
  · intro k _
    simp only [impl_funsOk.l0]
    rw [if_neg (by omega)]
theorem impl_UnitOk_f (l : List S30) (hn : l.length ≤ 140737488351232) (hx : ∀ x ∈ l, FitF x) (k : Nat) (hk : l.length < k) : impl_UnitOk.f k l = some (unitOkB l) := by
  unfold impl_UnitOk.f unitOkB
  by_cases h : l.length ≤ 5
  · rw [if_pos (by omega), impl_funsOk_f l hn hx k hk]
    simp [h]
  · rw [if_neg (by omega)]
    simp [h]
end Go.Proofs.Ytpckkkcaffhhnaa.L
namespace Go.Proofs.Ytpckkkcaffhhnaa.P
open Go.RowKit Go.Proofs.YtpckkkcaffhhnaaW.PrintWords Go.Proofs.YtpckkkcaffhhnaaW.PrintLast Go.Proofs.YtpckkkcaffhhnaaW.PrintMore
attribute [local go_sem] max2_int min2_int max_two min_two max_three min_three max_four min_four
open Go.Proofs.Ytpckkkcaffhhnaa.L in
def impl_unitsOk.f (l0 : List (List S30)) (a1 : Int) : Option Bool := if (∀ u ∈ l0, u.length ≤ 140737488351232 ∧ ∀ x ∈ u, x.f0.size ≤ 140737488351232 ∧ x.f2.length ≤ 140737488351232 ∧ ∀ y ∈ x.f2, y.f2.size ≤ 140737488351232) then some (decide ((l0.length : Int) ≤ a1) && !(l0.any fun u => !unitOkB u)) else none
open Go.Proofs.Ytpckkkcaffhhnaa.L in
set_option maxHeartbeats 1000000 in
theorem unitsok1_calls (A : Option Addr) (c : Nat) (u : List S30) (hl : u.length ≤ 140737488351232) (hx : ∀ x ∈ u, FitF x) (w : World) (hr : Kd.C k30 w A u.length u) (hc : u.length ≤ c) :
    Calls Try.prog 123 #[.slice A u.length c] w fun e w' => e = .returned (.bool (!unitOkB u)) ∧ Below w.heap.size w w' := by
  have H := aM (fun W : World => fun (h : Kd.C k30 W A u.length u) => (impl_UnitOk.calls (u.length + 1) A c u (unitOkB u) W h hc (impl_UnitOk_f u hl hx _ (Nat.lt_succ_self _))).mono fun e w' (h : _ ∧ _) => (⟨h.1, by first | exact h.2 | exact h.2.below⟩ : e = .returned (.bool (unitOkB u)) ∧ Below W.heap.size W w'))
  have HR := aM hr
  clear hx hr
  generalize unitOkB u = b at H
  go_enter Try.func123, Try.ntmps123
  go_wp2_with (go_at_call 64; refine (H.out _ (Kd.C_below HR.out (by first | exact Below.refl _ _ | exact below_alloc (Below.refl _ _) _))).mono ?_; rintro e w' ⟨rfl, hb⟩)
  all_goals
    go_ret
    exact ⟨by first | rfl | simp, by first | exact hb | exact below_then (below_alloc (Below.refl _ _) _) (below_size (below_alloc (Below.refl _ _) _)) hb⟩
open Go.Proofs.Ytpckkkcaffhhnaa.L in
set_option maxHeartbeats 4000000 in
theorem impl_unitsOk.calls (A0 : Option Addr) (c0 : Nat) (l0 : List (List S30)) (a1 : Int) (r : Bool) (w : World) (hr0 : Kd.C (Kd.slice 30 k30) w A0 l0.length l0) (hc0 : l0.length ≤ c0) (h : impl_unitsOk.f l0 a1 = some r) :
    Calls Try.prog 82 #[.slice A0 l0.length c0, .int .i64 a1] w fun e w' => e = .returned (.bool r) ∧ Below w.heap.size w w' := by
 unfold impl_unitsOk.f at h
 split at h
 case isFalse => exact absurd h (by simp)
 rename_i hf
 obtain rfl := Option.some.inj h
 clear h
 have HA := aM (fun (W : World) (hb : Below w.heap.size w W) => anyFuns_calls A0 c0 l0 #[] (fun u => !unitOkB u) W (Kd.C_below hr0 hb) hc0 (fun W' x A2 c2 _ hx hc2 h2 => unitsok1_calls A2 c2 x (hf x hx).1 (hf x hx).2 W' h2 hc2))
 clear hf hr0
 by_cases hq : (l0.length : Int) ≤ a1
 · have e0 : (decide ((l0.length : Int) ≤ a1) && !(l0.any fun u => !unitOkB u)) = !(l0.any fun u => !unitOkB u) := by simp [hq]
   rw [e0]
   generalize (l0.any fun u => !unitOkB u) = b at HA
   go_enter Try.func82, Try.ntmps82
   go_wp2_with (go_at_call 122; refine (HA.out _ (by first | exact Below.refl _ _ | exact below_alloc (Below.refl _ _) _)).mono ?_; rintro e w' ⟨rfl, hb⟩)
   all_goals
     go_ret
     exact ⟨by first | rfl | simp, by first | exact hb | exact below_then (below_alloc (Below.refl _ _) _) (below_size (below_alloc (Below.refl _ _) _)) hb⟩
 have e0 : (decide ((l0.length : Int) ≤ a1) && !(l0.any fun u => !unitOkB u)) = false := by simp [hq]
 rw [e0]
 go_enter Try.func82, Try.ntmps82
 go_wp2_with (go_at_call 122; exact False.elim (by omega))
 all_goals
   go_ret
   exact ⟨rfl, by first | exact Below.refl _ _ | exact below_alloc (Below.refl _ _) _⟩
mutual
def impl_pick.l0 : Nat → List (List (S30)) → ByteArray → List Bool → Int → Int → Option (Int × Int × Bool)
  | 0, _, _, _, _, _ => none
  | k + 1, x0, x1, x12, x13, x14 => if x14 < x13 then (if 0 ≤ x14 then (if x14 < (x12.length : Int) then (impl_pick.l1 k x0 x1 (rdOf false x12 x14) x12 x13 x14 x0 (x0.length : Int) 0) else (none)) else (none)) else (some (0, 0, false))
def impl_pick.l1 : Nat → List (List (S30)) → ByteArray → Bool → List Bool → Int → Int → List (List (S30)) → Int → Int → Option (Int × Int × Bool)
  | 0, _, _, _, _, _, _, _, _, _ => none
  | k + 1, x0, x1, x8, x12, x13, x14, x18, x19, x20 => if x20 < x19 then (if 0 ≤ x20 then (if x20 < (x18.length : Int) then ((impl_find.f (rd_L13 x18 x20) x1).bind fun t519 => (if t519 ≥ 0 then (if 0 ≤ t519 then (if t519 < ((rd_L13 x18 x20).length : Int) then (if (((rd_T30 (rd_L13 x18 x20) t519).f1) == x8) = true then (some (x20, t519, true)) else (impl_pick.l1 k x0 x1 x8 x12 x13 x14 x18 x19 (wrap64 (x20 + 1)))) else (none)) else (none)) else (impl_pick.l1 k x0 x1 x8 x12 x13 x14 x18 x19 (wrap64 (x20 + 1))))) else (none)) else (none)) else (impl_pick.l0 k x0 x1 x12 x13 (wrap64 (x14 + 1)))
end
def impl_pick.f (k : Nat) (l0 : List (List (S30))) (a1 : ByteArray) : Option (Int × Int × Bool) := (some (([false, true] : List Bool) : List Bool)).bind fun y514 => (impl_pick.l0 k l0 a1 y514 (y514.length : Int) 0)
set_option maxHeartbeats 8000000 in
set_option maxRecDepth 100000 in
theorem impl_pick.calls (k : Nat) (A0 : Option Addr) (c0 : Nat) (l0 : List (List (S30))) (a1 : ByteArray) (r1 : Int) (r2 : Int) (r3 : Bool) (w : World) (hr0 : Kd.C (Kd.slice 30 k30) w A0 l0.length l0) (hc0 : l0.length ≤ c0) (h : impl_pick.f k l0 a1 = some (r1, r2, r3)) :
    Calls Try.prog 83 #[.slice A0 l0.length c0, .string a1] w fun e w' => e = .returned (.tuple #[.int .i64 r1, .int .i64 r2, .bool r3]) ∧ Below w.heap.size w w' := by
 have HR0 := aM hr0; have HC0 := aM hc0; clear hr0 hc0
 have HB := aM (Below.refl w.heap.size w)
 have H : ((some (([false, true] : List Bool) : List Bool)).bind fun y514 => (impl_pick.l0 k l0 a1 y514 (y514.length : Int) 0)) = some (r1, r2, r3) := h
 clear h
 obtain ⟨y514, hy514⟩ : ∃ y_ : List Bool, y_ = (([false, true] : List Bool)) := ⟨_, rfl⟩
 replace H : (impl_pick.l0 k l0 a1 y514 (y514.length : Int) 0) = some (r1, r2, r3) := by first | (rw [hy514]; with_reducible exact H) | (have H2_ := (Option.bind_some _ _).symm.trans H; rw [hy514]; with_reducible exact H2_) | (have H2_ := (Option.bind_some _ _).symm.trans H; with_reducible exact H2_) | with_reducible exact H | (rw [hy514]; exact H) | exact H
 have Ny514 := aM hy514; clear hy514
 have H' := aM H
 clear H
 go_enter Try.func83, Try.ntmps83
 go_wp2_with (first | ((with_reducible refine gate_dst (N := 12) rfl ?_); refine Kd.R_lit Kd.bool _ 4 ?hg (N := 12) ?hd (xs := ([false, true] : List Bool)) (inner := [.bool false, .bool true]) (ok := fun _ => True) (okp := fun _ => True) ?hr ?hp (fun _ hk => hk) trivial (Below.refl _ _) (Nat.le_refl _) (by simp) ?_; (case hd => rfl); (case hg => rfl); (case hr => first | (go_simp; done) | (go_simp; rfl)); (case hp => exact (Reps.one (show Kd.M Kd.bool _ _ _ false [.bool false] from rfl) (Reps.one (show Kd.M Kd.bool _ _ _ true [.bool true] from rfl) (Reps.none _ _)))); intro v515 w3 ho4 hb hg_ hnew_; clear hg_ hnew_; (first | rw [← Ny514.out] at ho4 | (simp only [Int.reduceToNat] at ho4; rw [← Ny514.out] at ho4)); have n0_ := aM (Kd.R_lower ho4 (below_size (by repeat (with_reducible first | exact HB.out | apply bA | apply bN | apply bD)))); have n1_ := aM (below_step (by repeat (with_reducible first | exact HB.out | apply bA | apply bN | apply bD)) hb); clear HB; have HO516 := n0_; have HB := n1_; clear n0_ n1_ hb ho4; obtain ⟨Ao5, co5, eo5⟩ := Kd.R_slice HO516.out; subst eo5))
 go_loopg [14] k (fun kq v14 w' => ∃ (x14_1 : Int), v14 = .int .i64 x14_1 ∧ Aside0 (impl_pick.l0 kq l0 a1 y514 (y514.length : Int) x14_1 = some (r1, r2, r3)) ∧ Aside0 (kq ≤ k) ∧ Aside0 (Kd.R Kd.bool 4 w' w.heap.size (fun _ => True) (.slice Ao5 y514.length co5) y514) ∧ Aside0 (Below w.heap.size w w'))
 case atStart => exact ⟨(0), (by first | rfl | (simp; done) | (simp [*]; done)), H', ⟨Nat.le_refl _⟩, ⟨by (with_reducible repeat (first | apply Ra | apply Rn | apply Rd)); exact HO516.out⟩, ⟨by repeat (with_reducible first | exact HB.out | apply bA | apply bN | apply bD)⟩⟩
 clear H'
 try clear p2
 obtain ⟨x14_1, rfl, HA, HK1, HO_12, HB⟩ := hrel
 obtain _ | k1 := gk
 · exact absurd HA.out (by simp [impl_pick.l0])
 have H := HA.out
 clear HA
 simp only [impl_pick.l0] at H
 by_cases c6 : x14_1 < (y514.length : Int)
 · rw [if_pos c6] at H
   have c6b0 : decide (x14_1 < (y514.length : Int)) = true := decide_eq_true c6
   clear c6
   by_cases c7 : 0 ≤ x14_1
   · rw [if_pos c7] at H
     have c7b0 : decide (0 ≤ x14_1) = true := decide_eq_true c7
     clear c7
     by_cases c8 : x14_1 < (y514.length : Int)
     · rw [if_pos c8] at H
       have c8b0 : decide (x14_1 < (y514.length : Int)) = true := decide_eq_true c8
       clear c8
       have H' := aM H
       clear H
       have p517 : 0 ≤ (x14_1 : Int) := oD (by first | with_reducible assumption | assumption)
       have q517 : x14_1 < (y514.length : Int) := oD (by first | with_reducible assumption | assumption)
       obtain ⟨ad517, e517, hx517_0⟩ := Kd.at_bool (Kd.R_reads' HO_12.out).2.2 x14_1 p517 q517
       cases e517
       replace p517 := eq_true p517; replace q517 := eq_true q517
       go_wp2
       go_loopg [20] k1 (fun kq v20 w' => ∃ (x20_2 : Int), v20 = .int .i64 x20_2 ∧ Aside0 (impl_pick.l1 kq l0 a1 (rdOf false y514 x14_1) y514 (y514.length : Int) x14_1 l0 (l0.length : Int) x20_2 = some (r1, r2, r3)) ∧ Aside0 (kq ≤ k1) ∧ Aside0 (Kd.R Kd.bool 4 w' w.heap.size (fun _ => True) (.slice (some ad517) y514.length co5) y514) ∧ Aside0 (Below w.heap.size w w'))
       case atStart => exact ⟨(0), (by first | rfl | (simp; done) | (simp [*]; done)), H', ⟨Nat.le_refl _⟩, ⟨by (with_reducible repeat (first | apply Ra | apply Rn | apply Rd)); exact HO_12.out⟩, ⟨by repeat (with_reducible first | exact HB.out | apply bA | apply bN | apply bD)⟩⟩
       clear H'
       try clear p2; try clear p5; try clear q5; try clear hx5; try clear c6; try clear c6b0; try clear c7; try clear c7b0; try clear c8; try clear c8b0; try clear hx517_0; try clear p2; try clear p517; try clear q517
       obtain ⟨x20_2, rfl, HA, HK2, HO_12, HB⟩ := hrel
       obtain _ | k2 := gk
       · exact absurd HA.out (by simp [impl_pick.l1])
       have H := HA.out
       clear HA
       simp only [impl_pick.l1] at H
       by_cases c9 : x20_2 < (l0.length : Int)
       · rw [if_pos c9] at H
         have c9b0 : decide (x20_2 < (l0.length : Int)) = true := decide_eq_true c9
         clear c9
         by_cases c10 : 0 ≤ x20_2
         · rw [if_pos c10] at H
           have c10b0 : decide (0 ≤ x20_2) = true := decide_eq_true c10
           clear c10
           by_cases c11 : x20_2 < (l0.length : Int)
           · rw [if_pos c11] at H
             have c11b0 : decide (x20_2 < (l0.length : Int)) = true := decide_eq_true c11
             clear c11
             replace H := Option.bind_eq_some_iff.mp H
             obtain ⟨t519, A120, H⟩ := H
             replace H : (if t519 ≥ 0 then (if 0 ≤ t519 then (if t519 < ((rd_L13 l0 x20_2).length : Int) then (if (((rd_T30 (rd_L13 l0 x20_2) t519).f1) == (rdOf false y514 x14_1)) = true then (some (x20_2, t519, true)) else (impl_pick.l1 k2 l0 a1 (rdOf false y514 x14_1) y514 (y514.length : Int) x14_1 l0 (l0.length : Int) (wrap64 (x20_2 + 1)))) else (none)) else (none)) else (impl_pick.l1 k2 l0 a1 (rdOf false y514 x14_1) y514 (y514.length : Int) x14_1 l0 (l0.length : Int) (wrap64 (x20_2 + 1)))) = some (r1, r2, r3) := H
             have A12 := aM A120; clear A120
             by_cases c13 : t519 ≥ 0
             · rw [if_pos c13] at H
               have c13b0 : decide (0 ≤ t519) = true := decide_eq_true c13
               clear c13
               by_cases c14 : 0 ≤ t519
               · rw [if_pos c14] at H
                 have c14b0 : decide (0 ≤ t519) = true := decide_eq_true c14
                 clear c14
                 by_cases c15 : t519 < ((rd_L13 l0 x20_2).length : Int)
                 · rw [if_pos c15] at H
                   have c15b0 : decide (t519 < ((rd_L13 l0 x20_2).length : Int)) = true := decide_eq_true c15
                   clear c15
                   by_cases c16 : (((rd_T30 (rd_L13 l0 x20_2) t519).f1) == (rdOf false y514 x14_1)) = true
                   · rw [if_pos c16] at H
                     have c16b0 : (((rd_T30 (rd_L13 l0 x20_2) t519).f1) == (rdOf false y514 x14_1)) = true := c16
                     (try (have c16b1 : decide (((rd_T30 (rd_L13 l0 x20_2) t519).f1) = (rdOf false y514 x14_1)) = true := by simpa using c16))
                     (try (have c16b2 : (((rd_T30 (rd_L13 l0 x20_2) t519).f1) == (rdOf false y514 x14_1)) = true := by simpa using c16))
                     clear c16
                     simp only [Option.some.injEq, Prod.mk.injEq] at H
                     obtain ⟨rfl, rfl, rfl⟩ := H
                     have p518 : 0 ≤ (x20_2 : Int) := oD (by first | with_reducible assumption | assumption)
                     have q518 : x20_2 < (l0.length : Int) := oD (by first | with_reducible assumption | assumption)
                     obtain ⟨ad518, A518_0, c518_0, e518, hx518_0, hl518_0, hi518_0⟩ := at_L13 HR0.out x20_2 p518 q518
                     cases e518
                     replace hx518_0 := (HB.out.cell (World.block_lt_of_cell? w _ hx518_0)).trans hx518_0
                     have HR518_0 := aM hi518_0; have HC518_0 := aM hl518_0; clear hi518_0 hl518_0; replace p518 := eq_true p518; replace q518 := eq_true q518
                     go_wp2_with (first | ((with_reducible refine gate_callee (f := 65) rfl ?_); refine goesL_ (some 27) rfl rfl Try.func65 (by kernel_rfl) rfl #[.slice A518_0 (rd_L13 l0 x20_2).length c518_0, .string a1] rfl (by (try simp only [List.map_toArray, List.map_cons, List.map_nil]); first | done | rfl) ?_; (with_reducible refine (impl_find.calls _ _ (rd_L13 l0 x20_2) a1 t519 _ ?side1 ?side2 A12.out).mono ?_); (case side1 => repeat (first | exact (Kd.C_below HR518_0.out HB.out) | (with_reducible first | refine Ca ?_ _ | refine Cn ?_ _ | refine Cd ?_))); (case side2 => exact HC518_0.out); rintro e w17 ⟨rfl, hb⟩; refine ⟨_, rfl, ?_⟩; have n0_ := aM (Kd.R_below (by (with_reducible repeat (first | apply Ra | apply Rn | apply Rd)); exact HO_12.out) hb); have n1_ := aM (below_step (by repeat (with_reducible first | exact HB.out | apply bA | apply bN | apply bD)) hb); clear HO_12 HB; have HO_12 := n0_; have HB := n1_; clear n0_ n1_; have p520 : 0 ≤ (t519 : Int) := oD (by first | with_reducible assumption | assumption); have q520 : t519 < ((rd_L13 l0 x20_2).length : Int) := oD (by first | with_reducible assumption | assumption); obtain ⟨ad520, A520_2, c520_2, e520, hx520_0, hx520_1, hx520_2, hl520_2, hi520_2⟩ := at_T30 HR518_0.out t519 p520 q520; cases e520; replace hx520_0 := (HB.out.cell (World.block_lt_of_cell? w _ hx520_0)).trans hx520_0; replace hx520_1 := (HB.out.cell (World.block_lt_of_cell? w _ hx520_1)).trans hx520_1; replace hx520_2 := (HB.out.cell (World.block_lt_of_cell? w _ hx520_2)).trans hx520_2; have HR520_2 := aM hi520_2; have HC520_2 := aM hl520_2; clear hi520_2 hl520_2; replace p520 := eq_true p520; replace q520 := eq_true q520))
                     go_ret3
                     exact ⟨by first | rfl | (simp [*, errW_none, errW_some] <;> rfl), by repeat (with_reducible first | exact HB.out | apply bA | apply bN | apply bD)⟩
                   rw [if_neg c16] at H
                   have c16b0 : (((rd_T30 (rd_L13 l0 x20_2) t519).f1) == (rdOf false y514 x14_1)) = false := by simpa using c16
                   (try (have c16b1 : decide (((rd_T30 (rd_L13 l0 x20_2) t519).f1) = (rdOf false y514 x14_1)) = false := by simpa using c16))
                   (try (have c16b2 : (((rd_T30 (rd_L13 l0 x20_2) t519).f1) == (rdOf false y514 x14_1)) = false := by simpa using c16))
                   (try (have c16b3 : ¬ (((rd_T30 (rd_L13 l0 x20_2) t519).f1) = (rdOf false y514 x14_1)) := by simpa using c16))
                   clear c16
                   have H' := aM H
                   clear H
                   have p518 : 0 ≤ (x20_2 : Int) := oD (by first | with_reducible assumption | assumption)
                   have q518 : x20_2 < (l0.length : Int) := oD (by first | with_reducible assumption | assumption)
                   obtain ⟨ad518, A518_0, c518_0, e518, hx518_0, hl518_0, hi518_0⟩ := at_L13 HR0.out x20_2 p518 q518
                   cases e518
                   replace hx518_0 := (HB.out.cell (World.block_lt_of_cell? w _ hx518_0)).trans hx518_0
                   have HR518_0 := aM hi518_0; have HC518_0 := aM hl518_0; clear hi518_0 hl518_0; replace p518 := eq_true p518; replace q518 := eq_true q518
                   go_wp2_with (first | ((with_reducible refine gate_callee (f := 65) rfl ?_); refine goesL_ (some 27) rfl rfl Try.func65 (by kernel_rfl) rfl #[.slice A518_0 (rd_L13 l0 x20_2).length c518_0, .string a1] rfl (by (try simp only [List.map_toArray, List.map_cons, List.map_nil]); first | done | rfl) ?_; (with_reducible refine (impl_find.calls _ _ (rd_L13 l0 x20_2) a1 t519 _ ?side1 ?side2 A12.out).mono ?_); (case side1 => repeat (first | exact (Kd.C_below HR518_0.out HB.out) | (with_reducible first | refine Ca ?_ _ | refine Cn ?_ _ | refine Cd ?_))); (case side2 => exact HC518_0.out); rintro e w18 ⟨rfl, hb⟩; refine ⟨_, rfl, ?_⟩; have n0_ := aM (Kd.R_below (by (with_reducible repeat (first | apply Ra | apply Rn | apply Rd)); exact HO_12.out) hb); have n1_ := aM (below_step (by repeat (with_reducible first | exact HB.out | apply bA | apply bN | apply bD)) hb); clear HO_12 HB; have HO_12 := n0_; have HB := n1_; clear n0_ n1_; have p520 : 0 ≤ (t519 : Int) := oD (by first | with_reducible assumption | assumption); have q520 : t519 < ((rd_L13 l0 x20_2).length : Int) := oD (by first | with_reducible assumption | assumption); obtain ⟨ad520, A520_2, c520_2, e520, hx520_0, hx520_1, hx520_2, hl520_2, hi520_2⟩ := at_T30 HR518_0.out t519 p520 q520; cases e520; replace hx520_0 := (HB.out.cell (World.block_lt_of_cell? w _ hx520_0)).trans hx520_0; replace hx520_1 := (HB.out.cell (World.block_lt_of_cell? w _ hx520_1)).trans hx520_1; replace hx520_2 := (HB.out.cell (World.block_lt_of_cell? w _ hx520_2)).trans hx520_2; have HR520_2 := aM hi520_2; have HC520_2 := aM hl520_2; clear hi520_2 hl520_2; replace p520 := eq_true p520; replace q520 := eq_true q520))
                   go_roundg k2
                   case measure => have := HK1.out; have := HK2.out; omega
                   case rel => exact ⟨(wrap64 (x20_2 + 1)), (by first | rfl | (simp; done) | (simp [*]; done)), H', ⟨by have := HK1.out; have := HK2.out; omega⟩, ⟨by (with_reducible repeat (first | apply Ra | apply Rn | apply Rd)); exact HO_12.out⟩, ⟨by repeat (with_reducible first | exact HB.out | apply bA | apply bN | apply bD)⟩⟩
                 rw [if_neg c15] at H
                 exact absurd H (by simp)
               rw [if_neg c14] at H
               exact absurd H (by simp)
             rw [if_neg c13] at H
             have c13b0 : decide (0 ≤ t519) = false := decide_eq_false c13
             clear c13
             have H' := aM H
             clear H
             have p518 : 0 ≤ (x20_2 : Int) := oD (by first | with_reducible assumption | assumption)
             have q518 : x20_2 < (l0.length : Int) := oD (by first | with_reducible assumption | assumption)
             obtain ⟨ad518, A518_0, c518_0, e518, hx518_0, hl518_0, hi518_0⟩ := at_L13 HR0.out x20_2 p518 q518
             cases e518
             replace hx518_0 := (HB.out.cell (World.block_lt_of_cell? w _ hx518_0)).trans hx518_0
             have HR518_0 := aM hi518_0; have HC518_0 := aM hl518_0; clear hi518_0 hl518_0; replace p518 := eq_true p518; replace q518 := eq_true q518
             go_wp2_with (first | ((with_reducible refine gate_callee (f := 65) rfl ?_); refine goesL_ (some 27) rfl rfl Try.func65 (by kernel_rfl) rfl #[.slice A518_0 (rd_L13 l0 x20_2).length c518_0, .string a1] rfl (by (try simp only [List.map_toArray, List.map_cons, List.map_nil]); first | done | rfl) ?_; (with_reducible refine (impl_find.calls _ _ (rd_L13 l0 x20_2) a1 t519 _ ?side1 ?side2 A12.out).mono ?_); (case side1 => repeat (first | exact (Kd.C_below HR518_0.out HB.out) | (with_reducible first | refine Ca ?_ _ | refine Cn ?_ _ | refine Cd ?_))); (case side2 => exact HC518_0.out); rintro e w19 ⟨rfl, hb⟩; refine ⟨_, rfl, ?_⟩; have n0_ := aM (Kd.R_below (by (with_reducible repeat (first | apply Ra | apply Rn | apply Rd)); exact HO_12.out) hb); have n1_ := aM (below_step (by repeat (with_reducible first | exact HB.out | apply bA | apply bN | apply bD)) hb); clear HO_12 HB; have HO_12 := n0_; have HB := n1_; clear n0_ n1_))
             go_roundg k2
             case measure => have := HK1.out; have := HK2.out; omega
             case rel => exact ⟨(wrap64 (x20_2 + 1)), (by first | rfl | (simp; done) | (simp [*]; done)), H', ⟨by have := HK1.out; have := HK2.out; omega⟩, ⟨by (with_reducible repeat (first | apply Ra | apply Rn | apply Rd)); exact HO_12.out⟩, ⟨by repeat (with_reducible first | exact HB.out | apply bA | apply bN | apply bD)⟩⟩
           rw [if_neg c11] at H
           exact absurd H (by simp)
         rw [if_neg c10] at H
         exact absurd H (by simp)
       rw [if_neg c9] at H
       have c9b0 : decide (x20_2 < (l0.length : Int)) = false := decide_eq_false c9
       clear c9
       have H' := aM H
       clear H
       go_wp2
       go_roundg k2
       case measure => have := HK1.out; have := HK2.out; omega
       case rel => exact ⟨(wrap64 (x14_1 + 1)), (by first | rfl | (simp; done) | (simp [*]; done)), H', ⟨by have := HK1.out; have := HK2.out; omega⟩, ⟨by (with_reducible repeat (first | apply Ra | apply Rn | apply Rd)); exact HO_12.out⟩, ⟨by repeat (with_reducible first | exact HB.out | apply bA | apply bN | apply bD)⟩⟩
     rw [if_neg c8] at H
     exact absurd H (by simp)
   rw [if_neg c7] at H
   exact absurd H (by simp)
 rw [if_neg c6] at H
 have c6b0 : decide (x14_1 < (y514.length : Int)) = false := decide_eq_false c6
 clear c6
 simp only [Option.some.injEq, Prod.mk.injEq] at H
 obtain ⟨rfl, rfl, rfl⟩ := H
 go_wp2
 go_ret3
 exact ⟨by first | rfl | (simp [*, errW_none, errW_some] <;> rfl), by repeat (with_reducible first | exact HB.out | apply bA | apply bN | apply bD)⟩
def impl_PickAt.f (k : Nat) (l0 : List (List (S30))) (a1 : ByteArray) : Option (Int × Int × Bool) := (impl_unitsOk.f l0 8).bind fun t521 => (if t521 = true then ((impl_pick.f k l0 a1).bind fun bt522 => (some (bt522.1, bt522.2.1, bt522.2.2))) else (some (0, 0, false)))
set_option maxHeartbeats 8000000 in
set_option maxRecDepth 100000 in
theorem impl_PickAt.calls (k : Nat) (A0 : Option Addr) (c0 : Nat) (l0 : List (List (S30))) (a1 : ByteArray) (r1 : Int) (r2 : Int) (r3 : Bool) (w : World) (hr0 : Kd.C (Kd.slice 30 k30) w A0 l0.length l0) (hc0 : l0.length ≤ c0) (h : impl_PickAt.f k l0 a1 = some (r1, r2, r3)) :
    Calls Try.prog 31 #[.slice A0 l0.length c0, .string a1] w fun e w' => e = .returned (.tuple #[.int .i64 r1, .int .i64 r2, .bool r3]) ∧ Below w.heap.size w w' := by
 have HR0 := aM hr0; have HC0 := aM hc0; clear hr0 hc0
 have HB := aM (Below.refl w.heap.size w)
 have H : ((impl_unitsOk.f l0 8).bind fun t521 => (if t521 = true then ((impl_pick.f k l0 a1).bind fun bt522 => (some (bt522.1, bt522.2.1, bt522.2.2))) else (some (0, 0, false)))) = some (r1, r2, r3) := h
 clear h
 replace H := Option.bind_eq_some_iff.mp H
 obtain ⟨t521, A30, H⟩ := H
 replace H : (if t521 = true then ((impl_pick.f k l0 a1).bind fun bt522 => (some (bt522.1, bt522.2.1, bt522.2.2))) else (some (0, 0, false))) = some (r1, r2, r3) := H
 have A3 := aM A30; clear A30
 by_cases c4 : t521 = true
 · subst c4
   have H1 : ((impl_pick.f k l0 a1).bind fun bt522 => (some (bt522.1, bt522.2.1, bt522.2.2))) = some (r1, r2, r3) := by rw [if_pos rfl] at H; exact H
   clear H
   have H := H1
   clear H1
   replace H := Option.bind_eq_some_iff.mp H
   obtain ⟨⟨t522, t523, t524⟩, A50, H⟩ := H
   replace H : (some (t522, t523, t524)) = some (r1, r2, r3) := H
   have A5 := aM A50; clear A50
   simp only [Option.some.injEq, Prod.mk.injEq] at H
   obtain ⟨rfl, rfl, rfl⟩ := H
   go_enter Try.func31, Try.ntmps31
   go_wp2_with (first | ((with_reducible refine gate_callee (f := 82) rfl ?_); refine goesL_ (some 8) rfl rfl Try.func82 (by kernel_rfl) rfl #[.slice A0 l0.length c0, .int .i64 8] rfl (by (try simp only [List.map_toArray, List.map_cons, List.map_nil]); first | done | rfl) ?_; (with_reducible refine (impl_unitsOk.calls _ _ l0 8 true _ ?side1 ?side2 A3.out).mono ?_); (case side1 => repeat (first | exact HR0.out | (with_reducible first | refine Ca ?_ _ | refine Cn ?_ _ | refine Cd ?_))); (case side2 => exact HC0.out); rintro e w6 ⟨rfl, hb⟩; refine ⟨_, rfl, ?_⟩; have n0_ := aM (below_step (by repeat (with_reducible first | exact HB.out | apply bA | apply bN | apply bD)) hb); clear HB; have HB := n0_; clear n0_) | ((with_reducible refine gate_callee (f := 83) rfl ?_); refine goesL_ (some 12) rfl rfl Try.func83 (by kernel_rfl) rfl #[.slice A0 l0.length c0, .string a1] rfl (by (try simp only [List.map_toArray, List.map_cons, List.map_nil]); first | done | rfl) ?_; (with_reducible refine (impl_pick.calls k _ _ l0 a1 t522 t523 t524 _ ?side1 ?side2 A5.out).mono ?_); (case side1 => repeat (first | exact (Kd.C_below HR0.out HB.out) | (with_reducible first | refine Ca ?_ _ | refine Cn ?_ _ | refine Cd ?_))); (case side2 => exact HC0.out); rintro e w7 ⟨rfl, hb⟩; refine ⟨_, rfl, ?_⟩; have n0_ := aM (below_step (by repeat (with_reducible first | exact HB.out | apply bA | apply bN | apply bD)) hb); clear HB; have HB := n0_; clear n0_))
   go_ret3
   exact ⟨by first | rfl | (simp [*, errW_none, errW_some] <;> rfl), by repeat (with_reducible first | exact HB.out | apply bA | apply bN | apply bD)⟩
 replace c4 := Bool.eq_false_iff.mpr c4
 subst c4
 have H1 : (some (0, 0, false)) = some (r1, r2, r3) := by rw [if_neg (show ¬ (false = true) by decide)] at H; exact H
 clear H
 have H := H1
 clear H1
 simp only [Option.some.injEq, Prod.mk.injEq] at H
 obtain ⟨rfl, rfl, rfl⟩ := H
 go_enter Try.func31, Try.ntmps31
 go_wp2_with (first | ((with_reducible refine gate_callee (f := 82) rfl ?_); refine goesL_ (some 8) rfl rfl Try.func82 (by kernel_rfl) rfl #[.slice A0 l0.length c0, .int .i64 8] rfl (by (try simp only [List.map_toArray, List.map_cons, List.map_nil]); first | done | rfl) ?_; (with_reducible refine (impl_unitsOk.calls _ _ l0 8 false _ ?side1 ?side2 A3.out).mono ?_); (case side1 => repeat (first | exact HR0.out | (with_reducible first | refine Ca ?_ _ | refine Cn ?_ _ | refine Cd ?_))); (case side2 => exact HC0.out); rintro e w8 ⟨rfl, hb⟩; refine ⟨_, rfl, ?_⟩; have n0_ := aM (below_step (by repeat (with_reducible first | exact HB.out | apply bA | apply bN | apply bD)) hb); clear HB; have HB := n0_; clear n0_))
 go_ret3
 exact ⟨by first | rfl | (simp [*, errW_none, errW_some] <;> rfl), by repeat (with_reducible first | exact HB.out | apply bA | apply bN | apply bD)⟩
open Go.Proofs.Ytpckkkcaffhhnaa.L in
set_option maxHeartbeats 4000000 in
set_option maxRecDepth 100000 in
theorem eqfFuns_calls (A0 : Option Addr) (c0 : Nat) (l0 : List (List S30)) (A1 : Option Addr) (c1 : Nat) (l1 : List (List S30)) (q : (List S30) → (List S30) → Bool) (w : World) (hr0 : Kd.C (Kd.slice 30 k30) w A0 l0.length l0) (hc0 : l0.length ≤ c0) (hr1 : Kd.C (Kd.slice 30 k30) w A1 l1.length l1) (hc1 : l1.length ≤ c1)
    (hp : ∀ (W : World) (x : (List S30)) (A2 : Option Addr) (c2 : Nat) (y : (List S30)) (B2 : Option Addr) (d2 : Nat), Below w.heap.size w W → x ∈ l0 → y ∈ l1 → x.length ≤ c2 → Kd.C k30 W A2 x.length x → y.length ≤ d2 → Kd.C k30 W B2 y.length y → Calls Try.prog 93 #[.slice A2 x.length c2, .slice B2 y.length d2] W fun e w' => e = .returned (.bool (q x y)) ∧ Below W.heap.size W w') :
    Calls Try.prog 92 #[.slice A0 l0.length c0, .slice A1 l1.length c1, .func (.func 93) #[] #[]] w fun e w' => e = .returned (.bool (all2 q l0 l1)) ∧ Below w.heap.size w w' := by
  have HR0 := aM hr0
  have HR1 := aM hr1
  have HN : l0.length ≤ 9223372036854775807 := hr0.2.1
  have HPP := aM hp
  clear hr0 hr1 hp
  by_cases hlen : l0.length = l1.length
  · have hb1 : (l0.length == l1.length) = true := beq_iff_eq.mpr hlen
    have hb2 : ((l0.length : Int) == (l1.length : Int)) = true := beq_iff_eq.mpr (by omega)
    have hb3 : (l0.length != l1.length) = false := bne_eq_false_iff_eq.mpr hlen
    have hb4 : ((l0.length : Int) != (l1.length : Int)) = false := bne_eq_false_iff_eq.mpr (by omega)
    have HL := aM hlen
    clear hlen
    go_enter Try.func92, Try.ntmps92
    go_wp2
    clear hb1 hb2 hb3 hb4
    go_loopg [17] l0.length (fun gg s8 wr => ∃ kk : Nat, s8 = .int .i64 kk ∧ Aside0 (kk ≤ l0.length) ∧ Aside0 (l0.length - kk ≤ gg) ∧ Aside0 (Below w.heap.size w wr) ∧ Aside0 (∀ i, i < kk → q (l0.getD i ([] : List S30)) (l1.getD i ([] : List S30)) = true))
    case atStart => exact ⟨0, rfl, ⟨Nat.zero_le _⟩, ⟨by omega⟩, ⟨Below.refl _ w⟩, ⟨fun i hi => absurd hi (Nat.not_lt_zero _)⟩⟩
    case round =>
      obtain ⟨kk, rfl, HK, HG, HB, HP⟩ := hrel
      by_cases hlt : kk < l0.length
      · obtain ⟨ad, A2, c2, e, hx0, hl2, hi2⟩ := at_L13 HR0.out kk (by omega) (by omega)
        obtain ⟨ad', B2, d2, e', gx0, gl2, gi2⟩ := at_L13 HR1.out kk (by omega) (by have := HL.out; omega)
        cases e
        cases e'
        have hy0 := pw_cell_below HB.out hx0
        have gy0 := pw_cell_below HB.out gx0
        simp only [Int.toNat_natCast] at hy0 gy0
        have hcall0 := fun (W_ : World) (hb_ : Below w.heap.size w W_) => HPP.out W_ (rd_L13 l0 (kk : Int)) A2 c2 (rd_L13 l1 (kk : Int)) B2 d2 hb_ (by show l0.getD (kk : Int).toNat ([] : List S30) ∈ l0; rw [Int.toNat_natCast]; exact getD_mem hlt) (by show l1.getD (kk : Int).toNat ([] : List S30) ∈ l1; rw [Int.toNat_natCast]; exact getD_mem (by have := HL.out; omega)) hl2 (Kd.C_below hi2 hb_) gl2 (Kd.C_below gi2 hb_)
        clear hx0 gx0 hl2 hi2 gl2 gi2
        have hlb : decide (kk < l0.length) = true := decide_eq_true hlt
        have hli : decide ((kk : Int) < (l0.length : Int)) = true := decide_eq_true (by omega)
        have hlt1 : kk < l1.length := by have := HL.out; omega
        have hlb1 : decide (kk < l1.length) = true := decide_eq_true hlt1
        have hli1 : decide ((kk : Int) < (l1.length : Int)) = true := decide_eq_true (by have := HL.out; omega)
        have hq2 : q (rd_L13 l0 (kk : Int)) (rd_L13 l1 (kk : Int)) = q (l0.getD kk ([] : List S30)) (l1.getD kk ([] : List S30)) := by show q (l0.getD (kk : Int).toNat ([] : List S30)) (l1.getD (kk : Int).toNat ([] : List S30)) = _; rw [Int.toNat_natCast]
        simp only [hq2] at hcall0
        have HCL := aM hcall0
        clear hq2 hcall0
        cases hq : q (l0.getD kk ([] : List S30)) (l1.getD kk ([] : List S30)) with
        | false =>
          have hcall := HCL.out
          simp only [hq] at hcall
          have HC2 := aM hcall
          clear hcall
          have HQ := aM hq
          clear hq
          go_wp2_with (go_at_call 93; refine (HC2.out _ ?hbf).mono ?_; (case hbf => repeat (first | exact HB.out | apply bA)); rintro e w' ⟨rfl, hb'⟩)
          go_ret
          refine ⟨?_, below_then (by repeat (first | exact HB.out | apply bA)) (below_size (by repeat (first | exact HB.out | apply bA))) hb'⟩
          rw [all2_false _ ([] : List S30) ([] : List S30) l0 l1 kk hlt (by have := HL.out; omega) HQ.out]
          rfl
        | true =>
          have hcall := HCL.out
          simp only [hq] at hcall
          have HC2 := aM hcall
          clear hcall
          have HQ := aM hq
          clear hq
          go_wp2_with (go_at_call 93; refine (HC2.out _ ?hbt).mono ?_; (case hbt => repeat (first | exact HB.out | apply bA)); rintro e w' ⟨rfl, hb'⟩)
          go_roundg (l0.length - (kk + 1))
          case measure => have := HG.out; omega
          case rel =>
            refine ⟨kk + 1, by go_num, ⟨by omega⟩, ⟨Nat.le_refl _⟩, ⟨below_then (by repeat (first | exact HB.out | apply bA)) (below_size (by repeat (first | exact HB.out | apply bA))) hb'⟩, ⟨fun i hi => ?_⟩⟩
            by_cases e : i = kk
            · subst e
              exact HQ.out
            · exact HP.out i (by omega)
      · have hlb : decide (kk < l0.length) = false := decide_eq_false hlt
        have hli : decide ((kk : Int) < (l0.length : Int)) = false := decide_eq_false (by omega)
        go_wp2
        go_ret
        refine ⟨?_, HB.out⟩
        rw [all2_true _ ([] : List S30) ([] : List S30) l0 l1 HL.out (fun i hi => HP.out i (by have := HK.out; omega))]
        rfl
  · have hb1 : (l0.length == l1.length) = false := beq_eq_false_iff_ne.mpr hlen
    have hb2 : ((l0.length : Int) == (l1.length : Int)) = false := beq_eq_false_iff_ne.mpr (by omega)
    have hb3 : (l0.length != l1.length) = true := bne_iff_ne.mpr hlen
    have hb4 : ((l0.length : Int) != (l1.length : Int)) = true := bne_iff_ne.mpr (by omega)
    go_enter Try.func92, Try.ntmps92
    go_wp2
    go_ret
    rw [all2_len q l0 l1 hlen]
    exact ⟨rfl, Below.refl _ w⟩
theorem eqA38 (d : Nat) (w : World) (x0 y0 : Int) (x1 y1 : Int) (x2 y2 : ByteArray) :
    (Op.equalIn (d + 2) 38 (.agg #[.int .i64 x0, .int .i64 x1, .string x2]) (.agg #[.int .i64 y0, .int .i64 y1, .string y2])).run Try.prog w = .ok (x0 == y0 && (x1 == y1 && (x2.toList == y2.toList))) w := by
  refine eqA_of Try.underlying38 (by kernel_rfl) ?_
  refine eqf_cons (by rfl) (by go_simp; rfl) (by go_simp; rfl) (by go_simp) ?_
  refine eqf_cons (by rfl) (by go_simp; rfl) (by go_simp; rfl) (by go_simp) ?_
  exact eqf_last (by rfl) (by go_simp; rfl) (by go_simp; rfl) (by go_simp)
attribute [local go_sem high] eqA38
def slices_Equal_simpl_Ins_impl_Ins.l0 : Nat → List (S38) → List (S38) → Int → Int → Option (Bool)
  | 0, _, _, _, _ => none
  | k + 1, x0, x1, x12, x13 => if x13 < x12 then (if 0 ≤ x13 then (if x13 < (x0.length : Int) then (if x13 < (x1.length : Int) then (if (!(((rd_T38 x0 x13).f0) == ((rd_T38 x1 x13).f0)) || (!(((rd_T38 x0 x13).f1) == ((rd_T38 x1 x13).f1)) || (!((((rd_T38 x0 x13).f2).toList) == (((rd_T38 x1 x13).f2).toList))))) = true then (some false) else (slices_Equal_simpl_Ins_impl_Ins.l0 k x0 x1 x12 (wrap64 (x13 + 1)))) else (none)) else (none)) else (none)) else (some true)
def slices_Equal_simpl_Ins_impl_Ins.f (k : Nat) (l0 : List (S38)) (l1 : List (S38)) : Option (Bool) := if (l0.length : Int) = (l1.length : Int) then (slices_Equal_simpl_Ins_impl_Ins.l0 k l0 l1 (l0.length : Int) 0) else (some false)
set_option maxHeartbeats 8000000 in
set_option maxRecDepth 100000 in
theorem slices_Equal_simpl_Ins_impl_Ins.calls (k : Nat) (A0 : Option Addr) (c0 : Nat) (l0 : List (S38)) (A1 : Option Addr) (c1 : Nat) (l1 : List (S38)) (r : Bool) (w : World) (hr0 : Kd.C k38 w A0 l0.length l0) (hc0 : l0.length ≤ c0) (hr1 : Kd.C k38 w A1 l1.length l1) (hc1 : l1.length ≤ c1) (h : slices_Equal_simpl_Ins_impl_Ins.f k l0 l1 = some r) :
    Calls Try.prog 74 #[.slice A0 l0.length c0, .slice A1 l1.length c1] w fun e w' => e = .returned (.bool r) ∧ Drawn0 w w' := by
 have hu38 := Try.underlying38
 have HR0 := aM hr0; have HC0 := aM hc0; clear hr0 hc0; have HR1 := aM hr1; have HC1 := aM hc1; clear hr1 hc1
 have H : (if (l0.length : Int) = (l1.length : Int) then (slices_Equal_simpl_Ins_impl_Ins.l0 k l0 l1 (l0.length : Int) 0) else (some false)) = some r := h
 clear h
 by_cases c3 : (l0.length : Int) = (l1.length : Int)
 · rw [if_pos c3] at H
   have c3b0 : ((l0.length : Int) == (l1.length : Int)) = true := beq_iff_eq.mpr c3
   have c3b1 : ((l0.length : Int) != (l1.length : Int)) = false := bne_eq_false_iff_eq.mpr c3
   have c3b2 : (l0.length == l1.length) = true := by first | simpa using c3 | (simp at c3 ⊢; omega)
   clear c3
   have H' := aM H
   clear H
   go_enter Try.func74, Try.ntmps74
   go_wp2
   repeat (go_quiet (fail); try go_wp2)
   go_loopg [13] k (fun kq v13 w' => ∃ (x13_1 : Int), v13 = .int .i64 x13_1 ∧ Aside0 (slices_Equal_simpl_Ins_impl_Ins.l0 kq l0 l1 (l0.length : Int) x13_1 = some r) ∧ Aside0 (kq ≤ k) ∧ Drawn0 w w')
   case atStart => exact ⟨(0), (by first | rfl | (simp; done) | (simp [*]; done)), H', ⟨Nat.le_refl _⟩, by repeat (first | exact Drawn0.refl _ | apply Drawn0.step)⟩
   clear H'
   try clear c1; try clear p2; try clear c3; try clear c3b0; try clear c3b1; try clear c3b2
   obtain ⟨x13_1, rfl, HA, HK1, ⟨m1, rfl⟩⟩ := hrel
   obtain _ | k1 := gk
   · exact absurd HA.out (by simp [slices_Equal_simpl_Ins_impl_Ins.l0])
   have H := HA.out
   clear HA
   simp only [slices_Equal_simpl_Ins_impl_Ins.l0] at H
   by_cases c4 : x13_1 < (l0.length : Int)
   · rw [if_pos c4] at H
     have c4b0 : decide (x13_1 < (l0.length : Int)) = true := decide_eq_true c4
     clear c4
     by_cases c5 : 0 ≤ x13_1
     · rw [if_pos c5] at H
       have c5b0 : decide (0 ≤ x13_1) = true := decide_eq_true c5
       clear c5
       by_cases c6 : x13_1 < (l0.length : Int)
       · rw [if_pos c6] at H
         have c6b0 : decide (x13_1 < (l0.length : Int)) = true := decide_eq_true c6
         clear c6
         by_cases c7 : x13_1 < (l1.length : Int)
         · rw [if_pos c7] at H
           have c7b0 : decide (x13_1 < (l1.length : Int)) = true := decide_eq_true c7
           clear c7
           by_cases c8 : (!(((rd_T38 l0 x13_1).f0) == ((rd_T38 l1 x13_1).f0)) || (!(((rd_T38 l0 x13_1).f1) == ((rd_T38 l1 x13_1).f1)) || (!((((rd_T38 l0 x13_1).f2).toList) == (((rd_T38 l1 x13_1).f2).toList))))) = true
           · rw [if_pos c8] at H
             have c8b0 : (!(((rd_T38 l0 x13_1).f0) == ((rd_T38 l1 x13_1).f0)) || (!(((rd_T38 l0 x13_1).f1) == ((rd_T38 l1 x13_1).f1)) || (!((((rd_T38 l0 x13_1).f2).toList) == (((rd_T38 l1 x13_1).f2).toList))))) = true := c8
             clear c8
             obtain rfl := Option.some.inj H
             have p380 : 0 ≤ (x13_1 : Int) := oD (by first | with_reducible assumption | assumption)
             have q380 : x13_1 < (l0.length : Int) := oD (by first | with_reducible assumption | assumption)
             obtain ⟨ad380, e380, hx380_0, hx380_1, hx380_2⟩ := at_T38 HR0.out x13_1 p380 q380
             cases e380
             replace p380 := eq_true p380; replace q380 := eq_true q380
             have p381 : 0 ≤ (x13_1 : Int) := oD (by first | with_reducible assumption | assumption)
             have q381 : x13_1 < (l1.length : Int) := oD (by first | with_reducible assumption | assumption)
             obtain ⟨ad381, e381, hx381_0, hx381_1, hx381_2⟩ := at_T38 HR1.out x13_1 p381 q381
             cases e381
             replace p381 := eq_true p381; replace q381 := eq_true q381
             go_wp2
             repeat (go_quiet (fail); try go_wp2)
             go_ret
             exact ⟨by first | rfl | (simp; done) | (simp [*]; done), by repeat (first | exact Drawn0.refl _ | apply Drawn0.step)⟩
           rw [if_neg c8] at H
           have c8b0 : (!(((rd_T38 l0 x13_1).f0) == ((rd_T38 l1 x13_1).f0)) || (!(((rd_T38 l0 x13_1).f1) == ((rd_T38 l1 x13_1).f1)) || (!((((rd_T38 l0 x13_1).f2).toList) == (((rd_T38 l1 x13_1).f2).toList))))) = false := by simpa using c8
           clear c8
           have H' := aM H
           clear H
           have p380 : 0 ≤ (x13_1 : Int) := oD (by first | with_reducible assumption | assumption)
           have q380 : x13_1 < (l0.length : Int) := oD (by first | with_reducible assumption | assumption)
           obtain ⟨ad380, e380, hx380_0, hx380_1, hx380_2⟩ := at_T38 HR0.out x13_1 p380 q380
           cases e380
           replace p380 := eq_true p380; replace q380 := eq_true q380
           have p381 : 0 ≤ (x13_1 : Int) := oD (by first | with_reducible assumption | assumption)
           have q381 : x13_1 < (l1.length : Int) := oD (by first | with_reducible assumption | assumption)
           obtain ⟨ad381, e381, hx381_0, hx381_1, hx381_2⟩ := at_T38 HR1.out x13_1 p381 q381
           cases e381
           replace p381 := eq_true p381; replace q381 := eq_true q381
           go_wp2
           repeat (go_quiet (fail); try go_wp2)
           go_roundg k1
           case measure => have := HK1.out; omega
           case rel => exact ⟨(wrap64 (x13_1 + 1)), (by first | rfl | (simp; done) | (simp [*]; done)), H', ⟨by have := HK1.out; omega⟩, by repeat (first | exact Drawn0.refl _ | apply Drawn0.step)⟩
         rw [if_neg c7] at H
         exact absurd H (by simp)
       rw [if_neg c6] at H
       exact absurd H (by simp)
     rw [if_neg c5] at H
     exact absurd H (by simp)
   rw [if_neg c4] at H
   have c4b0 : decide (x13_1 < (l0.length : Int)) = false := decide_eq_false c4
   clear c4
   obtain rfl := Option.some.inj H
   go_wp2
   repeat (go_quiet (fail); try go_wp2)
   go_ret
   exact ⟨by first | rfl | (simp; done) | (simp [*]; done), by repeat (first | exact Drawn0.refl _ | apply Drawn0.step)⟩
 rw [if_neg c3] at H
 have c3b0 : ((l0.length : Int) == (l1.length : Int)) = false := beq_eq_false_iff_ne.mpr c3
 have c3b1 : ((l0.length : Int) != (l1.length : Int)) = true := bne_iff_ne.mpr c3
 have c3b2 : (l0.length == l1.length) = false := by first | simpa using c3 | (simp at c3 ⊢; omega)
 obtain rfl := Option.some.inj H
 go_enter Try.func74, Try.ntmps74
 go_wp2
 repeat (go_quiet (fail); try go_wp2)
 go_ret
 exact ⟨by first | rfl | (simp; done) | (simp [*]; done), by repeat (first | exact Drawn0.refl _ | apply Drawn0.step)⟩
def impl_FunSame.f (k : Nat) (a0_0 : ByteArray) (a0_1 : Bool) (l0_2 : List (S38)) (a1_0 : ByteArray) (a1_1 : Bool) (l1_2 : List (S38)) : Option (Bool) := if a0_0.toList = a1_0.toList then (if (a0_1 == a1_1) = true then ((slices_Equal_simpl_Ins_impl_Ins.f k l0_2 l1_2).bind fun t384 => (some t384)) else (some false)) else (some false)
set_option maxHeartbeats 8000000 in
set_option maxRecDepth 100000 in
theorem impl_FunSame.calls (k : Nat) (a0_0 : ByteArray) (a0_1 : Bool) (A0_2 : Option Addr) (c0_2 : Nat) (l0_2 : List (S38)) (a1_0 : ByteArray) (a1_1 : Bool) (A1_2 : Option Addr) (c1_2 : Nat) (l1_2 : List (S38)) (r : Bool) (w : World) (hr0_2 : Kd.C k38 w A0_2 l0_2.length l0_2) (hc0_2 : l0_2.length ≤ c0_2) (hr1_2 : Kd.C k38 w A1_2 l1_2.length l1_2) (hc1_2 : l1_2.length ≤ c1_2) (h : impl_FunSame.f k a0_0 a0_1 l0_2 a1_0 a1_1 l1_2 = some r) :
    Calls Try.prog 26 #[.agg #[.string a0_0, .bool a0_1, .slice A0_2 l0_2.length c0_2], .agg #[.string a1_0, .bool a1_1, .slice A1_2 l1_2.length c1_2]] w fun e w' => e = .returned (.bool r) ∧ Below w.heap.size w w' := by
 have hu30 := Try.underlying30
 have HR0_2 := aM hr0_2; have HC0_2 := aM hc0_2; clear hr0_2 hc0_2; have HR1_2 := aM hr1_2; have HC1_2 := aM hc1_2; clear hr1_2 hc1_2
 have HB := aM (Below.refl w.heap.size w)
 have H : (if a0_0.toList = a1_0.toList then (if (a0_1 == a1_1) = true then ((slices_Equal_simpl_Ins_impl_Ins.f k l0_2 l1_2).bind fun t384 => (some t384)) else (some false)) else (some false)) = some r := h
 clear h
 by_cases c3 : a0_0.toList = a1_0.toList
 · rw [if_pos c3] at H
   have c3b0 : (a0_0.toList == a1_0.toList) = true := beq_iff_eq.mpr c3
   have c3b1 : (a0_0.toList != a1_0.toList) = false := bne_eq_false_iff_eq.mpr c3
   clear c3
   by_cases c4 : (a0_1 == a1_1) = true
   · rw [if_pos c4] at H
     have c4b0 : (a0_1 == a1_1) = true := c4
     (try (have c4b1 : decide (a0_1 = a1_1) = true := by simpa using c4))
     (try (have c4b2 : (a0_1 == a1_1) = true := by simpa using c4))
     clear c4
     replace H := Option.bind_eq_some_iff.mp H
     obtain ⟨t384, A50, H⟩ := H
     replace H : (some t384) = some r := H
     have A5 := aM A50; clear A50
     obtain rfl := Option.some.inj H
     go_enter Try.func26, Try.ntmps26
     go_wp2_with (first | ((with_reducible refine gate_dst (N := 2) rfl ?_); refine box_event ?hg (N := 2) ?hd (cs := #[.string a0_0, .bool a0_1, .slice A0_2 l0_2.length c0_2]) (t := 30) ?hr ?_; (case hd => rfl); (case hg => rfl); (case hr => first | (go_simp; done) | (go_simp; rfl)); intro gb382 hg w6 hbox hb; have n0_ := aM (below_step (by repeat (with_reducible first | exact HB.out | apply bA | apply bN | apply bD)) hb); have n1_ := aM (hbox); have n2_ := aM ((by rw [hg]; exact (below_size (by repeat (with_reducible first | exact HB.out | apply bA | apply bN | apply bD))) : w.heap.size ≤ gb382)); have n3_ := aM ((by rw [hg]; exact (below_size (by repeat (with_reducible first | exact HB.out | apply bA | apply bN | apply bD))) : w.heap.size ≤ gb382)); clear HB; have HB := n0_; have BK382 := n1_; have GW382 := n2_; have GE382 := n3_; clear n0_ n1_ n2_ n3_ hb hbox hg) | ((with_reducible refine gate_dst (N := 3) rfl ?_); refine box_event ?hg (N := 3) ?hd (cs := #[.string a1_0, .bool a1_1, .slice A1_2 l1_2.length c1_2]) (t := 30) ?hr ?_; (case hd => rfl); (case hg => rfl); (case hr => first | (go_simp; done) | (go_simp; rfl)); intro gb383 hg w7 hbox hb; have n0_ := aM (blk_below (g := gb382) (o := .cells #[.string a0_0, .bool a0_1, .slice A0_2 l0_2.length c0_2] 30 (0, 0)) (by exact BK382.out) hb); have n1_ := aM (below_step (by repeat (with_reducible first | exact HB.out | apply bA | apply bN | apply bD | refine below_set ?_ GE382.out)) hb); have n2_ := aM (hbox); have n3_ := aM ((by rw [hg]; exact (below_size (by repeat (with_reducible first | exact HB.out | apply bA | apply bN | apply bD | refine below_set ?_ GE382.out))) : w.heap.size ≤ gb383)); have n4_ := aM ((by rw [hg]; exact (below_size (by repeat (with_reducible first | exact HB.out | apply bA | apply bN | apply bD | refine below_set ?_ GE382.out))) : w.heap.size ≤ gb383)); have n5_ := aM ((by rw [hg]; exact Nat.ne_of_lt (blk_lt (g := gb382) (o := .cells #[.string a0_0, .bool a0_1, .slice A0_2 l0_2.length c0_2] 30 (0, 0)) (by exact BK382.out)) : gb382 ≠ gb383)); have n6_ := aM ((by rw [hg]; exact Nat.ne_of_gt (blk_lt (g := gb382) (o := .cells #[.string a0_0, .bool a0_1, .slice A0_2 l0_2.length c0_2] 30 (0, 0)) (by exact BK382.out)) : gb383 ≠ gb382)); clear BK382 HB; have BK382 := n0_; have HB := n1_; have BK383 := n2_; have GW383 := n3_; have GE383 := n4_; have NB382_383 := n5_; have NB383_382 := n6_; clear n0_ n1_ n2_ n3_ n4_ n5_ n6_ hb hbox hg; have hnb8 := NB382_383.out; have hnc8 := NB383_382.out; have hcz9_0 : w7.cell? ⟨gb382, 0, none⟩ = some (.string a0_0) := (blk_cell BK382.out 0).trans rfl; have hcz9_1 : w7.cell? ⟨gb382, 1, none⟩ = some (.bool a0_1) := (blk_cell BK382.out 1).trans rfl; have hcz9_2 : w7.cell? ⟨gb382, 2, none⟩ = some (.slice A0_2 l0_2.length c0_2) := (blk_cell BK382.out 2).trans rfl; have hfz9_0 := blk_frozen BK382.out 0; have hfz9_1 := blk_frozen BK382.out 1; have hfz9_2 := blk_frozen BK382.out 2; have hcz10_0 : w7.cell? ⟨gb383, 0, none⟩ = some (.string a1_0) := (blk_cell BK383.out 0).trans rfl; have hcz10_1 : w7.cell? ⟨gb383, 1, none⟩ = some (.bool a1_1) := (blk_cell BK383.out 1).trans rfl; have hcz10_2 : w7.cell? ⟨gb383, 2, none⟩ = some (.slice A1_2 l1_2.length c1_2) := (blk_cell BK383.out 2).trans rfl; have hfz10_0 := blk_frozen BK383.out 0; have hfz10_1 := blk_frozen BK383.out 1; have hfz10_2 := blk_frozen BK383.out 2) | (go_at_call 74; (with_reducible refine (slices_Equal_simpl_Ins_impl_Ins.calls k _ _ l0_2 _ _ l1_2 t384 _ ?side1 ?side2 ?side3 ?side4 A5.out).mono ?_); (case side1 => repeat (first | exact (Kd.C_below HR0_2.out HB.out) | (with_reducible first | refine Ca ?_ _ | refine Cn ?_ _ | refine Cd ?_))); (case side2 => exact HC0_2.out); (case side3 => repeat (first | exact (Kd.C_below HR1_2.out HB.out) | (with_reducible first | refine Ca ?_ _ | refine Cn ?_ _ | refine Cd ?_))); (case side4 => exact HC1_2.out); rintro e w' ⟨rfl, ⟨nd, rfl⟩⟩))
     go_ret
     exact ⟨by first | rfl | (simp [*, errW_none, errW_some] <;> rfl), by repeat (with_reducible first | exact HB.out | apply bA | apply bN | apply bD | refine below_set ?_ GE382.out | refine below_set ?_ GE383.out)⟩
   rw [if_neg c4] at H
   have c4b0 : (a0_1 == a1_1) = false := by simpa using c4
   (try (have c4b1 : decide (a0_1 = a1_1) = false := by simpa using c4))
   (try (have c4b2 : (a0_1 == a1_1) = false := by simpa using c4))
   (try (have c4b3 : ¬ (a0_1 = a1_1) := by simpa using c4))
   clear c4
   obtain rfl := Option.some.inj H
   go_enter Try.func26, Try.ntmps26
   go_wp2_with (first | ((with_reducible refine gate_dst (N := 2) rfl ?_); refine box_event ?hg (N := 2) ?hd (cs := #[.string a0_0, .bool a0_1, .slice A0_2 l0_2.length c0_2]) (t := 30) ?hr ?_; (case hd => rfl); (case hg => rfl); (case hr => first | (go_simp; done) | (go_simp; rfl)); intro gb382 hg w11 hbox hb; have n0_ := aM (below_step (by repeat (with_reducible first | exact HB.out | apply bA | apply bN | apply bD)) hb); have n1_ := aM (hbox); have n2_ := aM ((by rw [hg]; exact (below_size (by repeat (with_reducible first | exact HB.out | apply bA | apply bN | apply bD))) : w.heap.size ≤ gb382)); have n3_ := aM ((by rw [hg]; exact (below_size (by repeat (with_reducible first | exact HB.out | apply bA | apply bN | apply bD))) : w.heap.size ≤ gb382)); clear HB; have HB := n0_; have BK382 := n1_; have GW382 := n2_; have GE382 := n3_; clear n0_ n1_ n2_ n3_ hb hbox hg) | ((with_reducible refine gate_dst (N := 3) rfl ?_); refine box_event ?hg (N := 3) ?hd (cs := #[.string a1_0, .bool a1_1, .slice A1_2 l1_2.length c1_2]) (t := 30) ?hr ?_; (case hd => rfl); (case hg => rfl); (case hr => first | (go_simp; done) | (go_simp; rfl)); intro gb383 hg w12 hbox hb; have n0_ := aM (blk_below (g := gb382) (o := .cells #[.string a0_0, .bool a0_1, .slice A0_2 l0_2.length c0_2] 30 (0, 0)) (by exact BK382.out) hb); have n1_ := aM (below_step (by repeat (with_reducible first | exact HB.out | apply bA | apply bN | apply bD | refine below_set ?_ GE382.out)) hb); have n2_ := aM (hbox); have n3_ := aM ((by rw [hg]; exact (below_size (by repeat (with_reducible first | exact HB.out | apply bA | apply bN | apply bD | refine below_set ?_ GE382.out))) : w.heap.size ≤ gb383)); have n4_ := aM ((by rw [hg]; exact (below_size (by repeat (with_reducible first | exact HB.out | apply bA | apply bN | apply bD | refine below_set ?_ GE382.out))) : w.heap.size ≤ gb383)); have n5_ := aM ((by rw [hg]; exact Nat.ne_of_lt (blk_lt (g := gb382) (o := .cells #[.string a0_0, .bool a0_1, .slice A0_2 l0_2.length c0_2] 30 (0, 0)) (by exact BK382.out)) : gb382 ≠ gb383)); have n6_ := aM ((by rw [hg]; exact Nat.ne_of_gt (blk_lt (g := gb382) (o := .cells #[.string a0_0, .bool a0_1, .slice A0_2 l0_2.length c0_2] 30 (0, 0)) (by exact BK382.out)) : gb383 ≠ gb382)); clear BK382 HB; have BK382 := n0_; have HB := n1_; have BK383 := n2_; have GW383 := n3_; have GE383 := n4_; have NB382_383 := n5_; have NB383_382 := n6_; clear n0_ n1_ n2_ n3_ n4_ n5_ n6_ hb hbox hg; have hnb13 := NB382_383.out; have hnc13 := NB383_382.out; have hcz14_0 : w12.cell? ⟨gb382, 0, none⟩ = some (.string a0_0) := (blk_cell BK382.out 0).trans rfl; have hcz14_1 : w12.cell? ⟨gb382, 1, none⟩ = some (.bool a0_1) := (blk_cell BK382.out 1).trans rfl; have hcz14_2 : w12.cell? ⟨gb382, 2, none⟩ = some (.slice A0_2 l0_2.length c0_2) := (blk_cell BK382.out 2).trans rfl; have hfz14_0 := blk_frozen BK382.out 0; have hfz14_1 := blk_frozen BK382.out 1; have hfz14_2 := blk_frozen BK382.out 2; have hcz15_0 : w12.cell? ⟨gb383, 0, none⟩ = some (.string a1_0) := (blk_cell BK383.out 0).trans rfl; have hcz15_1 : w12.cell? ⟨gb383, 1, none⟩ = some (.bool a1_1) := (blk_cell BK383.out 1).trans rfl; have hcz15_2 : w12.cell? ⟨gb383, 2, none⟩ = some (.slice A1_2 l1_2.length c1_2) := (blk_cell BK383.out 2).trans rfl; have hfz15_0 := blk_frozen BK383.out 0; have hfz15_1 := blk_frozen BK383.out 1; have hfz15_2 := blk_frozen BK383.out 2))
   go_ret
   exact ⟨by first | rfl | (simp [*, errW_none, errW_some] <;> rfl), by repeat (with_reducible first | exact HB.out | apply bA | apply bN | apply bD | refine below_set ?_ GE382.out | refine below_set ?_ GE383.out)⟩
 rw [if_neg c3] at H
 have c3b0 : (a0_0.toList == a1_0.toList) = false := beq_eq_false_iff_ne.mpr c3
 have c3b1 : (a0_0.toList != a1_0.toList) = true := bne_iff_ne.mpr c3
 obtain rfl := Option.some.inj H
 go_enter Try.func26, Try.ntmps26
 go_wp2_with (first | ((with_reducible refine gate_dst (N := 2) rfl ?_); refine box_event ?hg (N := 2) ?hd (cs := #[.string a0_0, .bool a0_1, .slice A0_2 l0_2.length c0_2]) (t := 30) ?hr ?_; (case hd => rfl); (case hg => rfl); (case hr => first | (go_simp; done) | (go_simp; rfl)); intro gb382 hg w16 hbox hb; have n0_ := aM (below_step (by repeat (with_reducible first | exact HB.out | apply bA | apply bN | apply bD)) hb); have n1_ := aM (hbox); have n2_ := aM ((by rw [hg]; exact (below_size (by repeat (with_reducible first | exact HB.out | apply bA | apply bN | apply bD))) : w.heap.size ≤ gb382)); have n3_ := aM ((by rw [hg]; exact (below_size (by repeat (with_reducible first | exact HB.out | apply bA | apply bN | apply bD))) : w.heap.size ≤ gb382)); clear HB; have HB := n0_; have BK382 := n1_; have GW382 := n2_; have GE382 := n3_; clear n0_ n1_ n2_ n3_ hb hbox hg) | ((with_reducible refine gate_dst (N := 3) rfl ?_); refine box_event ?hg (N := 3) ?hd (cs := #[.string a1_0, .bool a1_1, .slice A1_2 l1_2.length c1_2]) (t := 30) ?hr ?_; (case hd => rfl); (case hg => rfl); (case hr => first | (go_simp; done) | (go_simp; rfl)); intro gb383 hg w17 hbox hb; have n0_ := aM (blk_below (g := gb382) (o := .cells #[.string a0_0, .bool a0_1, .slice A0_2 l0_2.length c0_2] 30 (0, 0)) (by exact BK382.out) hb); have n1_ := aM (below_step (by repeat (with_reducible first | exact HB.out | apply bA | apply bN | apply bD | refine below_set ?_ GE382.out)) hb); have n2_ := aM (hbox); have n3_ := aM ((by rw [hg]; exact (below_size (by repeat (with_reducible first | exact HB.out | apply bA | apply bN | apply bD | refine below_set ?_ GE382.out))) : w.heap.size ≤ gb383)); have n4_ := aM ((by rw [hg]; exact (below_size (by repeat (with_reducible first | exact HB.out | apply bA | apply bN | apply bD | refine below_set ?_ GE382.out))) : w.heap.size ≤ gb383)); have n5_ := aM ((by rw [hg]; exact Nat.ne_of_lt (blk_lt (g := gb382) (o := .cells #[.string a0_0, .bool a0_1, .slice A0_2 l0_2.length c0_2] 30 (0, 0)) (by exact BK382.out)) : gb382 ≠ gb383)); have n6_ := aM ((by rw [hg]; exact Nat.ne_of_gt (blk_lt (g := gb382) (o := .cells #[.string a0_0, .bool a0_1, .slice A0_2 l0_2.length c0_2] 30 (0, 0)) (by exact BK382.out)) : gb383 ≠ gb382)); clear BK382 HB; have BK382 := n0_; have HB := n1_; have BK383 := n2_; have GW383 := n3_; have GE383 := n4_; have NB382_383 := n5_; have NB383_382 := n6_; clear n0_ n1_ n2_ n3_ n4_ n5_ n6_ hb hbox hg; have hnb18 := NB382_383.out; have hnc18 := NB383_382.out; have hcz19_0 : w17.cell? ⟨gb382, 0, none⟩ = some (.string a0_0) := (blk_cell BK382.out 0).trans rfl; have hcz19_1 : w17.cell? ⟨gb382, 1, none⟩ = some (.bool a0_1) := (blk_cell BK382.out 1).trans rfl; have hcz19_2 : w17.cell? ⟨gb382, 2, none⟩ = some (.slice A0_2 l0_2.length c0_2) := (blk_cell BK382.out 2).trans rfl; have hfz19_0 := blk_frozen BK382.out 0; have hfz19_1 := blk_frozen BK382.out 1; have hfz19_2 := blk_frozen BK382.out 2; have hcz20_0 : w17.cell? ⟨gb383, 0, none⟩ = some (.string a1_0) := (blk_cell BK383.out 0).trans rfl; have hcz20_1 : w17.cell? ⟨gb383, 1, none⟩ = some (.bool a1_1) := (blk_cell BK383.out 1).trans rfl; have hcz20_2 : w17.cell? ⟨gb383, 2, none⟩ = some (.slice A1_2 l1_2.length c1_2) := (blk_cell BK383.out 2).trans rfl; have hfz20_0 := blk_frozen BK383.out 0; have hfz20_1 := blk_frozen BK383.out 1; have hfz20_2 := blk_frozen BK383.out 2))
 go_ret
 exact ⟨by first | rfl | (simp [*, errW_none, errW_some] <;> rfl), by repeat (with_reducible first | exact HB.out | apply bA | apply bN | apply bD | refine below_set ?_ GE382.out | refine below_set ?_ GE383.out)⟩
def spec_l2Body.l0 : Nat → List (S38) → List (S38) → Int → Option (Bool)
  | 0, _, _, _ => none
  | k + 1, x0, x1, x5 => if x5 < (x0.length : Int) then (if 0 ≤ x5 then (if x5 < (x1.length : Int) then (if (!(((rd_T38 x0 x5).f0) == ((rd_T38 x1 x5).f0)) || (!(((rd_T38 x0 x5).f1) == ((rd_T38 x1 x5).f1)) || (!((((rd_T38 x0 x5).f2).toList) == (((rd_T38 x1 x5).f2).toList))))) = true then (some false) else (spec_l2Body.l0 k x0 x1 (wrap64 (x5 + 1)))) else (none)) else (none)) else (some true)
def spec_l2Body.f (k : Nat) (l0 : List (S38)) (l1 : List (S38)) : Option (Bool) := if (l0.length : Int) = (l1.length : Int) then (spec_l2Body.l0 k l0 l1 0) else (some false)
set_option maxHeartbeats 8000000 in
set_option maxRecDepth 100000 in
theorem spec_l2Body.calls (k : Nat) (A0 : Option Addr) (c0 : Nat) (l0 : List (S38)) (A1 : Option Addr) (c1 : Nat) (l1 : List (S38)) (r : Bool) (w : World) (hr0 : Kd.C k38 w A0 l0.length l0) (hc0 : l0.length ≤ c0) (hr1 : Kd.C k38 w A1 l1.length l1) (hc1 : l1.length ≤ c1) (h : spec_l2Body.f k l0 l1 = some r) :
    Calls Try.prog 75 #[.slice A0 l0.length c0, .slice A1 l1.length c1] w fun e w' => e = .returned (.bool r) ∧ Drawn0 w w' := by
 have hu38 := Try.underlying38
 have HR0 := aM hr0; have HC0 := aM hc0; clear hr0 hc0; have HR1 := aM hr1; have HC1 := aM hc1; clear hr1 hc1
 have H : (if (l0.length : Int) = (l1.length : Int) then (spec_l2Body.l0 k l0 l1 0) else (some false)) = some r := h
 clear h
 by_cases c3 : (l0.length : Int) = (l1.length : Int)
 · rw [if_pos c3] at H
   have c3b0 : ((l0.length : Int) == (l1.length : Int)) = true := beq_iff_eq.mpr c3
   have c3b1 : ((l0.length : Int) != (l1.length : Int)) = false := bne_eq_false_iff_eq.mpr c3
   have c3b2 : (l0.length == l1.length) = true := by first | simpa using c3 | (simp at c3 ⊢; omega)
   clear c3
   have H' := aM H
   clear H
   go_enter Try.func75, Try.ntmps75
   go_wp2
   repeat (go_quiet (fail); try go_wp2)
   go_loopg [5] k (fun kq v5 w' => ∃ (x5_1 : Int), v5 = .int .i64 x5_1 ∧ Aside0 (spec_l2Body.l0 kq l0 l1 x5_1 = some r) ∧ Aside0 (kq ≤ k) ∧ Drawn0 w w')
   case atStart => exact ⟨(0), (by first | rfl | (simp; done) | (simp [*]; done)), H', ⟨Nat.le_refl _⟩, by repeat (first | exact Drawn0.refl _ | apply Drawn0.step)⟩
   clear H'
   try clear c1; try clear p2; try clear c3; try clear c3b0; try clear c3b1; try clear c3b2
   obtain ⟨x5_1, rfl, HA, HK1, ⟨m1, rfl⟩⟩ := hrel
   obtain _ | k1 := gk
   · exact absurd HA.out (by simp [spec_l2Body.l0])
   have H := HA.out
   clear HA
   simp only [spec_l2Body.l0] at H
   by_cases c4 : x5_1 < (l0.length : Int)
   · rw [if_pos c4] at H
     have c4b0 : decide (x5_1 < (l0.length : Int)) = true := decide_eq_true c4
     clear c4
     by_cases c5 : 0 ≤ x5_1
     · rw [if_pos c5] at H
       have c5b0 : decide (0 ≤ x5_1) = true := decide_eq_true c5
       clear c5
       by_cases c6 : x5_1 < (l1.length : Int)
       · rw [if_pos c6] at H
         have c6b0 : decide (x5_1 < (l1.length : Int)) = true := decide_eq_true c6
         clear c6
         by_cases c7 : (!(((rd_T38 l0 x5_1).f0) == ((rd_T38 l1 x5_1).f0)) || (!(((rd_T38 l0 x5_1).f1) == ((rd_T38 l1 x5_1).f1)) || (!((((rd_T38 l0 x5_1).f2).toList) == (((rd_T38 l1 x5_1).f2).toList))))) = true
         · rw [if_pos c7] at H
           have c7b0 : (!(((rd_T38 l0 x5_1).f0) == ((rd_T38 l1 x5_1).f0)) || (!(((rd_T38 l0 x5_1).f1) == ((rd_T38 l1 x5_1).f1)) || (!((((rd_T38 l0 x5_1).f2).toList) == (((rd_T38 l1 x5_1).f2).toList))))) = true := c7
           clear c7
           obtain rfl := Option.some.inj H
           have p385 : 0 ≤ (x5_1 : Int) := oD (by first | with_reducible assumption | assumption)
           have q385 : x5_1 < (l0.length : Int) := oD (by first | with_reducible assumption | assumption)
           obtain ⟨ad385, e385, hx385_0, hx385_1, hx385_2⟩ := at_T38 HR0.out x5_1 p385 q385
           cases e385
           replace p385 := eq_true p385; replace q385 := eq_true q385
           have p386 : 0 ≤ (x5_1 : Int) := oD (by first | with_reducible assumption | assumption)
           have q386 : x5_1 < (l1.length : Int) := oD (by first | with_reducible assumption | assumption)
           obtain ⟨ad386, e386, hx386_0, hx386_1, hx386_2⟩ := at_T38 HR1.out x5_1 p386 q386
           cases e386
           replace p386 := eq_true p386; replace q386 := eq_true q386
           go_wp2
           repeat (go_quiet (fail); try go_wp2)
           go_ret
           exact ⟨by first | rfl | (simp; done) | (simp [*]; done), by repeat (first | exact Drawn0.refl _ | apply Drawn0.step)⟩
         rw [if_neg c7] at H
         have c7b0 : (!(((rd_T38 l0 x5_1).f0) == ((rd_T38 l1 x5_1).f0)) || (!(((rd_T38 l0 x5_1).f1) == ((rd_T38 l1 x5_1).f1)) || (!((((rd_T38 l0 x5_1).f2).toList) == (((rd_T38 l1 x5_1).f2).toList))))) = false := by simpa using c7
         clear c7
         have H' := aM H
         clear H
         have p385 : 0 ≤ (x5_1 : Int) := oD (by first | with_reducible assumption | assumption)
         have q385 : x5_1 < (l0.length : Int) := oD (by first | with_reducible assumption | assumption)
         obtain ⟨ad385, e385, hx385_0, hx385_1, hx385_2⟩ := at_T38 HR0.out x5_1 p385 q385
         cases e385
         replace p385 := eq_true p385; replace q385 := eq_true q385
         have p386 : 0 ≤ (x5_1 : Int) := oD (by first | with_reducible assumption | assumption)
         have q386 : x5_1 < (l1.length : Int) := oD (by first | with_reducible assumption | assumption)
         obtain ⟨ad386, e386, hx386_0, hx386_1, hx386_2⟩ := at_T38 HR1.out x5_1 p386 q386
         cases e386
         replace p386 := eq_true p386; replace q386 := eq_true q386
         go_wp2
         repeat (go_quiet (fail); try go_wp2)
         go_roundg k1
         case measure => have := HK1.out; omega
         case rel => exact ⟨(wrap64 (x5_1 + 1)), (by first | rfl | (simp; done) | (simp [*]; done)), H', ⟨by have := HK1.out; omega⟩, by repeat (first | exact Drawn0.refl _ | apply Drawn0.step)⟩
       rw [if_neg c6] at H
       exact absurd H (by simp)
     rw [if_neg c5] at H
     exact absurd H (by simp)
   rw [if_neg c4] at H
   have c4b0 : decide (x5_1 < (l0.length : Int)) = false := decide_eq_false c4
   clear c4
   obtain rfl := Option.some.inj H
   go_wp2
   repeat (go_quiet (fail); try go_wp2)
   go_ret
   exact ⟨by first | rfl | (simp; done) | (simp [*]; done), by repeat (first | exact Drawn0.refl _ | apply Drawn0.step)⟩
 rw [if_neg c3] at H
 have c3b0 : ((l0.length : Int) == (l1.length : Int)) = false := beq_eq_false_iff_ne.mpr c3
 have c3b1 : ((l0.length : Int) != (l1.length : Int)) = true := bne_iff_ne.mpr c3
 have c3b2 : (l0.length == l1.length) = false := by first | simpa using c3 | (simp at c3 ⊢; omega)
 obtain rfl := Option.some.inj H
 go_enter Try.func75, Try.ntmps75
 go_wp2
 repeat (go_quiet (fail); try go_wp2)
 go_ret
 exact ⟨by first | rfl | (simp; done) | (simp [*]; done), by repeat (first | exact Drawn0.refl _ | apply Drawn0.step)⟩
def spec_FunSame.f (k : Nat) (a0_0 : ByteArray) (a0_1 : Bool) (l0_2 : List (S38)) (a1_0 : ByteArray) (a1_1 : Bool) (l1_2 : List (S38)) : Option (Bool) := if a0_0.toList = a1_0.toList then (if (a0_1 == a1_1) = true then ((spec_l2Body.f k l0_2 l1_2).bind fun t389 => (some t389)) else (some false)) else (some false)
set_option maxHeartbeats 8000000 in
set_option maxRecDepth 100000 in
theorem spec_FunSame.calls (k : Nat) (a0_0 : ByteArray) (a0_1 : Bool) (A0_2 : Option Addr) (c0_2 : Nat) (l0_2 : List (S38)) (a1_0 : ByteArray) (a1_1 : Bool) (A1_2 : Option Addr) (c1_2 : Nat) (l1_2 : List (S38)) (r : Bool) (w : World) (hr0_2 : Kd.C k38 w A0_2 l0_2.length l0_2) (hc0_2 : l0_2.length ≤ c0_2) (hr1_2 : Kd.C k38 w A1_2 l1_2.length l1_2) (hc1_2 : l1_2.length ≤ c1_2) (h : spec_FunSame.f k a0_0 a0_1 l0_2 a1_0 a1_1 l1_2 = some r) :
    Calls Try.prog 27 #[.agg #[.string a0_0, .bool a0_1, .slice A0_2 l0_2.length c0_2], .agg #[.string a1_0, .bool a1_1, .slice A1_2 l1_2.length c1_2]] w fun e w' => e = .returned (.bool r) ∧ Below w.heap.size w w' := by
 have hu30 := Try.underlying30
 have HR0_2 := aM hr0_2; have HC0_2 := aM hc0_2; clear hr0_2 hc0_2; have HR1_2 := aM hr1_2; have HC1_2 := aM hc1_2; clear hr1_2 hc1_2
 have HB := aM (Below.refl w.heap.size w)
 have H : (if a0_0.toList = a1_0.toList then (if (a0_1 == a1_1) = true then ((spec_l2Body.f k l0_2 l1_2).bind fun t389 => (some t389)) else (some false)) else (some false)) = some r := h
 clear h
 by_cases c3 : a0_0.toList = a1_0.toList
 · rw [if_pos c3] at H
   have c3b0 : (a0_0.toList == a1_0.toList) = true := beq_iff_eq.mpr c3
   have c3b1 : (a0_0.toList != a1_0.toList) = false := bne_eq_false_iff_eq.mpr c3
   clear c3
   by_cases c4 : (a0_1 == a1_1) = true
   · rw [if_pos c4] at H
     have c4b0 : (a0_1 == a1_1) = true := c4
     (try (have c4b1 : decide (a0_1 = a1_1) = true := by simpa using c4))
     (try (have c4b2 : (a0_1 == a1_1) = true := by simpa using c4))
     clear c4
     replace H := Option.bind_eq_some_iff.mp H
     obtain ⟨t389, A50, H⟩ := H
     replace H : (some t389) = some r := H
     have A5 := aM A50; clear A50
     obtain rfl := Option.some.inj H
     go_enter Try.func27, Try.ntmps27
     go_wp2_with (first | ((with_reducible refine gate_dst (N := 2) rfl ?_); refine box_event ?hg (N := 2) ?hd (cs := #[.string a0_0, .bool a0_1, .slice A0_2 l0_2.length c0_2]) (t := 30) ?hr ?_; (case hd => rfl); (case hg => rfl); (case hr => first | (go_simp; done) | (go_simp; rfl)); intro gb387 hg w6 hbox hb; have n0_ := aM (below_step (by repeat (with_reducible first | exact HB.out | apply bA | apply bN | apply bD)) hb); have n1_ := aM (hbox); have n2_ := aM ((by rw [hg]; exact (below_size (by repeat (with_reducible first | exact HB.out | apply bA | apply bN | apply bD))) : w.heap.size ≤ gb387)); have n3_ := aM ((by rw [hg]; exact (below_size (by repeat (with_reducible first | exact HB.out | apply bA | apply bN | apply bD))) : w.heap.size ≤ gb387)); clear HB; have HB := n0_; have BK387 := n1_; have GW387 := n2_; have GE387 := n3_; clear n0_ n1_ n2_ n3_ hb hbox hg) | ((with_reducible refine gate_dst (N := 3) rfl ?_); refine box_event ?hg (N := 3) ?hd (cs := #[.string a1_0, .bool a1_1, .slice A1_2 l1_2.length c1_2]) (t := 30) ?hr ?_; (case hd => rfl); (case hg => rfl); (case hr => first | (go_simp; done) | (go_simp; rfl)); intro gb388 hg w7 hbox hb; have n0_ := aM (blk_below (g := gb387) (o := .cells #[.string a0_0, .bool a0_1, .slice A0_2 l0_2.length c0_2] 30 (0, 0)) (by exact BK387.out) hb); have n1_ := aM (below_step (by repeat (with_reducible first | exact HB.out | apply bA | apply bN | apply bD | refine below_set ?_ GE387.out)) hb); have n2_ := aM (hbox); have n3_ := aM ((by rw [hg]; exact (below_size (by repeat (with_reducible first | exact HB.out | apply bA | apply bN | apply bD | refine below_set ?_ GE387.out))) : w.heap.size ≤ gb388)); have n4_ := aM ((by rw [hg]; exact (below_size (by repeat (with_reducible first | exact HB.out | apply bA | apply bN | apply bD | refine below_set ?_ GE387.out))) : w.heap.size ≤ gb388)); have n5_ := aM ((by rw [hg]; exact Nat.ne_of_lt (blk_lt (g := gb387) (o := .cells #[.string a0_0, .bool a0_1, .slice A0_2 l0_2.length c0_2] 30 (0, 0)) (by exact BK387.out)) : gb387 ≠ gb388)); have n6_ := aM ((by rw [hg]; exact Nat.ne_of_gt (blk_lt (g := gb387) (o := .cells #[.string a0_0, .bool a0_1, .slice A0_2 l0_2.length c0_2] 30 (0, 0)) (by exact BK387.out)) : gb388 ≠ gb387)); clear BK387 HB; have BK387 := n0_; have HB := n1_; have BK388 := n2_; have GW388 := n3_; have GE388 := n4_; have NB387_388 := n5_; have NB388_387 := n6_; clear n0_ n1_ n2_ n3_ n4_ n5_ n6_ hb hbox hg; have hnb8 := NB387_388.out; have hnc8 := NB388_387.out; have hcz9_0 : w7.cell? ⟨gb387, 0, none⟩ = some (.string a0_0) := (blk_cell BK387.out 0).trans rfl; have hcz9_1 : w7.cell? ⟨gb387, 1, none⟩ = some (.bool a0_1) := (blk_cell BK387.out 1).trans rfl; have hcz9_2 : w7.cell? ⟨gb387, 2, none⟩ = some (.slice A0_2 l0_2.length c0_2) := (blk_cell BK387.out 2).trans rfl; have hfz9_0 := blk_frozen BK387.out 0; have hfz9_1 := blk_frozen BK387.out 1; have hfz9_2 := blk_frozen BK387.out 2; have hcz10_0 : w7.cell? ⟨gb388, 0, none⟩ = some (.string a1_0) := (blk_cell BK388.out 0).trans rfl; have hcz10_1 : w7.cell? ⟨gb388, 1, none⟩ = some (.bool a1_1) := (blk_cell BK388.out 1).trans rfl; have hcz10_2 : w7.cell? ⟨gb388, 2, none⟩ = some (.slice A1_2 l1_2.length c1_2) := (blk_cell BK388.out 2).trans rfl; have hfz10_0 := blk_frozen BK388.out 0; have hfz10_1 := blk_frozen BK388.out 1; have hfz10_2 := blk_frozen BK388.out 2) | (go_at_call 75; (with_reducible refine (spec_l2Body.calls k _ _ l0_2 _ _ l1_2 t389 _ ?side1 ?side2 ?side3 ?side4 A5.out).mono ?_); (case side1 => repeat (first | exact (Kd.C_below HR0_2.out HB.out) | (with_reducible first | refine Ca ?_ _ | refine Cn ?_ _ | refine Cd ?_))); (case side2 => exact HC0_2.out); (case side3 => repeat (first | exact (Kd.C_below HR1_2.out HB.out) | (with_reducible first | refine Ca ?_ _ | refine Cn ?_ _ | refine Cd ?_))); (case side4 => exact HC1_2.out); rintro e w' ⟨rfl, ⟨nd, rfl⟩⟩))
     go_ret
     exact ⟨by first | rfl | (simp [*, errW_none, errW_some] <;> rfl), by repeat (with_reducible first | exact HB.out | apply bA | apply bN | apply bD | refine below_set ?_ GE387.out | refine below_set ?_ GE388.out)⟩
   rw [if_neg c4] at H
   have c4b0 : (a0_1 == a1_1) = false := by simpa using c4
   (try (have c4b1 : decide (a0_1 = a1_1) = false := by simpa using c4))
   (try (have c4b2 : (a0_1 == a1_1) = false := by simpa using c4))
   (try (have c4b3 : ¬ (a0_1 = a1_1) := by simpa using c4))
   clear c4
   obtain rfl := Option.some.inj H
   go_enter Try.func27, Try.ntmps27
   go_wp2_with (first | ((with_reducible refine gate_dst (N := 2) rfl ?_); refine box_event ?hg (N := 2) ?hd (cs := #[.string a0_0, .bool a0_1, .slice A0_2 l0_2.length c0_2]) (t := 30) ?hr ?_; (case hd => rfl); (case hg => rfl); (case hr => first | (go_simp; done) | (go_simp; rfl)); intro gb387 hg w11 hbox hb; have n0_ := aM (below_step (by repeat (with_reducible first | exact HB.out | apply bA | apply bN | apply bD)) hb); have n1_ := aM (hbox); have n2_ := aM ((by rw [hg]; exact (below_size (by repeat (with_reducible first | exact HB.out | apply bA | apply bN | apply bD))) : w.heap.size ≤ gb387)); have n3_ := aM ((by rw [hg]; exact (below_size (by repeat (with_reducible first | exact HB.out | apply bA | apply bN | apply bD))) : w.heap.size ≤ gb387)); clear HB; have HB := n0_; have BK387 := n1_; have GW387 := n2_; have GE387 := n3_; clear n0_ n1_ n2_ n3_ hb hbox hg) | ((with_reducible refine gate_dst (N := 3) rfl ?_); refine box_event ?hg (N := 3) ?hd (cs := #[.string a1_0, .bool a1_1, .slice A1_2 l1_2.length c1_2]) (t := 30) ?hr ?_; (case hd => rfl); (case hg => rfl); (case hr => first | (go_simp; done) | (go_simp; rfl)); intro gb388 hg w12 hbox hb; have n0_ := aM (blk_below (g := gb387) (o := .cells #[.string a0_0, .bool a0_1, .slice A0_2 l0_2.length c0_2] 30 (0, 0)) (by exact BK387.out) hb); have n1_ := aM (below_step (by repeat (with_reducible first | exact HB.out | apply bA | apply bN | apply bD | refine below_set ?_ GE387.out)) hb); have n2_ := aM (hbox); have n3_ := aM ((by rw [hg]; exact (below_size (by repeat (with_reducible first | exact HB.out | apply bA | apply bN | apply bD | refine below_set ?_ GE387.out))) : w.heap.size ≤ gb388)); have n4_ := aM ((by rw [hg]; exact (below_size (by repeat (with_reducible first | exact HB.out | apply bA | apply bN | apply bD | refine below_set ?_ GE387.out))) : w.heap.size ≤ gb388)); have n5_ := aM ((by rw [hg]; exact Nat.ne_of_lt (blk_lt (g := gb387) (o := .cells #[.string a0_0, .bool a0_1, .slice A0_2 l0_2.length c0_2] 30 (0, 0)) (by exact BK387.out)) : gb387 ≠ gb388)); have n6_ := aM ((by rw [hg]; exact Nat.ne_of_gt (blk_lt (g := gb387) (o := .cells #[.string a0_0, .bool a0_1, .slice A0_2 l0_2.length c0_2] 30 (0, 0)) (by exact BK387.out)) : gb388 ≠ gb387)); clear BK387 HB; have BK387 := n0_; have HB := n1_; have BK388 := n2_; have GW388 := n3_; have GE388 := n4_; have NB387_388 := n5_; have NB388_387 := n6_; clear n0_ n1_ n2_ n3_ n4_ n5_ n6_ hb hbox hg; have hnb13 := NB387_388.out; have hnc13 := NB388_387.out; have hcz14_0 : w12.cell? ⟨gb387, 0, none⟩ = some (.string a0_0) := (blk_cell BK387.out 0).trans rfl; have hcz14_1 : w12.cell? ⟨gb387, 1, none⟩ = some (.bool a0_1) := (blk_cell BK387.out 1).trans rfl; have hcz14_2 : w12.cell? ⟨gb387, 2, none⟩ = some (.slice A0_2 l0_2.length c0_2) := (blk_cell BK387.out 2).trans rfl; have hfz14_0 := blk_frozen BK387.out 0; have hfz14_1 := blk_frozen BK387.out 1; have hfz14_2 := blk_frozen BK387.out 2; have hcz15_0 : w12.cell? ⟨gb388, 0, none⟩ = some (.string a1_0) := (blk_cell BK388.out 0).trans rfl; have hcz15_1 : w12.cell? ⟨gb388, 1, none⟩ = some (.bool a1_1) := (blk_cell BK388.out 1).trans rfl; have hcz15_2 : w12.cell? ⟨gb388, 2, none⟩ = some (.slice A1_2 l1_2.length c1_2) := (blk_cell BK388.out 2).trans rfl; have hfz15_0 := blk_frozen BK388.out 0; have hfz15_1 := blk_frozen BK388.out 1; have hfz15_2 := blk_frozen BK388.out 2))
   go_ret
   exact ⟨by first | rfl | (simp [*, errW_none, errW_some] <;> rfl), by repeat (with_reducible first | exact HB.out | apply bA | apply bN | apply bD | refine below_set ?_ GE387.out | refine below_set ?_ GE388.out)⟩
 rw [if_neg c3] at H
 have c3b0 : (a0_0.toList == a1_0.toList) = false := beq_eq_false_iff_ne.mpr c3
 have c3b1 : (a0_0.toList != a1_0.toList) = true := bne_iff_ne.mpr c3
 obtain rfl := Option.some.inj H
 go_enter Try.func27, Try.ntmps27
 go_wp2_with (first | ((with_reducible refine gate_dst (N := 2) rfl ?_); refine box_event ?hg (N := 2) ?hd (cs := #[.string a0_0, .bool a0_1, .slice A0_2 l0_2.length c0_2]) (t := 30) ?hr ?_; (case hd => rfl); (case hg => rfl); (case hr => first | (go_simp; done) | (go_simp; rfl)); intro gb387 hg w16 hbox hb; have n0_ := aM (below_step (by repeat (with_reducible first | exact HB.out | apply bA | apply bN | apply bD)) hb); have n1_ := aM (hbox); have n2_ := aM ((by rw [hg]; exact (below_size (by repeat (with_reducible first | exact HB.out | apply bA | apply bN | apply bD))) : w.heap.size ≤ gb387)); have n3_ := aM ((by rw [hg]; exact (below_size (by repeat (with_reducible first | exact HB.out | apply bA | apply bN | apply bD))) : w.heap.size ≤ gb387)); clear HB; have HB := n0_; have BK387 := n1_; have GW387 := n2_; have GE387 := n3_; clear n0_ n1_ n2_ n3_ hb hbox hg) | ((with_reducible refine gate_dst (N := 3) rfl ?_); refine box_event ?hg (N := 3) ?hd (cs := #[.string a1_0, .bool a1_1, .slice A1_2 l1_2.length c1_2]) (t := 30) ?hr ?_; (case hd => rfl); (case hg => rfl); (case hr => first | (go_simp; done) | (go_simp; rfl)); intro gb388 hg w17 hbox hb; have n0_ := aM (blk_below (g := gb387) (o := .cells #[.string a0_0, .bool a0_1, .slice A0_2 l0_2.length c0_2] 30 (0, 0)) (by exact BK387.out) hb); have n1_ := aM (below_step (by repeat (with_reducible first | exact HB.out | apply bA | apply bN | apply bD | refine below_set ?_ GE387.out)) hb); have n2_ := aM (hbox); have n3_ := aM ((by rw [hg]; exact (below_size (by repeat (with_reducible first | exact HB.out | apply bA | apply bN | apply bD | refine below_set ?_ GE387.out))) : w.heap.size ≤ gb388)); have n4_ := aM ((by rw [hg]; exact (below_size (by repeat (with_reducible first | exact HB.out | apply bA | apply bN | apply bD | refine below_set ?_ GE387.out))) : w.heap.size ≤ gb388)); have n5_ := aM ((by rw [hg]; exact Nat.ne_of_lt (blk_lt (g := gb387) (o := .cells #[.string a0_0, .bool a0_1, .slice A0_2 l0_2.length c0_2] 30 (0, 0)) (by exact BK387.out)) : gb387 ≠ gb388)); have n6_ := aM ((by rw [hg]; exact Nat.ne_of_gt (blk_lt (g := gb387) (o := .cells #[.string a0_0, .bool a0_1, .slice A0_2 l0_2.length c0_2] 30 (0, 0)) (by exact BK387.out)) : gb388 ≠ gb387)); clear BK387 HB; have BK387 := n0_; have HB := n1_; have BK388 := n2_; have GW388 := n3_; have GE388 := n4_; have NB387_388 := n5_; have NB388_387 := n6_; clear n0_ n1_ n2_ n3_ n4_ n5_ n6_ hb hbox hg; have hnb18 := NB387_388.out; have hnc18 := NB388_387.out; have hcz19_0 : w17.cell? ⟨gb387, 0, none⟩ = some (.string a0_0) := (blk_cell BK387.out 0).trans rfl; have hcz19_1 : w17.cell? ⟨gb387, 1, none⟩ = some (.bool a0_1) := (blk_cell BK387.out 1).trans rfl; have hcz19_2 : w17.cell? ⟨gb387, 2, none⟩ = some (.slice A0_2 l0_2.length c0_2) := (blk_cell BK387.out 2).trans rfl; have hfz19_0 := blk_frozen BK387.out 0; have hfz19_1 := blk_frozen BK387.out 1; have hfz19_2 := blk_frozen BK387.out 2; have hcz20_0 : w17.cell? ⟨gb388, 0, none⟩ = some (.string a1_0) := (blk_cell BK388.out 0).trans rfl; have hcz20_1 : w17.cell? ⟨gb388, 1, none⟩ = some (.bool a1_1) := (blk_cell BK388.out 1).trans rfl; have hcz20_2 : w17.cell? ⟨gb388, 2, none⟩ = some (.slice A1_2 l1_2.length c1_2) := (blk_cell BK388.out 2).trans rfl; have hfz20_0 := blk_frozen BK388.out 0; have hfz20_1 := blk_frozen BK388.out 1; have hfz20_2 := blk_frozen BK388.out 2))
 go_ret
 exact ⟨by first | rfl | (simp [*, errW_none, errW_some] <;> rfl), by repeat (with_reducible first | exact HB.out | apply bA | apply bN | apply bD | refine below_set ?_ GE387.out | refine below_set ?_ GE388.out)⟩
open Go.Proofs.Ytpckkkcaffhhnaa.L in
set_option maxHeartbeats 4000000 in
set_option maxRecDepth 100000 in
theorem eqfFun_calls (A0 : Option Addr) (c0 : Nat) (l0 : List S30) (A1 : Option Addr) (c1 : Nat) (l1 : List S30) (q : S30 → S30 → Bool) (w : World) (hr0 : Kd.C k30 w A0 l0.length l0) (hc0 : l0.length ≤ c0) (hr1 : Kd.C k30 w A1 l1.length l1) (hc1 : l1.length ≤ c1)
    (hp : ∀ (W : World) (x : S30) (A2 : Option Addr) (c2 : Nat) (y : S30) (B2 : Option Addr) (d2 : Nat), Below w.heap.size w W → x ∈ l0 → y ∈ l1 → x.f2.length ≤ c2 → Kd.C k38 W A2 x.f2.length x.f2 → y.f2.length ≤ d2 → Kd.C k38 W B2 y.f2.length y.f2 → Calls Try.prog 26 #[.agg #[.string x.f0, .bool x.f1, .slice A2 x.f2.length c2], .agg #[.string y.f0, .bool y.f1, .slice B2 y.f2.length d2]] W fun e w' => e = .returned (.bool (q x y)) ∧ Below W.heap.size W w') :
    Calls Try.prog 128 #[.slice A0 l0.length c0, .slice A1 l1.length c1, .func (.func 26) #[] #[]] w fun e w' => e = .returned (.bool (all2 q l0 l1)) ∧ Below w.heap.size w w' := by
  have HR0 := aM hr0
  have HR1 := aM hr1
  have HN : l0.length ≤ 9223372036854775807 := hr0.2.1
  have HPP := aM hp
  clear hr0 hr1 hp
  by_cases hlen : l0.length = l1.length
  · have hb1 : (l0.length == l1.length) = true := beq_iff_eq.mpr hlen
    have hb2 : ((l0.length : Int) == (l1.length : Int)) = true := beq_iff_eq.mpr (by omega)
    have hb3 : (l0.length != l1.length) = false := bne_eq_false_iff_eq.mpr hlen
    have hb4 : ((l0.length : Int) != (l1.length : Int)) = false := bne_eq_false_iff_eq.mpr (by omega)
    have HL := aM hlen
    clear hlen
    go_enter Try.func128, Try.ntmps128
    go_wp2
    clear hb1 hb2 hb3 hb4
    go_loopg [17] l0.length (fun gg s8 wr => ∃ kk : Nat, s8 = .int .i64 kk ∧ Aside0 (kk ≤ l0.length) ∧ Aside0 (l0.length - kk ≤ gg) ∧ Aside0 (Below w.heap.size w wr) ∧ Aside0 (∀ i, i < kk → q (l0.getD i z30) (l1.getD i z30) = true))
    case atStart => exact ⟨0, rfl, ⟨Nat.zero_le _⟩, ⟨by omega⟩, ⟨Below.refl _ w⟩, ⟨fun i hi => absurd hi (Nat.not_lt_zero _)⟩⟩
    case round =>
      obtain ⟨kk, rfl, HK, HG, HB, HP⟩ := hrel
      by_cases hlt : kk < l0.length
      · obtain ⟨ad, A2, c2, e, hx0, hx1, hx2, hl2, hi2⟩ := at_T30 HR0.out kk (by omega) (by omega)
        obtain ⟨ad', B2, d2, e', gx0, gx1, gx2, gl2, gi2⟩ := at_T30 HR1.out kk (by omega) (by have := HL.out; omega)
        cases e
        cases e'
        have hy0 := pw_cell_below HB.out hx0
        have gy0 := pw_cell_below HB.out gx0
        have hy1 := pw_cell_below HB.out hx1
        have gy1 := pw_cell_below HB.out gx1
        have hy2 := pw_cell_below HB.out hx2
        have gy2 := pw_cell_below HB.out gx2
        simp only [Int.toNat_natCast] at hy0 gy0 hy1 gy1 hy2 gy2
        have hcall0 := fun (W_ : World) (hb_ : Below w.heap.size w W_) => HPP.out W_ (rd_T30 l0 (kk : Int)) A2 c2 (rd_T30 l1 (kk : Int)) B2 d2 hb_ (by show l0.getD (kk : Int).toNat z30 ∈ l0; rw [Int.toNat_natCast]; exact getD_mem hlt) (by show l1.getD (kk : Int).toNat z30 ∈ l1; rw [Int.toNat_natCast]; exact getD_mem (by have := HL.out; omega)) hl2 (Kd.C_below hi2 hb_) gl2 (Kd.C_below gi2 hb_)
        clear hx0 gx0 hx1 gx1 hx2 gx2 hl2 hi2 gl2 gi2
        have hlb : decide (kk < l0.length) = true := decide_eq_true hlt
        have hli : decide ((kk : Int) < (l0.length : Int)) = true := decide_eq_true (by omega)
        have hlt1 : kk < l1.length := by have := HL.out; omega
        have hlb1 : decide (kk < l1.length) = true := decide_eq_true hlt1
        have hk0 := World.block_lt_of_cell? wr _ gy0
        have hk1 := World.block_lt_of_cell? wr _ gy1
        have hk2 := World.block_lt_of_cell? wr _ gy2
        have hli1 : decide ((kk : Int) < (l1.length : Int)) = true := decide_eq_true (by have := HL.out; omega)
        have hq2 : q (rd_T30 l0 (kk : Int)) (rd_T30 l1 (kk : Int)) = q (l0.getD kk z30) (l1.getD kk z30) := by show q (l0.getD (kk : Int).toNat z30) (l1.getD (kk : Int).toNat z30) = _; rw [Int.toNat_natCast]
        simp only [hq2] at hcall0
        have HCL := aM hcall0
        clear hq2 hcall0
        cases hq : q (l0.getD kk z30) (l1.getD kk z30) with
        | false =>
          have hcall := HCL.out
          simp only [hq] at hcall
          have HC2 := aM hcall
          clear hcall
          have HQ := aM hq
          clear hq
          go_wp2_with (go_at_call 26; refine (HC2.out _ ?hbf).mono ?_; (case hbf => repeat (first | exact HB.out | apply bA)); rintro e w' ⟨rfl, hb'⟩)
          go_ret
          refine ⟨?_, below_then (by repeat (first | exact HB.out | apply bA)) (below_size (by repeat (first | exact HB.out | apply bA))) hb'⟩
          rw [all2_false _ z30 z30 l0 l1 kk hlt (by have := HL.out; omega) HQ.out]
          rfl
        | true =>
          have hcall := HCL.out
          simp only [hq] at hcall
          have HC2 := aM hcall
          clear hcall
          have HQ := aM hq
          clear hq
          go_wp2_with (go_at_call 26; refine (HC2.out _ ?hbt).mono ?_; (case hbt => repeat (first | exact HB.out | apply bA)); rintro e w' ⟨rfl, hb'⟩)
          go_roundg (l0.length - (kk + 1))
          case measure => have := HG.out; omega
          case rel =>
            refine ⟨kk + 1, by go_num, ⟨by omega⟩, ⟨Nat.le_refl _⟩, ⟨below_then (by repeat (first | exact HB.out | apply bA)) (below_size (by repeat (first | exact HB.out | apply bA))) hb'⟩, ⟨fun i hi => ?_⟩⟩
            by_cases e : i = kk
            · subst e
              exact HQ.out
            · exact HP.out i (by omega)
      · have hlb : decide (kk < l0.length) = false := decide_eq_false hlt
        have hli : decide ((kk : Int) < (l0.length : Int)) = false := decide_eq_false (by omega)
        go_wp2
        go_ret
        refine ⟨?_, HB.out⟩
        rw [all2_true _ z30 z30 l0 l1 HL.out (fun i hi => HP.out i (by have := HK.out; omega))]
        rfl
  · have hb1 : (l0.length == l1.length) = false := beq_eq_false_iff_ne.mpr hlen
    have hb2 : ((l0.length : Int) == (l1.length : Int)) = false := beq_eq_false_iff_ne.mpr (by omega)
    have hb3 : (l0.length != l1.length) = true := bne_iff_ne.mpr hlen
    have hb4 : ((l0.length : Int) != (l1.length : Int)) = true := bne_iff_ne.mpr (by omega)
    go_enter Try.func128, Try.ntmps128
    go_wp2
    go_ret
    rw [all2_len q l0 l1 hlen]
    exact ⟨rfl, Below.refl _ w⟩
end Go.Proofs.Ytpckkkcaffhhnaa.P
