-- Pxspecl2Find, LUnit, LUText, PximplUnitTextT, PxlawseqIns: put together by squash.py
import Derived.Test.YtajhjdhkeahlpaaDoorSqFnExactUnitText3
import Derived.Test.YtajhjdhkeahlpaaDoorSqFnExactUnitText4
import Derived.Test.YtajhjdhkeahlpaaDoorSqFnExactUnitText5

-- made by printx.py (own driver over the kit's print); Lean checks it
namespace Go.Proofs.YtajhjdhkeahlpaaDoor.P
open Go.RowKit Go.Proofs.YtajhjdhkeahlpaaDoorW.PrintWords Go.Proofs.YtajhjdhkeahlpaaDoorW.PrintLast Go.Proofs.YtajhjdhkeahlpaaDoorW.PrintMore
attribute [local go_sem] max2_int min2_int max_two min_two max_three min_three max_four min_four   -- for this text's walks alone
set_option linter.unusedVariables false
set_option linter.unusedSimpArgs false

/-! ### spec_l2Find: function 49 -/
def spec_l2Find.l0 : Nat → List (S41) → ByteArray → Int → Option (Int)
  | 0, _, _, _ => none
  | k + 1, x0, x1, x5 => if x5 < (x0.length : Int) then (if 0 ≤ x5 then (if ((rd_T41 x0 x5).f0).toList = x1.toList then (some x5) else (spec_l2Find.l0 k x0 x1 (wrap64 (x5 + 1)))) else (none)) else (some (-1))
def spec_l2Find.f (k : Nat) (l0 : List (S41)) (a1 : ByteArray) : Option (Int) := spec_l2Find.l0 k l0 a1 0
set_option maxHeartbeats 8000000 in
set_option maxRecDepth 100000 in
theorem spec_l2Find.calls (k : Nat) (A0 : Option Addr) (c0 : Nat) (l0 : List (S41)) (a1 : ByteArray) (r : Int) (w : World) (hr0 : Kd.C k41 w A0 l0.length l0) (hc0 : l0.length ≤ c0) (h : spec_l2Find.f k l0 a1 = some r) :
    Calls Tryd.prog 49 #[.slice A0 l0.length c0, .string a1] w fun e w' => e = .returned (.int .i64 r) ∧ Drawn0 w w' := by
 have HR0 := Aside0.mk hr0; have HC0 := Aside0.mk hc0; clear hr0 hc0
 have H : (spec_l2Find.l0 k l0 a1 0) = some r := h
 clear h
 have H' := Aside0.mk H
 clear H
 go_enter Tryd.func49, Tryd.ntmps49
 go_wp2
 go_loopg [5] k (fun kq v5 w' => ∃ (x5_1 : Int), v5 = .int .i64 x5_1 ∧ Aside0 (spec_l2Find.l0 kq l0 a1 x5_1 = some r) ∧ Aside0 (kq ≤ k) ∧ Drawn0 w w')
 case atStart => exact ⟨(0), (by first | rfl | (simp; done) | (simp [*]; done)), H', ⟨Nat.le_refl _⟩, by repeat (first | exact Drawn0.refl _ | apply Drawn0.step)⟩
 clear H'
 try clear p2
 obtain ⟨x5_1, rfl, HA, HK1, ⟨m1, rfl⟩⟩ := hrel
 obtain _ | k1 := gk
 · exact absurd HA.out (by simp [spec_l2Find.l0])
 have H := HA.out
 clear HA
 simp only [spec_l2Find.l0] at H
 by_cases c3 : x5_1 < (l0.length : Int)
 · rw [if_pos c3] at H
   have c3b0 : decide (x5_1 < (l0.length : Int)) = true := decide_eq_true c3
   clear c3
   by_cases c4 : 0 ≤ x5_1
   · rw [if_pos c4] at H
     have c4b0 : decide (0 ≤ x5_1) = true := decide_eq_true c4
     clear c4
     by_cases c5 : ((rd_T41 l0 x5_1).f0).toList = a1.toList
     · rw [if_pos c5] at H
       have c5b0 : (((rd_T41 l0 x5_1).f0).toList == a1.toList) = true := beq_iff_eq.mpr c5
       have c5b1 : (((rd_T41 l0 x5_1).f0).toList != a1.toList) = false := bne_eq_false_iff_eq.mpr c5
       clear c5
       obtain rfl := Option.some.inj H
       have p260 : 0 ≤ (x5_1 : Int) := of_decide_eq_true (by first | (with_reducible assumption) | assumption)
       have q260 : x5_1 < (l0.length : Int) := of_decide_eq_true (by first | (with_reducible assumption) | assumption)
       obtain ⟨ad260, A260_2, c260_2, e260, hx260_0, hx260_1, hx260_2, hl260_2, hi260_2⟩ := at_T41 HR0.out x5_1 p260 q260
       cases e260
       have HR260_2 := Aside0.mk hi260_2; have HC260_2 := Aside0.mk hl260_2; clear hi260_2 hl260_2; replace p260 := eq_true p260; replace q260 := eq_true q260
       go_wp2
       go_ret
       exact ⟨by first | rfl | (simp; done) | (simp [*]; done), by repeat (first | exact Drawn0.refl _ | apply Drawn0.step)⟩
     rw [if_neg c5] at H
     have c5b0 : (((rd_T41 l0 x5_1).f0).toList == a1.toList) = false := beq_eq_false_iff_ne.mpr c5
     have c5b1 : (((rd_T41 l0 x5_1).f0).toList != a1.toList) = true := bne_iff_ne.mpr c5
     have H' := Aside0.mk H
     clear H
     have p260 : 0 ≤ (x5_1 : Int) := of_decide_eq_true (by first | (with_reducible assumption) | assumption)
     have q260 : x5_1 < (l0.length : Int) := of_decide_eq_true (by first | (with_reducible assumption) | assumption)
     obtain ⟨ad260, A260_2, c260_2, e260, hx260_0, hx260_1, hx260_2, hl260_2, hi260_2⟩ := at_T41 HR0.out x5_1 p260 q260
     cases e260
     have HR260_2 := Aside0.mk hi260_2; have HC260_2 := Aside0.mk hl260_2; clear hi260_2 hl260_2; replace p260 := eq_true p260; replace q260 := eq_true q260
     go_wp2
     go_roundg k1
     case measure => have := HK1.out; omega
     case rel => exact ⟨(wrap64 (x5_1 + 1)), (by first | rfl | (simp; done) | (simp [*]; done)), H', ⟨by have := HK1.out; omega⟩, by repeat (first | exact Drawn0.refl _ | apply Drawn0.step)⟩
   rw [if_neg c4] at H
   exact absurd H (by simp)
 rw [if_neg c3] at H
 have c3b0 : decide (x5_1 < (l0.length : Int)) = false := decide_eq_false c3
 clear c3
 obtain rfl := Option.some.inj H
 go_wp2
 go_ret
 exact ⟨by first | rfl | (simp; done) | (simp [*]; done), by repeat (first | exact Drawn0.refl _ | apply Drawn0.step)⟩

/-! ### spec_FunOk: function 48 -/
mutual
def spec_FunOk.j0 : Nat → Int → Bool → ByteArray → Bool → List (S26) → Option (Bool)
  | 0, _, _, _, _, _ => none
  | k + 1, x3, x29, x320000, x320001, x320002 => if x29 = true then (some false) else (spec_FunOk.l0 k x3 0 x320000 x320001 x320002)
def spec_FunOk.l0 : Nat → Int → Int → ByteArray → Bool → List (S26) → Option (Bool)
  | 0, _, _, _, _, _ => none
  | k + 1, x3, x4, x320000, x320001, x320002 => if x4 < x3 then (if 0 ≤ x4 then (if x4 < (x320002.length : Int) then ((spec_InsOk.f k ((rd_T26 x320002 x4).f0) ((rd_T26 x320002 x4).f1) ((rd_T26 x320002 x4).f2)).bind fun t324 => (if t324 = true then (spec_FunOk.l0 k x3 (wrap64 (x4 + 1)) x320000 x320001 x320002) else (some false))) else (none)) else (none)) else (some true)
end
def spec_FunOk.f (k : Nat) (a0_0 : ByteArray) (a0_1 : Bool) (l0_2 : List (S26)) : Option (Bool) := (spec_NameOk.f k a0_0).bind fun t320 => (if t320 = true then (if (l0_2.length : Int) < 1 then (spec_FunOk.j0 k (l0_2.length : Int) true a0_0 a0_1 l0_2) else (if (l0_2.length : Int) > 10 then (spec_FunOk.j0 k (l0_2.length : Int) true a0_0 a0_1 l0_2) else (if 0 ≤ (wrap64 ((l0_2.length : Int) - 1)) then (if (wrap64 ((l0_2.length : Int) - 1)) < (l0_2.length : Int) then ((spec_InsLast.f ((rd_T26 l0_2 (wrap64 ((l0_2.length : Int) - 1))).f0) ((rd_T26 l0_2 (wrap64 ((l0_2.length : Int) - 1))).f1) ((rd_T26 l0_2 (wrap64 ((l0_2.length : Int) - 1))).f2)).bind fun t322 => (spec_FunOk.j0 k (l0_2.length : Int) (!t322) a0_0 a0_1 l0_2)) else (none)) else (none)))) else (spec_FunOk.j0 k (l0_2.length : Int) true a0_0 a0_1 l0_2))
set_option maxHeartbeats 8000000 in
set_option maxRecDepth 100000 in
theorem spec_FunOk.calls (k : Nat) (a0_0 : ByteArray) (a0_1 : Bool) (A0_2 : Option Addr) (c0_2 : Nat) (l0_2 : List (S26)) (r : Bool) (w : World) (hr0_2 : Kd.C k26 w A0_2 l0_2.length l0_2) (hc0_2 : l0_2.length ≤ c0_2) (h : spec_FunOk.f k a0_0 a0_1 l0_2 = some r) :
    Calls Tryd.prog 48 #[.agg #[.string a0_0, .bool a0_1, .slice A0_2 l0_2.length c0_2]] w fun e w' => e = .returned (.bool r) ∧ Below w.heap.size w w' := by
 have hu41 := Tryd.underlying41
 have hu26 := Tryd.underlying26
 have HR0_2 := Aside0.mk hr0_2; have HC0_2 := Aside0.mk hc0_2; clear hr0_2 hc0_2
 have HB := Aside0.mk (Below.refl w.heap.size w)
 have H : ((spec_NameOk.f k a0_0).bind fun t320 => (if t320 = true then (if (l0_2.length : Int) < 1 then (spec_FunOk.j0 k (l0_2.length : Int) true a0_0 a0_1 l0_2) else (if (l0_2.length : Int) > 10 then (spec_FunOk.j0 k (l0_2.length : Int) true a0_0 a0_1 l0_2) else (if 0 ≤ (wrap64 ((l0_2.length : Int) - 1)) then (if (wrap64 ((l0_2.length : Int) - 1)) < (l0_2.length : Int) then ((spec_InsLast.f ((rd_T26 l0_2 (wrap64 ((l0_2.length : Int) - 1))).f0) ((rd_T26 l0_2 (wrap64 ((l0_2.length : Int) - 1))).f1) ((rd_T26 l0_2 (wrap64 ((l0_2.length : Int) - 1))).f2)).bind fun t322 => (spec_FunOk.j0 k (l0_2.length : Int) (!t322) a0_0 a0_1 l0_2)) else (none)) else (none)))) else (spec_FunOk.j0 k (l0_2.length : Int) true a0_0 a0_1 l0_2))) = some r := h
 clear h; have HC2 := Aside0.mk H; clear H
 go_enter Tryd.func48, Tryd.ntmps48
 go_upto_region 2 with (first | ((with_reducible refine gate_dst (N := 1) rfl ?_); refine box_event ?hg (N := 1) ?hd (cs := #[.string a0_0, .bool a0_1, .slice A0_2 l0_2.length c0_2]) (t := 41) ?hr ?_; (case hd => rfl); (case hg => rfl); (case hr => first | (go_simp; done) | (go_simp; rfl)); intro gb319 hg w3 hbox hb; have n0_ := Aside0.mk (below_step (by repeat (first | (with_reducible first | exact HB.out | apply below_alloc | apply pw_below_drewN | apply below_drew1) | exact HB.out)) hb); have n1_ := Aside0.mk (hbox); have n2_ := Aside0.mk ((by rw [hg]; exact (below_size (by repeat (first | (with_reducible first | exact HB.out | apply below_alloc | apply pw_below_drewN | apply below_drew1) | exact HB.out))) : w.heap.size ≤ gb319)); have n3_ := Aside0.mk ((by rw [hg]; exact (below_size (by repeat (first | (with_reducible first | exact HB.out | apply below_alloc | apply pw_below_drewN | apply below_drew1) | exact HB.out))) : w.heap.size ≤ gb319)); clear HB; have HB := n0_; have BK319 := n1_; have GW319 := n2_; have GE319 := n3_; clear n0_ n1_ n2_ n3_ hb hbox hg; have hcz4_0 : w3.cell? ⟨gb319, 0, none⟩ = some (.string a0_0) := (blk_cell BK319.out 0).trans rfl; have hcz4_1 : w3.cell? ⟨gb319, 1, none⟩ = some (.bool a0_1) := (blk_cell BK319.out 1).trans rfl; have hcz4_2 : w3.cell? ⟨gb319, 2, none⟩ = some (.slice A0_2 l0_2.length c0_2) := (blk_cell BK319.out 2).trans rfl; have hfz4_0 := blk_frozen BK319.out 0; have hfz4_1 := blk_frozen BK319.out 1; have hfz4_2 := blk_frozen BK319.out 2))
 (try simp only [Act.put, List.setIfInBounds_toArray, List.set_cons_zero, List.set_cons_succ])
 go_cut [29] (fun v29 wc => ∃ (kq : Nat) (x29_1 : Bool), v29 = .bool x29_1 ∧ Aside0 (spec_FunOk.j0 kq (l0_2.length : Int) x29_1 a0_0 a0_1 l0_2 = some r) ∧ Aside0 (kq ≤ k) ∧ Aside0 (wc.heap[gb319]? = some (.cells #[.string a0_0, .bool a0_1, (.slice A0_2 l0_2.length c0_2)] 41 (0, 0))) ∧ Aside0 (Below w.heap.size w wc))
 case first =>
  have H := HC2.out
  clear HC2
  replace H := Option.bind_eq_some_iff.mp H
  obtain ⟨t320, A50, H⟩ := H
  replace H : (if t320 = true then (if (l0_2.length : Int) < 1 then (spec_FunOk.j0 k (l0_2.length : Int) true a0_0 a0_1 l0_2) else (if (l0_2.length : Int) > 10 then (spec_FunOk.j0 k (l0_2.length : Int) true a0_0 a0_1 l0_2) else (if 0 ≤ (wrap64 ((l0_2.length : Int) - 1)) then (if (wrap64 ((l0_2.length : Int) - 1)) < (l0_2.length : Int) then ((spec_InsLast.f ((rd_T26 l0_2 (wrap64 ((l0_2.length : Int) - 1))).f0) ((rd_T26 l0_2 (wrap64 ((l0_2.length : Int) - 1))).f1) ((rd_T26 l0_2 (wrap64 ((l0_2.length : Int) - 1))).f2)).bind fun t322 => (spec_FunOk.j0 k (l0_2.length : Int) (!t322) a0_0 a0_1 l0_2)) else (none)) else (none)))) else (spec_FunOk.j0 k (l0_2.length : Int) true a0_0 a0_1 l0_2)) = some r := H
  have A5 := Aside0.mk A50; clear A50
  by_cases c6 : t320 = true
  · subst c6
    have H1 : (if (l0_2.length : Int) < 1 then (spec_FunOk.j0 k (l0_2.length : Int) true a0_0 a0_1 l0_2) else (if (l0_2.length : Int) > 10 then (spec_FunOk.j0 k (l0_2.length : Int) true a0_0 a0_1 l0_2) else (if 0 ≤ (wrap64 ((l0_2.length : Int) - 1)) then (if (wrap64 ((l0_2.length : Int) - 1)) < (l0_2.length : Int) then ((spec_InsLast.f ((rd_T26 l0_2 (wrap64 ((l0_2.length : Int) - 1))).f0) ((rd_T26 l0_2 (wrap64 ((l0_2.length : Int) - 1))).f1) ((rd_T26 l0_2 (wrap64 ((l0_2.length : Int) - 1))).f2)).bind fun t322 => (spec_FunOk.j0 k (l0_2.length : Int) (!t322) a0_0 a0_1 l0_2)) else (none)) else (none)))) = some r := by rw [if_pos rfl] at H; exact H
    clear H
    have H := H1
    clear H1
    by_cases c7 : (l0_2.length : Int) < 1
    · rw [if_pos c7] at H
      have c7b0 : decide ((l0_2.length : Int) < 1) = true := decide_eq_true c7
      have c7b1 : decide (l0_2.length < 1) = true := decide_eq_true (by omega)
      clear c7
      (first | rw [c7b0] | (simp only [i64_w, i32_w]; rw [c7b0]) | (have cn_ := c7b0; simp only [bne] at cn_; rw [cn_]; clear cn_) | skip)
      have H' := Aside0.mk H
      clear H
      have hcz8_0 : w3.cell? ⟨gb319, 0, none⟩ = some (.string a0_0) := (blk_cell BK319.out 0).trans rfl
      have hcz8_1 : w3.cell? ⟨gb319, 1, none⟩ = some (.bool a0_1) := (blk_cell BK319.out 1).trans rfl
      have hcz8_2 : w3.cell? ⟨gb319, 2, none⟩ = some (.slice A0_2 l0_2.length c0_2) := (blk_cell BK319.out 2).trans rfl
      have hfz8_0 := blk_frozen BK319.out 0
      have hfz8_1 := blk_frozen BK319.out 1
      have hfz8_2 := blk_frozen BK319.out 2
      go_wp2_with (first | ((with_reducible refine gate_callee (f := 22) rfl ?_); refine goesL_ (some 10) rfl rfl Tryd.func22 (by kernel_rfl) rfl #[.string a0_0] rfl (by (try simp only [List.map_toArray, List.map_cons, List.map_nil]); first | done | rfl | (simp only [List.length_drop, List.length_take]; rfl)) ?_; (with_reducible refine (spec_NameOk.calls k a0_0 true _ A5.out).mono ?_); rintro e w' ⟨rfl, ⟨nd, rfl⟩⟩; refine ⟨_, rfl, ?_⟩))
      go_meet
      case rel => exact ⟨_, (true), (by first | rfl | (simp; done) | (simp [*]; done)), H', ⟨by first | omega | exact Nat.le_refl _⟩, ⟨by (with_reducible repeat (first | refine blk_drewN ?_ _ | refine blk_drew ?_ | refine blk_alloc ?_ _)); exact BK319.out⟩, ⟨by repeat (first | (with_reducible first | exact HB.out | apply below_alloc | apply pw_below_drewN | apply below_drew1 | refine below_set ?_ GE319.out) | exact HB.out)⟩⟩
    rw [if_neg c7] at H
    have c7b0 : decide ((l0_2.length : Int) < 1) = false := decide_eq_false c7
    have c7b1 : decide (l0_2.length < 1) = false := decide_eq_false (by omega)
    clear c7
    (first | rw [c7b0] | (simp only [i64_w, i32_w]; rw [c7b0]) | (have cn_ := c7b0; simp only [bne] at cn_; rw [cn_]; clear cn_) | skip)
    by_cases c9 : (l0_2.length : Int) > 10
    · rw [if_pos c9] at H
      have c9b0 : decide (10 < (l0_2.length : Int)) = true := decide_eq_true c9
      have c9b1 : decide (10 < l0_2.length) = true := decide_eq_true (by omega)
      clear c9
      have H' := Aside0.mk H
      clear H
      have hcz10_0 : w3.cell? ⟨gb319, 0, none⟩ = some (.string a0_0) := (blk_cell BK319.out 0).trans rfl
      have hcz10_1 : w3.cell? ⟨gb319, 1, none⟩ = some (.bool a0_1) := (blk_cell BK319.out 1).trans rfl
      have hcz10_2 : w3.cell? ⟨gb319, 2, none⟩ = some (.slice A0_2 l0_2.length c0_2) := (blk_cell BK319.out 2).trans rfl
      have hfz10_0 := blk_frozen BK319.out 0
      have hfz10_1 := blk_frozen BK319.out 1
      have hfz10_2 := blk_frozen BK319.out 2
      go_wp2_with (first | ((with_reducible refine gate_callee (f := 22) rfl ?_); refine goesL_ (some 10) rfl rfl Tryd.func22 (by kernel_rfl) rfl #[.string a0_0] rfl (by (try simp only [List.map_toArray, List.map_cons, List.map_nil]); first | done | rfl | (simp only [List.length_drop, List.length_take]; rfl)) ?_; (with_reducible refine (spec_NameOk.calls k a0_0 true _ A5.out).mono ?_); rintro e w' ⟨rfl, ⟨nd, rfl⟩⟩; refine ⟨_, rfl, ?_⟩))
      go_meet
      case rel => exact ⟨_, (true), (by first | rfl | (simp; done) | (simp [*]; done)), H', ⟨by first | omega | exact Nat.le_refl _⟩, ⟨by (with_reducible repeat (first | refine blk_drewN ?_ _ | refine blk_drew ?_ | refine blk_alloc ?_ _)); exact BK319.out⟩, ⟨by repeat (first | (with_reducible first | exact HB.out | apply below_alloc | apply pw_below_drewN | apply below_drew1 | refine below_set ?_ GE319.out) | exact HB.out)⟩⟩
    rw [if_neg c9] at H
    have c9b0 : decide (10 < (l0_2.length : Int)) = false := decide_eq_false c9
    have c9b1 : decide (10 < l0_2.length) = false := decide_eq_false (by omega)
    clear c9
    obtain ⟨ji11, hji11⟩ : ∃ j_ : Int, (wrap64 ((l0_2.length : Int) - 1)) = j_ := ⟨_, rfl⟩
    replace H : (if 0 ≤ (ji11) then (if (ji11) < (l0_2.length : Int) then ((spec_InsLast.f ((rd_T26 l0_2 (ji11)).f0) ((rd_T26 l0_2 (ji11)).f1) ((rd_T26 l0_2 (ji11)).f2)).bind fun t322 => (spec_FunOk.j0 k (l0_2.length : Int) (!t322) a0_0 a0_1 l0_2)) else (none)) else (none)) = some r := by first | (rw [hji11] at H; exact H) | (simp only [hji11] at H ⊢; exact H)
    (try rw [hji11] at A5)
    have hji11w : (IntKind.i64.wrap ((l0_2.length : Int) - 1)) = ji11 := (i64_w _).trans hji11
    by_cases c12 : 0 ≤ (ji11)
    · rw [if_pos c12] at H
      have c12b0 : decide (0 ≤ (ji11)) = true := decide_eq_true c12
      clear c12
      by_cases c13 : (ji11) < (l0_2.length : Int)
      · rw [if_pos c13] at H
        have c13b0 : decide ((ji11) < (l0_2.length : Int)) = true := decide_eq_true c13
        clear c13
        replace H := Option.bind_eq_some_iff.mp H
        obtain ⟨t322, A140, H⟩ := H
        replace H : (spec_FunOk.j0 k (l0_2.length : Int) (!t322) a0_0 a0_1 l0_2) = some r := H
        have A14 := Aside0.mk A140; clear A140
        have H' := Aside0.mk H
        clear H
        have hcz15_0 : w3.cell? ⟨gb319, 0, none⟩ = some (.string a0_0) := (blk_cell BK319.out 0).trans rfl
        have hcz15_1 : w3.cell? ⟨gb319, 1, none⟩ = some (.bool a0_1) := (blk_cell BK319.out 1).trans rfl
        have hcz15_2 : w3.cell? ⟨gb319, 2, none⟩ = some (.slice A0_2 l0_2.length c0_2) := (blk_cell BK319.out 2).trans rfl
        have hfz15_0 := blk_frozen BK319.out 0
        have hfz15_1 := blk_frozen BK319.out 1
        have hfz15_2 := blk_frozen BK319.out 2
        go_wp2_with (first | ((with_reducible refine gate_callee (f := 22) rfl ?_); refine goesL_ (some 10) rfl rfl Tryd.func22 (by kernel_rfl) rfl #[.string a0_0] rfl (by (try simp only [List.map_toArray, List.map_cons, List.map_nil]); first | done | rfl | (simp only [List.length_drop, List.length_take]; rfl)) ?_; (with_reducible refine (spec_NameOk.calls k a0_0 true _ A5.out).mono ?_); rintro e w' ⟨rfl, ⟨nd, rfl⟩⟩; refine ⟨_, rfl, ?_⟩; have p321 : 0 ≤ ((ji11) : Int) := of_decide_eq_true (by first | (with_reducible assumption) | assumption); have q321 : (ji11) < (l0_2.length : Int) := of_decide_eq_true (by first | (with_reducible assumption) | assumption); obtain ⟨ad321, e321, hx321_0, hx321_1, hx321_2⟩ := at_T26 HR0_2.out (ji11) p321 q321; cases e321; replace hx321_0 := (HB.out.cell (World.block_lt_of_cell? w _ hx321_0)).trans hx321_0; replace hx321_1 := (HB.out.cell (World.block_lt_of_cell? w _ hx321_1)).trans hx321_1; replace hx321_2 := (HB.out.cell (World.block_lt_of_cell? w _ hx321_2)).trans hx321_2; replace p321 := eq_true p321; replace q321 := eq_true q321) | (go_at_call 20; (with_reducible refine (spec_InsLast.calls ((rd_T26 l0_2 (ji11)).f0) ((rd_T26 l0_2 (ji11)).f1) ((rd_T26 l0_2 (ji11)).f2) t322 _ A14.out).mono ?_); rintro e w16 ⟨rfl, hb⟩; have n0_ := Aside0.mk (blk_below (g := gb319) (o := .cells #[.string a0_0, .bool a0_1, .slice (some ad321) l0_2.length c0_2] 41 (0, 0)) (by (with_reducible repeat (first | refine blk_drewN ?_ _ | refine blk_drew ?_ | refine blk_alloc ?_ _)); exact BK319.out) hb); have n1_ := Aside0.mk (below_step (by repeat (first | (with_reducible first | exact HB.out | apply below_alloc | apply pw_below_drewN | apply below_drew1 | refine below_set ?_ GE319.out) | exact HB.out)) hb); clear BK319 HB; have BK319 := n0_; have HB := n1_; clear n0_ n1_; (try clear hb); (try clear hb2); (try clear hk); (try clear hi)))
        go_meet
        case rel => exact ⟨_, (!t322), (by first | rfl | (simp; done) | (simp [*]; done)), H', ⟨by first | omega | exact Nat.le_refl _⟩, ⟨by (with_reducible repeat (first | refine blk_drewN ?_ _ | refine blk_drew ?_ | refine blk_alloc ?_ _)); exact BK319.out⟩, ⟨by repeat (first | (with_reducible first | exact HB.out | apply below_alloc | apply pw_below_drewN | apply below_drew1 | refine below_set ?_ GE319.out) | exact HB.out)⟩⟩
      rw [if_neg c13] at H
      exact absurd H (by simp)
    rw [if_neg c12] at H
    exact absurd H (by simp)
  replace c6 := Bool.eq_false_iff.mpr c6
  subst c6
  have H1 : (spec_FunOk.j0 k (l0_2.length : Int) true a0_0 a0_1 l0_2) = some r := by rw [if_neg (show ¬ (false = true) by decide)] at H; exact H
  clear H
  have H := H1
  clear H1
  have H' := Aside0.mk H
  clear H
  have hcz17_0 : w3.cell? ⟨gb319, 0, none⟩ = some (.string a0_0) := (blk_cell BK319.out 0).trans rfl
  have hcz17_1 : w3.cell? ⟨gb319, 1, none⟩ = some (.bool a0_1) := (blk_cell BK319.out 1).trans rfl
  have hcz17_2 : w3.cell? ⟨gb319, 2, none⟩ = some (.slice A0_2 l0_2.length c0_2) := (blk_cell BK319.out 2).trans rfl
  have hfz17_0 := blk_frozen BK319.out 0
  have hfz17_1 := blk_frozen BK319.out 1
  have hfz17_2 := blk_frozen BK319.out 2
  go_wp2_with (first | ((with_reducible refine gate_callee (f := 22) rfl ?_); refine goesL_ (some 10) rfl rfl Tryd.func22 (by kernel_rfl) rfl #[.string a0_0] rfl (by (try simp only [List.map_toArray, List.map_cons, List.map_nil]); first | done | rfl | (simp only [List.length_drop, List.length_take]; rfl)) ?_; (with_reducible refine (spec_NameOk.calls k a0_0 false _ A5.out).mono ?_); rintro e w' ⟨rfl, ⟨nd, rfl⟩⟩; refine ⟨_, rfl, ?_⟩))
  go_meet
  case rel => exact ⟨_, (true), (by first | rfl | (simp; done) | (simp [*]; done)), H', ⟨by first | omega | exact Nat.le_refl _⟩, ⟨by (with_reducible repeat (first | refine blk_drewN ?_ _ | refine blk_drew ?_ | refine blk_alloc ?_ _)); exact BK319.out⟩, ⟨by repeat (first | (with_reducible first | exact HB.out | apply below_alloc | apply pw_below_drewN | apply below_drew1 | refine below_set ?_ GE319.out) | exact HB.out)⟩⟩
 clear HC2; try clear c1; try clear c2; try clear p2; try clear p3; try clear q3; try clear hx3; try clear c4; try clear c6; try clear p6; try clear c7; try clear c7b0; try clear c7b1; try clear c9; try clear c9b0; try clear c9b1; try clear c12; try clear c12b0; try clear c13; try clear c13b0; try clear hcz10_0; try clear hcz10_1; try clear hcz10_2; try clear hcz15_0; try clear hcz15_1; try clear hcz15_2; try clear hcz17_0; try clear hcz17_1; try clear hcz17_2; try clear hcz4_0; try clear hcz4_1; try clear hcz4_2; try clear hcz8_0; try clear hcz8_1; try clear hcz8_2; try clear hfz10_0; try clear hfz10_1; try clear hfz10_2; try clear hfz15_0; try clear hfz15_1; try clear hfz15_2; try clear hfz17_0; try clear hfz17_1; try clear hfz17_2; try clear hfz4_0; try clear hfz4_1; try clear hfz4_2; try clear hfz8_0; try clear hfz8_1; try clear hfz8_2; try clear hx321_0; try clear hx321_1; try clear hx321_2; try clear p321; try clear q321
 obtain ⟨kq, x29_1, rfl, HA, HJ1, BK319, HB⟩ := hcut
 obtain _ | kj1 := kq
 · exact absurd HA.out (by simp [spec_FunOk.j0])
 have H := HA.out
 clear HA
 simp only [spec_FunOk.j0] at H
 by_cases c18 : x29_1 = true
 · subst c18
   have H1 : (some false) = some r := by rw [if_pos rfl] at H; exact H
   clear H
   have H := H1
   clear H1
   obtain rfl := Option.some.inj H
   go_wp2
   go_ret
   exact ⟨by first | rfl | (simp [errW_none, errW_some] <;> rfl) | (simp [*, errW_none, errW_some] <;> rfl), by repeat (first | (with_reducible first | exact HB.out | apply below_alloc | apply pw_below_drewN | apply below_drew1 | refine below_set ?_ GE319.out) | exact HB.out)⟩
 replace c18 := Bool.eq_false_iff.mpr c18
 subst c18
 have H1 : (spec_FunOk.l0 kj1 (l0_2.length : Int) 0 a0_0 a0_1 l0_2) = some r := by rw [if_neg (show ¬ (false = true) by decide)] at H; exact H
 clear H
 have H := H1
 clear H1
 have H' := Aside0.mk H
 clear H
 go_wp2
 go_loopg [4] kj1 (fun kq v4 w' => ∃ (x4_2 : Int), v4 = .int .i64 x4_2 ∧ Aside0 (spec_FunOk.l0 kq (l0_2.length : Int) x4_2 a0_0 a0_1 l0_2 = some r) ∧ Aside0 (kq ≤ kj1) ∧ Aside0 (w'.heap[gb319]? = some (.cells #[.string a0_0, .bool a0_1, (.slice A0_2 l0_2.length c0_2)] 41 (0, 0))) ∧ Aside0 (Below w.heap.size w w'))
 case atStart => exact ⟨(0), (by first | rfl | (simp; done) | (simp [*]; done)), H', ⟨Nat.le_refl _⟩, ⟨by (with_reducible repeat (first | refine blk_drewN ?_ _ | refine blk_drew ?_ | refine blk_alloc ?_ _)); exact BK319.out⟩, ⟨by repeat (first | (with_reducible first | exact HB.out | apply below_alloc | apply pw_below_drewN | apply below_drew1 | refine below_set ?_ GE319.out) | exact HB.out)⟩⟩
 clear H'
 try clear c1; try clear c2; try clear p2; try clear p3; try clear q3; try clear hx3; try clear c4; try clear c6; try clear p6; try clear c7; try clear c7b0; try clear c7b1; try clear c9; try clear c9b0; try clear c9b1; try clear c12; try clear c12b0; try clear c13; try clear c13b0; try clear c18; try clear hcz10_0; try clear hcz10_1; try clear hcz10_2; try clear hcz15_0; try clear hcz15_1; try clear hcz15_2; try clear hcz17_0; try clear hcz17_1; try clear hcz17_2; try clear hcz4_0; try clear hcz4_1; try clear hcz4_2; try clear hcz8_0; try clear hcz8_1; try clear hcz8_2; try clear hfz10_0; try clear hfz10_1; try clear hfz10_2; try clear hfz15_0; try clear hfz15_1; try clear hfz15_2; try clear hfz17_0; try clear hfz17_1; try clear hfz17_2; try clear hfz4_0; try clear hfz4_1; try clear hfz4_2; try clear hfz8_0; try clear hfz8_1; try clear hfz8_2; try clear hx321_0; try clear hx321_1; try clear hx321_2; try clear p2; try clear p3; try clear p321; try clear p6; try clear q3; try clear q321
 obtain ⟨x4_2, rfl, HA, HK2, BK319, HB⟩ := hrel
 obtain _ | k2 := gk
 · exact absurd HA.out (by simp [spec_FunOk.l0])
 have H := HA.out
 clear HA
 simp only [spec_FunOk.l0] at H
 by_cases c19 : x4_2 < (l0_2.length : Int)
 · rw [if_pos c19] at H
   have c19b0 : decide (x4_2 < (l0_2.length : Int)) = true := decide_eq_true c19
   clear c19
   by_cases c20 : 0 ≤ x4_2
   · rw [if_pos c20] at H
     have c20b0 : decide (0 ≤ x4_2) = true := decide_eq_true c20
     clear c20
     by_cases c21 : x4_2 < (l0_2.length : Int)
     · rw [if_pos c21] at H
       have c21b0 : decide (x4_2 < (l0_2.length : Int)) = true := decide_eq_true c21
       clear c21
       replace H := Option.bind_eq_some_iff.mp H
       obtain ⟨t324, A220, H⟩ := H
       replace H : (if t324 = true then (spec_FunOk.l0 k2 (l0_2.length : Int) (wrap64 (x4_2 + 1)) a0_0 a0_1 l0_2) else (some false)) = some r := H
       have A22 := Aside0.mk A220; clear A220
       by_cases c23 : t324 = true
       · subst c23
         have H1 : (spec_FunOk.l0 k2 (l0_2.length : Int) (wrap64 (x4_2 + 1)) a0_0 a0_1 l0_2) = some r := by rw [if_pos rfl] at H; exact H
         clear H
         have H := H1
         clear H1
         have H' := Aside0.mk H
         clear H
         have hcz24_0 : wr.cell? ⟨gb319, 0, none⟩ = some (.string a0_0) := (blk_cell BK319.out 0).trans rfl
         have hcz24_1 : wr.cell? ⟨gb319, 1, none⟩ = some (.bool a0_1) := (blk_cell BK319.out 1).trans rfl
         have hcz24_2 : wr.cell? ⟨gb319, 2, none⟩ = some (.slice A0_2 l0_2.length c0_2) := (blk_cell BK319.out 2).trans rfl
         have hfz24_0 := blk_frozen BK319.out 0
         have hfz24_1 := blk_frozen BK319.out 1
         have hfz24_2 := blk_frozen BK319.out 2
         have p323 : 0 ≤ (x4_2 : Int) := of_decide_eq_true (by first | (with_reducible assumption) | assumption)
         have q323 : x4_2 < (l0_2.length : Int) := of_decide_eq_true (by first | (with_reducible assumption) | assumption)
         obtain ⟨ad323, e323, hx323_0, hx323_1, hx323_2⟩ := at_T26 HR0_2.out x4_2 p323 q323
         cases e323
         replace hx323_0 := (HB.out.cell (World.block_lt_of_cell? w _ hx323_0)).trans hx323_0
         replace hx323_1 := (HB.out.cell (World.block_lt_of_cell? w _ hx323_1)).trans hx323_1
         replace hx323_2 := (HB.out.cell (World.block_lt_of_cell? w _ hx323_2)).trans hx323_2
         replace p323 := eq_true p323; replace q323 := eq_true q323
         go_wp2_with (first | ((with_reducible refine gate_callee (f := 16) rfl ?_); refine goesL_ (some 40) rfl rfl Tryd.func16 (by kernel_rfl) rfl #[.agg #[.int .i64 ((rd_T26 l0_2 x4_2).f0), .int .i64 ((rd_T26 l0_2 x4_2).f1), .string ((rd_T26 l0_2 x4_2).f2)]] rfl (by (try simp only [List.map_toArray, List.map_cons, List.map_nil]); first | done | rfl | (simp only [List.length_drop, List.length_take]; rfl)) ?_; (with_reducible refine (spec_InsOk.calls k2 ((rd_T26 l0_2 x4_2).f0) ((rd_T26 l0_2 x4_2).f1) ((rd_T26 l0_2 x4_2).f2) true _ A22.out).mono ?_); rintro e w25 ⟨rfl, hb⟩; refine ⟨_, rfl, ?_⟩; have n0_ := Aside0.mk (blk_below (g := gb319) (o := .cells #[.string a0_0, .bool a0_1, .slice (some ad323) l0_2.length c0_2] 41 (0, 0)) (by (with_reducible repeat (first | refine blk_drewN ?_ _ | refine blk_drew ?_ | refine blk_alloc ?_ _)); exact BK319.out) hb); have n1_ := Aside0.mk (below_step (by repeat (first | (with_reducible first | exact HB.out | apply below_alloc | apply pw_below_drewN | apply below_drew1 | refine below_set ?_ GE319.out) | exact HB.out)) hb); clear BK319 HB; have BK319 := n0_; have HB := n1_; clear n0_ n1_; (try clear hb); (try clear hb2); (try clear hk); (try clear hi)))
         go_roundg k2
         case measure => have := HJ1.out; have := HK2.out; omega
         case rel => exact ⟨(wrap64 (x4_2 + 1)), (by first | rfl | (simp; done) | (simp [*]; done)), H', ⟨by have := HJ1.out; have := HK2.out; omega⟩, ⟨by (with_reducible repeat (first | refine blk_drewN ?_ _ | refine blk_drew ?_ | refine blk_alloc ?_ _)); exact BK319.out⟩, ⟨by repeat (first | (with_reducible first | exact HB.out | apply below_alloc | apply pw_below_drewN | apply below_drew1 | refine below_set ?_ GE319.out) | exact HB.out)⟩⟩
       replace c23 := Bool.eq_false_iff.mpr c23
       subst c23
       have H1 : (some false) = some r := by rw [if_neg (show ¬ (false = true) by decide)] at H; exact H
       clear H
       have H := H1
       clear H1
       obtain rfl := Option.some.inj H
       have hcz26_0 : wr.cell? ⟨gb319, 0, none⟩ = some (.string a0_0) := (blk_cell BK319.out 0).trans rfl
       have hcz26_1 : wr.cell? ⟨gb319, 1, none⟩ = some (.bool a0_1) := (blk_cell BK319.out 1).trans rfl
       have hcz26_2 : wr.cell? ⟨gb319, 2, none⟩ = some (.slice A0_2 l0_2.length c0_2) := (blk_cell BK319.out 2).trans rfl
       have hfz26_0 := blk_frozen BK319.out 0
       have hfz26_1 := blk_frozen BK319.out 1
       have hfz26_2 := blk_frozen BK319.out 2
       have p323 : 0 ≤ (x4_2 : Int) := of_decide_eq_true (by first | (with_reducible assumption) | assumption)
       have q323 : x4_2 < (l0_2.length : Int) := of_decide_eq_true (by first | (with_reducible assumption) | assumption)
       obtain ⟨ad323, e323, hx323_0, hx323_1, hx323_2⟩ := at_T26 HR0_2.out x4_2 p323 q323
       cases e323
       replace hx323_0 := (HB.out.cell (World.block_lt_of_cell? w _ hx323_0)).trans hx323_0
       replace hx323_1 := (HB.out.cell (World.block_lt_of_cell? w _ hx323_1)).trans hx323_1
       replace hx323_2 := (HB.out.cell (World.block_lt_of_cell? w _ hx323_2)).trans hx323_2
       replace p323 := eq_true p323; replace q323 := eq_true q323
       go_wp2_with (first | ((with_reducible refine gate_callee (f := 16) rfl ?_); refine goesL_ (some 40) rfl rfl Tryd.func16 (by kernel_rfl) rfl #[.agg #[.int .i64 ((rd_T26 l0_2 x4_2).f0), .int .i64 ((rd_T26 l0_2 x4_2).f1), .string ((rd_T26 l0_2 x4_2).f2)]] rfl (by (try simp only [List.map_toArray, List.map_cons, List.map_nil]); first | done | rfl | (simp only [List.length_drop, List.length_take]; rfl)) ?_; (with_reducible refine (spec_InsOk.calls k2 ((rd_T26 l0_2 x4_2).f0) ((rd_T26 l0_2 x4_2).f1) ((rd_T26 l0_2 x4_2).f2) false _ A22.out).mono ?_); rintro e w27 ⟨rfl, hb⟩; refine ⟨_, rfl, ?_⟩; have n0_ := Aside0.mk (blk_below (g := gb319) (o := .cells #[.string a0_0, .bool a0_1, .slice (some ad323) l0_2.length c0_2] 41 (0, 0)) (by (with_reducible repeat (first | refine blk_drewN ?_ _ | refine blk_drew ?_ | refine blk_alloc ?_ _)); exact BK319.out) hb); have n1_ := Aside0.mk (below_step (by repeat (first | (with_reducible first | exact HB.out | apply below_alloc | apply pw_below_drewN | apply below_drew1 | refine below_set ?_ GE319.out) | exact HB.out)) hb); clear BK319 HB; have BK319 := n0_; have HB := n1_; clear n0_ n1_; (try clear hb); (try clear hb2); (try clear hk); (try clear hi)))
       go_ret
       exact ⟨by first | rfl | (simp [errW_none, errW_some] <;> rfl) | (simp [*, errW_none, errW_some] <;> rfl), by repeat (first | (with_reducible first | exact HB.out | apply below_alloc | apply pw_below_drewN | apply below_drew1 | refine below_set ?_ GE319.out) | exact HB.out)⟩
     rw [if_neg c21] at H
     exact absurd H (by simp)
   rw [if_neg c20] at H
   exact absurd H (by simp)
 rw [if_neg c19] at H
 have c19b0 : decide (x4_2 < (l0_2.length : Int)) = false := decide_eq_false c19
 clear c19
 obtain rfl := Option.some.inj H
 go_wp2
 go_ret
 exact ⟨by first | rfl | (simp [errW_none, errW_some] <;> rfl) | (simp [*, errW_none, errW_some] <;> rfl), by repeat (first | (with_reducible first | exact HB.out | apply below_alloc | apply pw_below_drewN | apply below_drew1 | refine below_set ?_ GE319.out) | exact HB.out)⟩

/-! ### spec_UnitOk: function 25 -/
def spec_UnitOk.l0 : Nat → List (S41) → Int → Option (Bool)
  | 0, _, _ => none
  | k + 1, x0, x3 => if x3 < (x0.length : Int) then (if 0 ≤ x3 then ((spec_FunOk.f k ((rd_T41 x0 x3).f0) ((rd_T41 x0 x3).f1) ((rd_T41 x0 x3).f2)).bind fun t326 => (if t326 = true then ((spec_l2Find.f k x0 ((rd_T41 x0 x3).f0)).bind fun t328 => (if t328 = x3 then (spec_UnitOk.l0 k x0 (wrap64 (x3 + 1))) else (some false))) else (some false))) else (none)) else (some (decide ((x0.length : Int) ≤ 5)))
def spec_UnitOk.f (k : Nat) (l0 : List (S41)) : Option (Bool) := spec_UnitOk.l0 k l0 0
set_option maxHeartbeats 8000000 in
set_option maxRecDepth 100000 in
theorem spec_UnitOk.calls (k : Nat) (A0 : Option Addr) (c0 : Nat) (l0 : List (S41)) (r : Bool) (w : World) (hr0 : Kd.C k41 w A0 l0.length l0) (hc0 : l0.length ≤ c0) (h : spec_UnitOk.f k l0 = some r) :
    Calls Tryd.prog 25 #[.slice A0 l0.length c0] w fun e w' => e = .returned (.bool r) ∧ Below w.heap.size w w' := by
 have hu41 := Tryd.underlying41
 have HR0 := Aside0.mk hr0; have HC0 := Aside0.mk hc0; clear hr0 hc0
 have HB := Aside0.mk (Below.refl w.heap.size w)
 have H : (spec_UnitOk.l0 k l0 0) = some r := h
 clear h
 have H' := Aside0.mk H
 clear H
 go_enter Tryd.func25, Tryd.ntmps25
 go_wp2
 go_loopg [3] k (fun kq v3 w' => ∃ (x3_1 : Int), v3 = .int .i64 x3_1 ∧ Aside0 (spec_UnitOk.l0 kq l0 x3_1 = some r) ∧ Aside0 (kq ≤ k) ∧ Aside0 (Below w.heap.size w w'))
 case atStart => exact ⟨(0), (by first | rfl | (simp; done) | (simp [*]; done)), H', ⟨Nat.le_refl _⟩, ⟨by repeat (first | (with_reducible first | exact HB.out | apply below_alloc | apply pw_below_drewN | apply below_drew1) | exact HB.out)⟩⟩
 clear H'
 obtain ⟨x3_1, rfl, HA, HK1, HB⟩ := hrel
 obtain _ | k1 := gk
 · exact absurd HA.out (by simp [spec_UnitOk.l0])
 have H := HA.out
 clear HA
 simp only [spec_UnitOk.l0] at H
 by_cases c2 : x3_1 < (l0.length : Int)
 · rw [if_pos c2] at H
   have c2b0 : decide (x3_1 < (l0.length : Int)) = true := decide_eq_true c2
   clear c2
   by_cases c3 : 0 ≤ x3_1
   · rw [if_pos c3] at H
     have c3b0 : decide (0 ≤ x3_1) = true := decide_eq_true c3
     clear c3
     replace H := Option.bind_eq_some_iff.mp H
     obtain ⟨t326, A40, H⟩ := H
     replace H : (if t326 = true then ((spec_l2Find.f k1 l0 ((rd_T41 l0 x3_1).f0)).bind fun t328 => (if t328 = x3_1 then (spec_UnitOk.l0 k1 l0 (wrap64 (x3_1 + 1))) else (some false))) else (some false)) = some r := H
     have A4 := Aside0.mk A40; clear A40
     by_cases c5 : t326 = true
     · subst c5
       have H1 : ((spec_l2Find.f k1 l0 ((rd_T41 l0 x3_1).f0)).bind fun t328 => (if t328 = x3_1 then (spec_UnitOk.l0 k1 l0 (wrap64 (x3_1 + 1))) else (some false))) = some r := by rw [if_pos rfl] at H; exact H
       clear H
       have H := H1
       clear H1
       replace H := Option.bind_eq_some_iff.mp H
       obtain ⟨t328, A60, H⟩ := H
       replace H : (if t328 = x3_1 then (spec_UnitOk.l0 k1 l0 (wrap64 (x3_1 + 1))) else (some false)) = some r := H
       have A6 := Aside0.mk A60; clear A60
       by_cases c7 : t328 = x3_1
       · rw [if_pos c7] at H
         have c7b0 : (t328 == x3_1) = true := beq_iff_eq.mpr c7
         have c7b1 : (t328 != x3_1) = false := bne_eq_false_iff_eq.mpr c7
         clear c7
         have H' := Aside0.mk H
         clear H
         have p325 : 0 ≤ (x3_1 : Int) := of_decide_eq_true (by first | (with_reducible assumption) | assumption)
         have q325 : x3_1 < (l0.length : Int) := of_decide_eq_true (by first | (with_reducible assumption) | assumption)
         obtain ⟨ad325, A325_2, c325_2, e325, hx325_0, hx325_1, hx325_2, hl325_2, hi325_2⟩ := at_T41 HR0.out x3_1 p325 q325
         cases e325
         replace hx325_0 := (HB.out.cell (World.block_lt_of_cell? w _ hx325_0)).trans hx325_0
         replace hx325_1 := (HB.out.cell (World.block_lt_of_cell? w _ hx325_1)).trans hx325_1
         replace hx325_2 := (HB.out.cell (World.block_lt_of_cell? w _ hx325_2)).trans hx325_2
         have HR325_2 := Aside0.mk hi325_2; have HC325_2 := Aside0.mk hl325_2; clear hi325_2 hl325_2; replace p325 := eq_true p325; replace q325 := eq_true q325
         go_wp2_with (first | ((with_reducible refine gate_callee (f := 48) rfl ?_); refine goesL_ (some 14) rfl rfl Tryd.func48 (by kernel_rfl) rfl #[.agg #[.string ((rd_T41 l0 x3_1).f0), .bool ((rd_T41 l0 x3_1).f1), .slice A325_2 ((rd_T41 l0 x3_1).f2).length c325_2]] rfl (by (try simp only [List.map_toArray, List.map_cons, List.map_nil]); first | done | rfl | (simp only [List.length_drop, List.length_take]; rfl)) ?_; (with_reducible refine (spec_FunOk.calls k1 ((rd_T41 l0 x3_1).f0) ((rd_T41 l0 x3_1).f1) _ _ ((rd_T41 l0 x3_1).f2) true _ ?side1 ?side2 A4.out).mono ?_); (case side1 => repeat (first | exact (Kd.C_below HR325_2.out HB.out) | (with_reducible refine Kd.C_alloc ?_ _) | (with_reducible refine Kd.C_drewN ?_ _) | (with_reducible refine Kd.C_drew ?_))); (case side2 => exact HC325_2.out); rintro e w8 ⟨rfl, hb⟩; refine ⟨_, rfl, ?_⟩; have n0_ := Aside0.mk (below_step (by repeat (first | (with_reducible first | exact HB.out | apply below_alloc | apply pw_below_drewN | apply below_drew1) | exact HB.out)) hb); clear HB; have HB := n0_; clear n0_; (try clear hb); (try clear hb2); (try clear hk); (try clear hi); have p327 : 0 ≤ (x3_1 : Int) := of_decide_eq_true (by first | (with_reducible assumption) | assumption); have q327 : x3_1 < (l0.length : Int) := of_decide_eq_true (by first | (with_reducible assumption) | assumption); obtain ⟨ad327, A327_2, c327_2, e327, hx327_0, hx327_1, hx327_2, hl327_2, hi327_2⟩ := at_T41 HR0.out x3_1 p327 q327; obtain rfl : ad325 = ad327 := (by injection e327); replace hx327_0 := (HB.out.cell (World.block_lt_of_cell? w _ hx327_0)).trans hx327_0; replace hx327_1 := (HB.out.cell (World.block_lt_of_cell? w _ hx327_1)).trans hx327_1; replace hx327_2 := (HB.out.cell (World.block_lt_of_cell? w _ hx327_2)).trans hx327_2; have HR327_2 := Aside0.mk hi327_2; have HC327_2 := Aside0.mk hl327_2; clear hi327_2 hl327_2; replace p327 := eq_true p327; replace q327 := eq_true q327) | (go_at_call 49; (with_reducible refine (spec_l2Find.calls k1 _ _ l0 ((rd_T41 l0 x3_1).f0) t328 _ ?side1 ?side2 A6.out).mono ?_); (case side1 => repeat (first | exact (Kd.C_below HR0.out HB.out) | (with_reducible refine Kd.C_alloc ?_ _) | (with_reducible refine Kd.C_drewN ?_ _) | (with_reducible refine Kd.C_drew ?_))); (case side2 => exact HC0.out); rintro e w' ⟨rfl, ⟨nd, rfl⟩⟩))
         go_roundg k1
         case measure => have := HK1.out; omega
         case rel => exact ⟨(wrap64 (x3_1 + 1)), (by first | rfl | (simp; done) | (simp [*]; done)), H', ⟨by have := HK1.out; omega⟩, ⟨by repeat (first | (with_reducible first | exact HB.out | apply below_alloc | apply pw_below_drewN | apply below_drew1) | exact HB.out)⟩⟩
       rw [if_neg c7] at H
       have c7b0 : (t328 == x3_1) = false := beq_eq_false_iff_ne.mpr c7
       have c7b1 : (t328 != x3_1) = true := bne_iff_ne.mpr c7
       obtain rfl := Option.some.inj H
       have p325 : 0 ≤ (x3_1 : Int) := of_decide_eq_true (by first | (with_reducible assumption) | assumption)
       have q325 : x3_1 < (l0.length : Int) := of_decide_eq_true (by first | (with_reducible assumption) | assumption)
       obtain ⟨ad325, A325_2, c325_2, e325, hx325_0, hx325_1, hx325_2, hl325_2, hi325_2⟩ := at_T41 HR0.out x3_1 p325 q325
       cases e325
       replace hx325_0 := (HB.out.cell (World.block_lt_of_cell? w _ hx325_0)).trans hx325_0
       replace hx325_1 := (HB.out.cell (World.block_lt_of_cell? w _ hx325_1)).trans hx325_1
       replace hx325_2 := (HB.out.cell (World.block_lt_of_cell? w _ hx325_2)).trans hx325_2
       have HR325_2 := Aside0.mk hi325_2; have HC325_2 := Aside0.mk hl325_2; clear hi325_2 hl325_2; replace p325 := eq_true p325; replace q325 := eq_true q325
       go_wp2_with (first | ((with_reducible refine gate_callee (f := 48) rfl ?_); refine goesL_ (some 14) rfl rfl Tryd.func48 (by kernel_rfl) rfl #[.agg #[.string ((rd_T41 l0 x3_1).f0), .bool ((rd_T41 l0 x3_1).f1), .slice A325_2 ((rd_T41 l0 x3_1).f2).length c325_2]] rfl (by (try simp only [List.map_toArray, List.map_cons, List.map_nil]); first | done | rfl | (simp only [List.length_drop, List.length_take]; rfl)) ?_; (with_reducible refine (spec_FunOk.calls k1 ((rd_T41 l0 x3_1).f0) ((rd_T41 l0 x3_1).f1) _ _ ((rd_T41 l0 x3_1).f2) true _ ?side1 ?side2 A4.out).mono ?_); (case side1 => repeat (first | exact (Kd.C_below HR325_2.out HB.out) | (with_reducible refine Kd.C_alloc ?_ _) | (with_reducible refine Kd.C_drewN ?_ _) | (with_reducible refine Kd.C_drew ?_))); (case side2 => exact HC325_2.out); rintro e w9 ⟨rfl, hb⟩; refine ⟨_, rfl, ?_⟩; have n0_ := Aside0.mk (below_step (by repeat (first | (with_reducible first | exact HB.out | apply below_alloc | apply pw_below_drewN | apply below_drew1) | exact HB.out)) hb); clear HB; have HB := n0_; clear n0_; (try clear hb); (try clear hb2); (try clear hk); (try clear hi); have p327 : 0 ≤ (x3_1 : Int) := of_decide_eq_true (by first | (with_reducible assumption) | assumption); have q327 : x3_1 < (l0.length : Int) := of_decide_eq_true (by first | (with_reducible assumption) | assumption); obtain ⟨ad327, A327_2, c327_2, e327, hx327_0, hx327_1, hx327_2, hl327_2, hi327_2⟩ := at_T41 HR0.out x3_1 p327 q327; obtain rfl : ad325 = ad327 := (by injection e327); replace hx327_0 := (HB.out.cell (World.block_lt_of_cell? w _ hx327_0)).trans hx327_0; replace hx327_1 := (HB.out.cell (World.block_lt_of_cell? w _ hx327_1)).trans hx327_1; replace hx327_2 := (HB.out.cell (World.block_lt_of_cell? w _ hx327_2)).trans hx327_2; have HR327_2 := Aside0.mk hi327_2; have HC327_2 := Aside0.mk hl327_2; clear hi327_2 hl327_2; replace p327 := eq_true p327; replace q327 := eq_true q327) | (go_at_call 49; (with_reducible refine (spec_l2Find.calls k1 _ _ l0 ((rd_T41 l0 x3_1).f0) t328 _ ?side1 ?side2 A6.out).mono ?_); (case side1 => repeat (first | exact (Kd.C_below HR0.out HB.out) | (with_reducible refine Kd.C_alloc ?_ _) | (with_reducible refine Kd.C_drewN ?_ _) | (with_reducible refine Kd.C_drew ?_))); (case side2 => exact HC0.out); rintro e w' ⟨rfl, ⟨nd, rfl⟩⟩))
       go_ret
       exact ⟨by first | rfl | (simp [errW_none, errW_some] <;> rfl) | (simp [*, errW_none, errW_some] <;> rfl), by repeat (first | (with_reducible first | exact HB.out | apply below_alloc | apply pw_below_drewN | apply below_drew1) | exact HB.out)⟩
     replace c5 := Bool.eq_false_iff.mpr c5
     subst c5
     have H1 : (some false) = some r := by rw [if_neg (show ¬ (false = true) by decide)] at H; exact H
     clear H
     have H := H1
     clear H1
     obtain rfl := Option.some.inj H
     have p325 : 0 ≤ (x3_1 : Int) := of_decide_eq_true (by first | (with_reducible assumption) | assumption)
     have q325 : x3_1 < (l0.length : Int) := of_decide_eq_true (by first | (with_reducible assumption) | assumption)
     obtain ⟨ad325, A325_2, c325_2, e325, hx325_0, hx325_1, hx325_2, hl325_2, hi325_2⟩ := at_T41 HR0.out x3_1 p325 q325
     cases e325
     replace hx325_0 := (HB.out.cell (World.block_lt_of_cell? w _ hx325_0)).trans hx325_0
     replace hx325_1 := (HB.out.cell (World.block_lt_of_cell? w _ hx325_1)).trans hx325_1
     replace hx325_2 := (HB.out.cell (World.block_lt_of_cell? w _ hx325_2)).trans hx325_2
     have HR325_2 := Aside0.mk hi325_2; have HC325_2 := Aside0.mk hl325_2; clear hi325_2 hl325_2; replace p325 := eq_true p325; replace q325 := eq_true q325
     go_wp2_with (first | ((with_reducible refine gate_callee (f := 48) rfl ?_); refine goesL_ (some 14) rfl rfl Tryd.func48 (by kernel_rfl) rfl #[.agg #[.string ((rd_T41 l0 x3_1).f0), .bool ((rd_T41 l0 x3_1).f1), .slice A325_2 ((rd_T41 l0 x3_1).f2).length c325_2]] rfl (by (try simp only [List.map_toArray, List.map_cons, List.map_nil]); first | done | rfl | (simp only [List.length_drop, List.length_take]; rfl)) ?_; (with_reducible refine (spec_FunOk.calls k1 ((rd_T41 l0 x3_1).f0) ((rd_T41 l0 x3_1).f1) _ _ ((rd_T41 l0 x3_1).f2) false _ ?side1 ?side2 A4.out).mono ?_); (case side1 => repeat (first | exact (Kd.C_below HR325_2.out HB.out) | (with_reducible refine Kd.C_alloc ?_ _) | (with_reducible refine Kd.C_drewN ?_ _) | (with_reducible refine Kd.C_drew ?_))); (case side2 => exact HC325_2.out); rintro e w10 ⟨rfl, hb⟩; refine ⟨_, rfl, ?_⟩; have n0_ := Aside0.mk (below_step (by repeat (first | (with_reducible first | exact HB.out | apply below_alloc | apply pw_below_drewN | apply below_drew1) | exact HB.out)) hb); clear HB; have HB := n0_; clear n0_; (try clear hb); (try clear hb2); (try clear hk); (try clear hi)))
     go_ret
     exact ⟨by first | rfl | (simp [errW_none, errW_some] <;> rfl) | (simp [*, errW_none, errW_some] <;> rfl), by repeat (first | (with_reducible first | exact HB.out | apply below_alloc | apply pw_below_drewN | apply below_drew1) | exact HB.out)⟩
   rw [if_neg c3] at H
   exact absurd H (by simp)
 rw [if_neg c2] at H
 have c2b0 : decide (x3_1 < (l0.length : Int)) = false := decide_eq_false c2
 clear c2
 obtain rfl := Option.some.inj H
 go_wp2
 go_ret
 exact ⟨by first | rfl | (simp [errW_none, errW_some] <;> rfl) | (simp [*, errW_none, errW_some] <;> rfl), by repeat (first | (with_reducible first | exact HB.out | apply below_alloc | apply pw_below_drewN | apply below_drew1) | exact HB.out)⟩

end Go.Proofs.YtajhjdhkeahlpaaDoor.P

/- When a unit is ok, and where its functions are: what the printed functions of both sides compute. -/
namespace Go.Proofs.YtajhjdhkeahlpaaDoor.L
open Go.RowKit Go.Proofs.YtajhjdhkeahlpaaDoorW.PrintWords Go.Proofs.YtajhjdhkeahlpaaDoorW.PrintLast Go.Proofs.YtajhjdhkeahlpaaDoorW.PrintMore Go.Proofs.YtajhjdhkeahlpaaDoor.P
set_option linter.unusedVariables false
set_option linter.unusedSimpArgs false
def FitF (x : S41) : Prop := x.f0.size ≤ 140737488351232 ∧ x.f2.length ≤ 140737488351232 ∧ ∀ y ∈ x.f2, y.f2.size ≤ 140737488351232
def named (a : ByteArray) (x : S41) : Bool := x.f0.toList == a.toList
def findI (l : List S41) (a : ByteArray) : Int := idxFrom (named a) l 0
def unitGood (l : List S41) : Bool := allFrom (fun i x => funOkB x.f0 x.f2 && (findI l x.f0 == (i : Int))) l 0
def unitOkB (l : List S41) : Bool := unitGood l && decide (l.length ≤ 5)
theorem impl_FunOk_f (x : S41) (h : FitF x) : impl_FunOk.f x.f0 x.f1 x.f2 = some (funOkB x.f0 x.f2) := by
  unfold impl_FunOk.f
  rw [if_pos ⟨h.1, h.2.2⟩]
theorem spec_FunOk_l0 (x : S41) (h : FitF x) (k : Nat) (hk : 140737488351236 + x.f2.length < k) : spec_FunOk.l0 k (x.f2.length : Int) 0 x.f0 x.f1 x.f2 = some (!(x.f2.any fun y => !insOkB y.f0 y.f1 y.f2)) := by
  have e := loop_all (fun _ (y : S26) => insOkB y.f0 y.f1 y.f2) z26 x.f2 true (by have := h.2.1; omega) (fun k i => spec_FunOk.l0 k (x.f2.length : Int) i x.f0 x.f1 x.f2) 140737488351236 ?_ ?_ ?_ k hk
  · rw [e, allFrom_all, Bool.and_true, all_not_any]
  · intro k i hK hi hq
    simp only [spec_FunOk.l0]
    have e := spec_InsOk_f (rd_T26 x.f2 (i : Int)).f0 (rd_T26 x.f2 (i : Int)).f1 (rd_T26 x.f2 (i : Int)).f2 (h.2.2 _ (getD_mem hi)) k (by have : (rd_T26 x.f2 (i : Int)).f2.size ≤ 140737488351232 := h.2.2 _ (getD_mem hi); omega)
    rw [show insOkB (rd_T26 x.f2 (i : Int)).f0 (rd_T26 x.f2 (i : Int)).f1 (rd_T26 x.f2 (i : Int)).f2 = true from hq] at e
    rw [if_pos (by omega), if_pos (by omega), if_pos (by omega), e]
    rfl
  · intro k i hK hi hq
    simp only [spec_FunOk.l0]
    have e := spec_InsOk_f (rd_T26 x.f2 (i : Int)).f0 (rd_T26 x.f2 (i : Int)).f1 (rd_T26 x.f2 (i : Int)).f2 (h.2.2 _ (getD_mem hi)) k (by have : (rd_T26 x.f2 (i : Int)).f2.size ≤ 140737488351232 := h.2.2 _ (getD_mem hi); omega)
    rw [show insOkB (rd_T26 x.f2 (i : Int)).f0 (rd_T26 x.f2 (i : Int)).f1 (rd_T26 x.f2 (i : Int)).f2 = false from hq] at e
    rw [if_pos (by omega), if_pos (by omega), if_pos (by omega), e]
    rfl
  · intro k hK
    simp only [spec_FunOk.l0]
    rw [if_neg (by omega)]
theorem spec_FunOk_f (x : S41) (h : FitF x) (k : Nat) (hk : 140737488351240 + x.f2.length < k) : spec_FunOk.f k x.f0 x.f1 x.f2 = some (funOkB x.f0 x.f2) := by
  obtain ⟨m, rfl⟩ : ∃ m, k = m + 1 := ⟨k - 1, by omega⟩
  have hs := h.1
  have hl := h.2.1
  unfold spec_FunOk.f funOkB
  rw [spec_NameOk_f x.f0 h.1 _ (by omega)]
  simp only [Option.bind_some]
  have j (b : Bool) : spec_FunOk.j0 (m + 1) (x.f2.length : Int) b x.f0 x.f1 x.f2 = some (!b && !(x.f2.any fun y => !insOkB y.f0 y.f1 y.f2)) := by
    simp only [spec_FunOk.j0]
    cases b with
    | true => rfl
    | false => rw [if_neg (by decide), spec_FunOk_l0 x h m (by omega)]; rfl
  cases nameOk x.f0 with
  | false => rw [if_neg (by decide), j]; rfl
  | true =>
    rw [if_pos rfl]
    by_cases h1 : (x.f2.length : Int) < 1
    · have e1 : decide (1 ≤ (x.f2.length : Int)) = false := decide_eq_false (by omega)
      rw [if_pos h1, j, e1]; rfl
    · rw [if_neg h1]
      have e1 : decide (1 ≤ (x.f2.length : Int)) = true := decide_eq_true (by omega)
      by_cases h2 : (x.f2.length : Int) > 10
      · have e2 : decide ((x.f2.length : Int) ≤ 10) = false := decide_eq_false (by omega)
        rw [if_pos h2, j, e1, e2]; rfl
      · rw [if_neg h2]
        have e2 : decide ((x.f2.length : Int) ≤ 10) = true := decide_eq_true (by omega)
        have w : wrap64 ((x.f2.length : Int) - 1) = (x.f2.length : Int) - 1 := wrap_id (by omega) (by omega)
        rw [w, if_pos (by omega), if_pos (by omega), spec_InsLast_f]
        simp only [Option.bind_some]
        rw [j, e1, e2]
        have e3 : (rd_T26 x.f2 ((x.f2.length : Int) - 1)) = x.f2.getD (x.f2.length - 1) z26 := by
          unfold rd_T26
          rw [show ((x.f2.length : Int) - 1).toNat = x.f2.length - 1 by omega]
        rw [e3]
        simp [Bool.and_comm]
theorem spec_l2Find_f (l : List S41) (hn : l.length ≤ 9223372036854775807) (a : ByteArray) (k : Nat) (hk : l.length < k) : spec_l2Find.f k l a = some (findI l a) := by
  unfold spec_l2Find.f findI
  refine loop_idx (named a) z41 l hn (fun k i => spec_l2Find.l0 k l a i) 0 ?_ ?_ ?_ k (by omega)
  · intro k i _ hi hq
    simp only [spec_l2Find.l0]
    rw [if_pos (by omega), if_pos (by omega), if_pos (show (rd_T41 l (i : Int)).f0.toList = a.toList from beq_iff_eq.mp hq)]
  · intro k i _ hi hq
    simp only [spec_l2Find.l0]
    rw [if_pos (by omega), if_pos (by omega), if_neg (show ¬ (rd_T41 l (i : Int)).f0.toList = a.toList from beq_eq_false_iff_ne.mp hq)]
  · intro k _
    simp only [spec_l2Find.l0]
    rw [if_neg (by omega)]
theorem spec_UnitOk_f (l : List S41) (hn : l.length ≤ 140737488351232) (hx : ∀ x ∈ l, FitF x) (k : Nat) (hk : 500000000000000 ≤ k) : spec_UnitOk.f k l = some (unitOkB l) := by
  unfold spec_UnitOk.f unitOkB
  have ed : decide ((l.length : Int) ≤ 5) = decide (l.length ≤ 5) := by congr 1; exact propext ⟨fun h => by omega, fun h => by omega⟩
  rw [← ed]
  have step : ∀ (k i : Nat), 300000000000000 ≤ k → i < l.length → spec_UnitOk.l0 (k + 1) l (i : Int) = if (funOkB (l.getD i z41).f0 (l.getD i z41).f2 && (findI l (l.getD i z41).f0 == (i : Int))) = true then spec_UnitOk.l0 k l (wrap64 ((i : Int) + 1)) else some false := by
    intro k i hK hi
    simp only [spec_UnitOk.l0]
    have hf := hx _ (getD_mem (d := z41) hi)
    have hl2 := hf.2.1
    have e := spec_FunOk_f (rd_T41 l (i : Int)) hf k (by have e0 : rd_T41 l (i : Int) = l.getD i z41 := rfl; rw [e0]; omega)
    rw [if_pos (by omega), if_pos (by omega), e]
    simp only [Option.bind_some]
    show (if funOkB (l.getD i z41).f0 (l.getD i z41).f2 = true then _ else _) = _
    cases funOkB (l.getD i z41).f0 (l.getD i z41).f2 with
    | false => rfl
    | true =>
      rw [if_pos rfl, spec_l2Find_f l (by omega) _ k (by omega)]
      simp only [Option.bind_some, Bool.true_and]
      show (if findI l (l.getD i z41).f0 = (i : Int) then _ else _) = _
      by_cases hq : findI l (l.getD i z41).f0 = (i : Int)
      · rw [if_pos hq, if_pos (beq_iff_eq.mpr hq)]
      · rw [if_neg hq, if_neg (by rw [beq_eq_false_iff_ne.mpr hq]; decide)]
  refine loop_all (fun i x => funOkB x.f0 x.f2 && (findI l x.f0 == (i : Int))) z41 l (decide ((l.length : Int) ≤ 5)) (by omega) (fun k i => spec_UnitOk.l0 k l i) 300000000000000 ?_ ?_ ?_ k (by omega)
  · intro k i hK hi hq
    show spec_UnitOk.l0 (k + 1) l (i : Int) = _
    rw [step k i hK hi, if_pos hq]
  · intro k i hK hi hq
    show spec_UnitOk.l0 (k + 1) l (i : Int) = _
    rw [step k i hK hi, if_neg (by rw [hq]; decide)]
  · intro k _
    simp only [spec_UnitOk.l0]
    rw [if_neg (by omega)]
theorem impl_funsOk_f (l : List S41) (hn : l.length ≤ 140737488351232) (hx : ∀ x ∈ l, FitF x) (k : Nat) (hk : l.length < k) : impl_funsOk.f k l = some (unitGood l) := by
  unfold impl_funsOk.f
  have step : ∀ (k i : Nat), i < l.length → impl_funsOk.l0 (k + 1) l l (l.length : Int) (i : Int) = if (funOkB (l.getD i z41).f0 (l.getD i z41).f2 && (findI l (l.getD i z41).f0 == (i : Int))) = true then impl_funsOk.l0 k l l (l.length : Int) (wrap64 ((i : Int) + 1)) else some false := by
    intro k i hi
    simp only [impl_funsOk.l0]
    have hf := hx _ (getD_mem (d := z41) hi)
    have e := impl_FunOk_f (rd_T41 l (i : Int)) hf
    rw [if_pos (by omega), if_pos (by omega), if_pos (by omega), e]
    simp only [Option.bind_some]
    show (if funOkB (l.getD i z41).f0 (l.getD i z41).f2 = true then _ else _) = _
    cases funOkB (l.getD i z41).f0 (l.getD i z41).f2 with
    | false => rfl
    | true =>
      rw [if_pos rfl]
      simp only [impl_find.f, Option.bind_some, Bool.true_and]
      show (if findI l (l.getD i z41).f0 = (i : Int) then _ else _) = _
      by_cases hq : findI l (l.getD i z41).f0 = (i : Int)
      · rw [if_pos hq, if_pos (beq_iff_eq.mpr hq)]
      · rw [if_neg hq, if_neg (by rw [beq_eq_false_iff_ne.mpr hq]; decide)]
  have e := loop_all (fun i x => funOkB x.f0 x.f2 && (findI l x.f0 == (i : Int))) z41 l true (by omega) (fun k i => impl_funsOk.l0 k l l (l.length : Int) i) 0 ?_ ?_ ?_ k (by omega)
  · rw [e, Bool.and_true]; rfl
  · intro k i hK hi hq
    show impl_funsOk.l0 (k + 1) l l (l.length : Int) (i : Int) = _
    rw [step k i hi, if_pos hq]
  · intro k i hK hi hq
    show impl_funsOk.l0 (k + 1) l l (l.length : Int) (i : Int) = _
    rw [step k i hi, if_neg (by rw [hq]; decide)]
  · intro k _
    simp only [impl_funsOk.l0]
    rw [if_neg (by omega)]
theorem impl_UnitOk_f (l : List S41) (hn : l.length ≤ 140737488351232) (hx : ∀ x ∈ l, FitF x) (k : Nat) (hk : l.length < k) : impl_UnitOk.f k l = some (unitOkB l) := by
  unfold impl_UnitOk.f unitOkB
  by_cases h : l.length ≤ 5
  · rw [if_pos (by omega), impl_funsOk_f l hn hx k hk]
    simp [h]
  · rw [if_neg (by omega)]
    simp [h]
end Go.Proofs.YtajhjdhkeahlpaaDoor.L

/- A unit's text, as bytes. -/
namespace Go.Proofs.YtajhjdhkeahlpaaDoor.L
open Go.RowKit Go.Proofs.YtajhjdhkeahlpaaDoor.P Go.Proofs.YtajhjdhkeahlpaaDoorW.PrintWords
set_option linter.unusedVariables false
set_option linter.unusedSimpArgs false
def insT (y : S26) : ByteArray := textV y.f0 y.f1 y.f2
def headB (x : S41) : List UInt8 := ((if x.f1 = true then [119, 101, 97, 107, 32] else [102, 117, 110, 32]) ++ x.f0.data.toList) ++ [10]
def bodyB (l : List S26) : List UInt8 := l.flatMap fun y => (insT y).data.toList ++ [10]
def funB (x : S41) : List UInt8 := headB x ++ bodyB x.f2
def unitB (l : List S41) : List UInt8 := l.flatMap funB
def unitTextV (l : List S41) : ByteArray := if unitOkB l = true then ⟨(unitB l).toArray⟩ else ⟨#[]⟩
/-- A function that is ok: its name and its instructions are short. -/
structure ShortF (x : S41) : Prop where
  name : x.f0.size ≤ 6
  len : x.f2.length ≤ 10
  ins : ∀ y ∈ x.f2, y.f2.size ≤ 6 ∧ (insT y).size ≤ 1020
theorem insT_size {y : S26} (h : insOkB y.f0 y.f1 y.f2 = true) : y.f2.size ≤ 6 ∧ (insT y).size ≤ 1020 := by
  obtain ⟨h1, h7, hb0, hb1⟩ := insOk_in h
  have hw := word_size h1 h7
  have hi := itoaS_size y.f1 hb0 hb1
  have h32 : (⟨#[32]⟩ : ByteArray).size = 1 := rfl
  have hs : y.f2.size ≤ 6 := by
    have h2 := h
    unfold insOkB at h2
    simp only [Bool.and_eq_true] at h2
    have h3 := h2.2.2
    by_cases hr : refersB y.f0 = true
    · rw [if_pos hr] at h3; exact (nameOk_size h3).2
    · rw [if_neg hr] at h3
      have h4 := beq_iff_eq.mp h3
      rw [Lib.toList_data] at h4
      have : y.f2.data.toList.length = y.f2.size := by simp
      rw [h4] at this
      have h5 : ([] : List UInt8).length = 0 := rfl
      omega
  refine ⟨hs, ?_⟩
  unfold insT textV
  rw [if_pos h]
  split
  · rw [ByteArray.size_append, ByteArray.size_append]; omega
  · split
    · rw [ByteArray.size_append, ByteArray.size_append]; omega
    · omega
theorem ok_short {l : List S41} (h : unitOkB l = true) : l.length ≤ 5 ∧ ∀ x ∈ l, ShortF x := by
  unfold unitOkB at h
  rw [Bool.and_eq_true, decide_eq_true_eq] at h
  refine ⟨h.2, ?_⟩
  have key : ∀ (m : List S41) (i : Nat), allFrom (fun i x => funOkB x.f0 x.f2 && (findI l x.f0 == (i : Int))) m i = true → ∀ x ∈ m, ShortF x := by
    intro m
    induction m with
    | nil => intro i _ x hx; cases hx
    | cons y m ih =>
      intro i h x hx
      simp only [allFrom, Bool.and_eq_true] at h
      rcases List.mem_cons.mp hx with rfl | hx
      · have hf := h.1.1
        have hl := funOkB_len hf
        unfold funOkB at hf
        simp only [Bool.and_eq_true, Bool.not_eq_true', List.any_eq_false, Bool.not_eq_true, Bool.not_eq_false] at hf
        exact ⟨(nameOk_size hf.1).2, hl.2, fun y hy => insT_size (hf.2.2.1 y hy)⟩
      · exact ih (i + 1) h.2 x hx
  exact key l 0 h.1
theorem bodyB_len : ∀ l : List S26, (∀ y ∈ l, (insT y).size ≤ 1020) → (bodyB l).length ≤ 1021 * l.length := by
  intro l
  induction l with
  | nil => intro _; exact Nat.le_refl _
  | cons y l ih =>
    intro h
    have h1 := ih (fun z hz => h z (List.mem_cons_of_mem _ hz))
    have h2 := h y List.mem_cons_self
    have h3 : (insT y).data.toList.length = (insT y).size := by simp
    unfold bodyB at h1 ⊢
    rw [List.flatMap_cons, List.length_append, List.length_append, List.length_cons, h3]
    simp only [List.length_cons, List.length_nil]
    omega
theorem headB_len {x : S41} (h : ShortF x) : (headB x).length ≤ 12 := by
  have h1 := h.name
  have h3 : x.f0.data.toList.length = x.f0.size := by simp
  unfold headB
  rw [List.length_append, List.length_append, h3]
  split <;> simp <;> omega
theorem unitB_len : ∀ l : List S41, (∀ x ∈ l, ShortF x) → (unitB l).length ≤ 10300 * l.length := by
  intro l
  induction l with
  | nil => intro _; exact Nat.le_refl _
  | cons x l ih =>
    intro h
    have h1 := ih (fun z hz => h z (List.mem_cons_of_mem _ hz))
    have h2 := h x List.mem_cons_self
    have h3 := headB_len h2
    have h4 := bodyB_len x.f2 (fun y hy => (h2.ins y hy).2)
    have h5 := h2.len
    unfold unitB at h1 ⊢
    rw [List.flatMap_cons, List.length_append, List.length_cons, show (funB x).length = (headB x).length + (bodyB x.f2).length by unfold funB; rw [List.length_append]]
    omega
theorem take_step {α : Type} (f : α → List UInt8) (d : α) (l : List α) (i : Nat) (h : i < l.length) : (l.take (i + 1)).flatMap f = (l.take i).flatMap f ++ f (l.getD i d) := by
  rw [List.take_add_one, List.flatMap_append, List.getD_eq_getElem?_getD, List.getElem?_eq_getElem h]
  simp
end Go.Proofs.YtajhjdhkeahlpaaDoor.L

/- impl.UnitText -/
namespace Go.Proofs.YtajhjdhkeahlpaaDoor.P
open Go.RowKit Go.Proofs.YtajhjdhkeahlpaaDoorW.PrintWords Go.Proofs.YtajhjdhkeahlpaaDoorW.PrintLast Go.Proofs.YtajhjdhkeahlpaaDoorW.PrintMore
attribute [local go_sem] max2_int min2_int max_two min_two max_three min_three max_four min_four
set_option linter.unusedVariables false
set_option linter.unusedSimpArgs false
open Go.Proofs.YtajhjdhkeahlpaaDoor.L in
/-- The text of a unit. (Not told of what is too long for any argument.) -/
def impl_UnitText.f (l0 : List S41) : Option ByteArray := if l0.length ≤ 140737488351232 ∧ (∀ x ∈ l0, x.f0.size ≤ 140737488351232 ∧ x.f2.length ≤ 140737488351232 ∧ ∀ y ∈ x.f2, y.f2.size ≤ 140737488351232) then some (unitTextV l0) else none
open Go.Proofs.YtajhjdhkeahlpaaDoor.L in
/-- A loop's variable is read behind a write into the builder. -/
theorem box_kept {B : Nat} {W w2 : World} {a b c : Value} (hot : Others B (W.alloc (.cells #[a, b, c] 41)) w2) (hge : B < W.heap.size) : w2.cell? ⟨W.heap.size, 2, none⟩ = some c := by
  have hn : (W.alloc (.cells #[a, b, c] 41)).heap[W.heap.size]? = some (.cells #[a, b, c] 41 (0, 0)) := blk_new W _
  have hlt : W.heap.size < (W.alloc (.cells #[a, b, c] 41)).heap.size := blk_lt hn
  have h := hot W.heap.size hlt (by omega) (fun cs t fz e => by
    rw [hn] at e
    have e2 := Option.some.inj e
    injection e2 with _ e3 _
    rw [← e3]
    decide)
  rw [hn] at h
  exact (blk_cell h 2).trans rfl
open Go.Proofs.YtajhjdhkeahlpaaDoor.L in
set_option maxHeartbeats 8000000 in
set_option maxRecDepth 100000 in
theorem impl_UnitText.calls (A0 : Option Addr) (c0 : Nat) (l0 : List S41) (r : ByteArray) (w : World) (hr0 : Kd.C k41 w A0 l0.length l0) (hc0 : l0.length ≤ c0) (h : impl_UnitText.f l0 = some r) (HT : Aside0 (Tens w)) :
    Calls Tryd.prog 26 #[.slice A0 l0.length c0] w fun e w' => e = .returned (.string r) ∧ Below w.heap.size w w' := by
 have hu41 := Tryd.underlying41
 have hu26 := Tryd.underlying26
 unfold impl_UnitText.f at h
 by_cases hf : l0.length ≤ 140737488351232 ∧ (∀ x ∈ l0, x.f0.size ≤ 140737488351232 ∧ x.f2.length ≤ 140737488351232 ∧ ∀ y ∈ x.f2, y.f2.size ≤ 140737488351232)
 case neg => rw [if_neg hf] at h; exact absurd h (by simp)
 rw [if_pos hf] at h
 obtain rfl := Option.some.inj h
 clear h
 have CU := Aside0.mk (impl_UnitOk.calls (l0.length + 1) A0 c0 l0 (unitOkB l0) w hr0 hc0 (impl_UnitOk_f l0 hf.1 hf.2 _ (Nat.lt_succ_self _)))
 clear hf
 cases hq : unitOkB l0 with
 | false =>
   rw [show unitTextV l0 = (⟨#[]⟩ : ByteArray) by unfold unitTextV; rw [hq]; exact if_neg (by decide)]
   rw [hq] at CU
   clear hq hr0 hc0
   go_enter Tryd.func26, Tryd.ntmps26
   go_wp2_with (go_at_call 24; refine CU.out.mono ?_; rintro e w' ⟨rfl, hb⟩)
   go_ret
   exact ⟨by first | rfl | simp, hb⟩
 | true =>
   rw [show unitTextV l0 = (⟨(unitB l0).toArray⟩ : ByteArray) by unfold unitTextV; rw [hq]; exact if_pos rfl]
   rw [hq] at CU
   obtain ⟨hl5, hsh⟩ := ok_short hq
   have HL5 := Aside0.mk hl5; have HSH := Aside0.mk hsh; have HR0 := Aside0.mk hr0
   have HUL := Aside0.mk (unitB_len l0 hsh)
   clear hq hr0 hc0 hl5 hsh
   go_enter Tryd.func26, Tryd.ntmps26
   go_wp2_with (go_at_call 24; refine CU.out.mono ?_; rintro e w1 ⟨rfl, hb⟩; have HB1 := Aside0.mk hb; clear hb)
   go_loopg [14] l0.length (fun gq v14 wr => ∃ x14 : Int, v14 = .int .i64 x14 ∧ Aside0 (0 ≤ x14) ∧ Aside0 (x14 ≤ l0.length) ∧ Aside0 (l0.length - x14.toNat ≤ gq) ∧ Aside0 (Bld w1.heap.size w1.heap.size (unitB (l0.take x14.toNat)) wr) ∧ Aside0 (Below w.heap.size w wr) ∧ Aside0 (w1.heap.size < wr.heap.size))
   case atStart => exact ⟨0, rfl, ⟨by omega⟩, ⟨by omega⟩, ⟨by omega⟩, ⟨Bld.fresh w1⟩, ⟨below_alloc HB1.out _⟩, ⟨by rw [World.size_alloc]; omega⟩⟩
   case round =>
     obtain ⟨x14, rfl, H0, H1, HG, HBL, HB, HGE⟩ := hrel
     by_cases hlt : x14 < (l0.length : Int)
     · have h14 := H0.out
       have hnat : x14.toNat < l0.length := by omega
       obtain ⟨ad, A2, c2, eA, hx0, hx1, hx2, hl2, hi2⟩ := at_T41 HR0.out x14 h14 hlt
       cases eA
       replace hx0 := (HB.out.cell (World.block_lt_of_cell? w _ hx0)).trans hx0
       replace hx1 := (HB.out.cell (World.block_lt_of_cell? w _ hx1)).trans hx1
       replace hx2 := (HB.out.cell (World.block_lt_of_cell? w _ hx2)).trans hx2
       have HI2 := Aside0.mk hi2
       have hmem : rd_T41 l0 x14 ∈ l0 := getD_mem hnat
       have hsx := HSH.out _ hmem
       have hst : (l0.take (x14.toNat + 1)).flatMap funB = (l0.take x14.toNat).flatMap funB ++ funB (rd_T41 l0 x14) := take_step funB z41 l0 x14.toNat hnat
       have HST := Aside0.mk (show unitB (l0.take (x14.toNat + 1)) = unitB (l0.take x14.toNat) ++ funB (rd_T41 l0 x14) from hst)
       have HLB := Aside0.mk (show (unitB (l0.take x14.toNat)).length ≤ 51500 from by
         have := unitB_len (l0.take x14.toNat) (fun z hz => HSH.out z (List.mem_of_mem_take hz))
         rw [List.length_take] at this
         have := HL5.out
         omega)
       clear hi2 hmem hst
       generalize rd_T41 l0 x14 = x at hx0 hx1 hx2 hl2 HI2 hsx HST
       generalize unitB (l0.take x14.toNat) = L at HBL HST HLB
       have HSX := Aside0.mk hsx
       have hn0 := hsx.name
       have hbl0 := hsx.len
       clear hsx
       have hq1 : (9223372036854775807 < 4 + x.f0.size) = False := eq_false (by omega)
       have hq2 : (9223372036854775807 < 5 + x.f0.size) = False := eq_false (by omega)
       have hq3 : (9223372036854775807 < 4 + x.f0.size + 1) = False := eq_false (by omega)
       have hq4 : (9223372036854775807 < 5 + x.f0.size + 1) = False := eq_false (by omega)
       have hli : decide (x14 < (l0.length : Int)) = true := decide_eq_true hlt
       have hl0 : decide (0 ≤ x14) = true := decide_eq_true h14
       have p14 := eq_true h14
       have q14 := eq_true hlt
       have HH := Aside0.mk (And.intro h14 hnat)
       have HN := Aside0.mk (And.intro hn0 hbl0)
       clear h14 hlt hnat hn0 hbl0
       cases hwk : x.f1 with
       | false =>
         rw [hwk] at hx1
         have HHB := Aside0.mk (show headB x = ((⟨#[102, 117, 110, 32]⟩ : ByteArray) ++ x.f0 ++ (⟨#[10]⟩ : ByteArray)).data.toList from by
           unfold headB
           rw [hwk, ByteArray.data_append, ByteArray.data_append, Array.toList_append, Array.toList_append]
           rfl)
         have HSZ := Aside0.mk (show ((⟨#[102, 117, 110, 32]⟩ : ByteArray) ++ x.f0 ++ (⟨#[10]⟩ : ByteArray)).size ≤ 12 from by
           rw [ByteArray.size_append, ByteArray.size_append]
           show 4 + x.f0.size + 1 ≤ 12
           have := HN.out.1
           omega)
         have hwb := Aside0.mk (fun (W : World) (h : Bld w1.heap.size w1.heap.size L W) (hg : w1.heap.size ≤ W.heap.size) => write_calls w1.heap.size w1.heap.size L ((⟨#[102, 117, 110, 32]⟩ : ByteArray) ++ x.f0 ++ (⟨#[10]⟩ : ByteArray)) W h (by have := HLB.out; have := HSZ.out; omega) hg)
         clear hwk
         go_wp2_with (go_at_call 50; refine (hwb.out _ (HBL.out.below (below_alloc (Below.refl _ _) _)) (by rw [World.size_alloc]; have := HGE.out; omega)).mono ?_; rintro e w2 ⟨rfl, hbl, hb2, hot⟩; have hbx : w2.cell? ⟨wr.heap.size, 2, none⟩ = some (.slice A2 x.f2.length c2) := box_kept hot HGE.out; have HBL2 := Aside0.mk hbl; have HB2 := Aside0.mk ((below_alloc HB.out _).trans (hb2.mono (by have := HB1.out.size; omega))); have HGE2 := Aside0.mk (show w1.heap.size < w2.heap.size from by have := hb2.size; rw [World.size_alloc] at this; have := HGE.out; omega); clear hbl hb2 hot)
         go_loopg [29] x.f2.length (fun gr v29 wi => ∃ x29 : Int, v29 = .int .i64 x29 ∧ Aside0 (0 ≤ x29) ∧ Aside0 (x29 ≤ x.f2.length) ∧ Aside0 (x.f2.length - x29.toNat ≤ gr) ∧ Aside0 (Bld w1.heap.size w1.heap.size (L ++ headB x ++ bodyB (x.f2.take x29.toNat)) wi) ∧ Aside0 (Below w.heap.size w wi) ∧ Aside0 (w1.heap.size < wi.heap.size))
         case atStart => exact ⟨0, rfl, ⟨by omega⟩, ⟨by omega⟩, ⟨by omega⟩, ⟨by have := HBL2.out; rw [← HHB.out] at this; rw [show x.f2.take (0 : Int).toNat = [] from rfl]; simpa [bodyB] using this⟩, HB2, HGE2⟩
         case round =>
           obtain ⟨x29, rfl, J0, J1, JG, JBL, JB, JGE⟩ := hrel
           by_cases hjt : x29 < (x.f2.length : Int)
           · have h29 := J0.out
             have hjn : x29.toNat < x.f2.length := by omega
             obtain ⟨ad2, eA2, hy0, hy1, hy2⟩ := at_T26 HI2.out x29 h29 hjt
             cases eA2
             replace hy0 := (JB.out.cell (World.block_lt_of_cell? w _ hy0)).trans hy0
             replace hy1 := (JB.out.cell (World.block_lt_of_cell? w _ hy1)).trans hy1
             replace hy2 := (JB.out.cell (World.block_lt_of_cell? w _ hy2)).trans hy2
             have hmy : rd_T26 x.f2 x29 ∈ x.f2 := getD_mem hjn
             have hsy := HSX.out.ins _ hmy
             have hst : bodyB (x.f2.take (x29.toNat + 1)) = bodyB (x.f2.take x29.toNat) ++ ((insT (rd_T26 x.f2 x29)).data.toList ++ [10]) := take_step (fun y => (insT y).data.toList ++ [10]) z26 x.f2 x29.toNat hjn
             have HST2 := Aside0.mk hst
             have HLB2 := Aside0.mk (show (L ++ headB x ++ bodyB (x.f2.take x29.toNat)).length ≤ 100000 from by
               have a1 := bodyB_len (x.f2.take x29.toNat) (fun z hz => (HSX.out.ins z (List.mem_of_mem_take hz)).2)
               have a2 := headB_len HSX.out
               have a3 := HLB.out
               have a4 := HN.out.2
               rw [List.length_take] at a1
               rw [List.length_append, List.length_append]
               omega)
             clear hmy hst
             generalize rd_T26 x.f2 x29 = y at hy0 hy1 hy2 hsy HST2
             have HM := Aside0.mk (show ∀ u : List UInt8, L ++ headB x ++ (bodyB (x.f2.take x29.toNat) ++ u) = (L ++ headB x ++ bodyB (x.f2.take x29.toNat)) ++ u from fun u => (List.append_assoc _ _ _).symm)
             generalize L ++ headB x ++ bodyB (x.f2.take x29.toNat) = M at JBL HLB2 HM
             have CI := Aside0.mk (fun (W : World) (hb : Below w.heap.size w W) => impl_InsText.calls (y.f2.size + 1) y.f0 y.f1 y.f2 (insT y) W (impl_InsText_f y.f0 y.f1 y.f2 (by omega) _ (Nat.lt_succ_self _)) ⟨HT.out.below hb⟩)
             have hs1 := hsy.2
             generalize insT y = ty at CI hs1 HST2
             have hq5 : (9223372036854775807 < ty.size + 1) = False := eq_false (by omega)
             have hwc := Aside0.mk (fun (W : World) (h : Bld w1.heap.size w1.heap.size M W) (hg : w1.heap.size ≤ W.heap.size) => write_calls w1.heap.size w1.heap.size M (ty ++ (⟨#[10]⟩ : ByteArray)) W h (by have := HLB2.out; rw [ByteArray.size_append]; show M.length + (ty.size + 1) ≤ _; omega) hg)
             have hji : decide (x29 < (x.f2.length : Int)) = true := decide_eq_true hjt
             have hj0 : decide (0 ≤ x29) = true := decide_eq_true h29
             have r29 := eq_true h29
             have s29 := eq_true hjt
             have JH := Aside0.mk (And.intro h29 hjn)
             clear hsy hs1 h29 hjt hjn
             go_wp2_with (first
               | (go_at_call 12; refine (CI.out _ (below_alloc JB.out _)).mono ?_; rintro e w4 ⟨rfl, hb⟩; have JB2 := Aside0.mk (below_step (below_alloc JB.out _) hb); have JBL2 := Aside0.mk ((JBL.out.below (below_alloc (Below.refl _ _) _)).below hb); have JGE2 := Aside0.mk (show w1.heap.size < w4.heap.size from by have := hb.size; rw [World.size_alloc] at this; have := JGE.out; omega); clear hb)
               | (go_at_call 50; refine (hwc.out _ JBL2.out (by have := JGE2.out; omega)).mono ?_; rintro e w5 ⟨rfl, hbl, hb5, _⟩; have JBL3 := Aside0.mk hbl; have JB3 := Aside0.mk (JB2.out.trans (hb5.mono (by have := HB1.out.size; omega))); have JGE3 := Aside0.mk (show w1.heap.size < w5.heap.size from by have := hb5.size; have := JGE2.out; omega); clear hbl hb5))
             have hw29 : wrap64 (x29 + 1) = x29 + 1 := wrap_id (by have := JH.out; omega) (by have := JH.out; have := HN.out; omega)
             go_roundg (x.f2.length - (x29.toNat + 1))
             case measure => have := JG.out; have := JH.out; omega
             case rel =>
               have hn5 : (x29 + 1).toNat = x29.toNat + 1 := by have := JH.out; omega
               refine ⟨x29 + 1, by rw [hw29], ⟨by have := JH.out; omega⟩, ⟨by have := JH.out; omega⟩, ⟨by rw [hn5]; omega⟩, ⟨?_⟩, JB3, JGE3⟩
               rw [hn5, HST2.out, HM.out]
               have := JBL3.out
               rw [ByteArray.data_append, Array.toList_append] at this
               exact this
           · have hji : decide (x29 < (x.f2.length : Int)) = false := decide_eq_false hjt
             have e1 : x.f2.take x29.toNat = x.f2 := List.take_of_length_le (by have := J0.out; omega)
             have JBL2 := Aside0.mk (show Bld w1.heap.size w1.heap.size (L ++ funB x) wr from by have := JBL.out; rw [e1, List.append_assoc] at this; exact this)
             clear e1
             go_wp2
             have hw14 : wrap64 (x14 + 1) = x14 + 1 := wrap_id (by have := HH.out; omega) (by have := HH.out; have := HL5.out; omega)
             go_roundg (l0.length - (x14.toNat + 1))
             case measure => have := HG.out; have := HH.out; omega
             case rel =>
               have hn5 : (x14 + 1).toNat = x14.toNat + 1 := by have := HH.out; omega
               exact ⟨x14 + 1, by rw [hw14], ⟨by have := HH.out; omega⟩, ⟨by have := HH.out; omega⟩, ⟨by rw [hn5]; omega⟩, ⟨by rw [hn5, HST.out]; exact JBL2.out⟩, JB, JGE⟩
       | true =>
         rw [hwk] at hx1
         have HHB := Aside0.mk (show headB x = ((⟨#[119, 101, 97, 107, 32]⟩ : ByteArray) ++ x.f0 ++ (⟨#[10]⟩ : ByteArray)).data.toList from by
           unfold headB
           rw [hwk, ByteArray.data_append, ByteArray.data_append, Array.toList_append, Array.toList_append]
           rfl)
         have HSZ := Aside0.mk (show ((⟨#[119, 101, 97, 107, 32]⟩ : ByteArray) ++ x.f0 ++ (⟨#[10]⟩ : ByteArray)).size ≤ 12 from by
           rw [ByteArray.size_append, ByteArray.size_append]
           show 5 + x.f0.size + 1 ≤ 12
           have := HN.out.1
           omega)
         have hwb := Aside0.mk (fun (W : World) (h : Bld w1.heap.size w1.heap.size L W) (hg : w1.heap.size ≤ W.heap.size) => write_calls w1.heap.size w1.heap.size L ((⟨#[119, 101, 97, 107, 32]⟩ : ByteArray) ++ x.f0 ++ (⟨#[10]⟩ : ByteArray)) W h (by have := HLB.out; have := HSZ.out; omega) hg)
         clear hwk
         go_wp2_with (go_at_call 50; refine (hwb.out _ (HBL.out.below (below_alloc (Below.refl _ _) _)) (by rw [World.size_alloc]; have := HGE.out; omega)).mono ?_; rintro e w2 ⟨rfl, hbl, hb2, hot⟩; have hbx : w2.cell? ⟨wr.heap.size, 2, none⟩ = some (.slice A2 x.f2.length c2) := box_kept hot HGE.out; have HBL2 := Aside0.mk hbl; have HB2 := Aside0.mk ((below_alloc HB.out _).trans (hb2.mono (by have := HB1.out.size; omega))); have HGE2 := Aside0.mk (show w1.heap.size < w2.heap.size from by have := hb2.size; rw [World.size_alloc] at this; have := HGE.out; omega); clear hbl hb2 hot)
         go_loopg [29] x.f2.length (fun gr v29 wi => ∃ x29 : Int, v29 = .int .i64 x29 ∧ Aside0 (0 ≤ x29) ∧ Aside0 (x29 ≤ x.f2.length) ∧ Aside0 (x.f2.length - x29.toNat ≤ gr) ∧ Aside0 (Bld w1.heap.size w1.heap.size (L ++ headB x ++ bodyB (x.f2.take x29.toNat)) wi) ∧ Aside0 (Below w.heap.size w wi) ∧ Aside0 (w1.heap.size < wi.heap.size))
         case atStart => exact ⟨0, rfl, ⟨by omega⟩, ⟨by omega⟩, ⟨by omega⟩, ⟨by have := HBL2.out; rw [← HHB.out] at this; rw [show x.f2.take (0 : Int).toNat = [] from rfl]; simpa [bodyB] using this⟩, HB2, HGE2⟩
         case round =>
           obtain ⟨x29, rfl, J0, J1, JG, JBL, JB, JGE⟩ := hrel
           by_cases hjt : x29 < (x.f2.length : Int)
           · have h29 := J0.out
             have hjn : x29.toNat < x.f2.length := by omega
             obtain ⟨ad2, eA2, hy0, hy1, hy2⟩ := at_T26 HI2.out x29 h29 hjt
             cases eA2
             replace hy0 := (JB.out.cell (World.block_lt_of_cell? w _ hy0)).trans hy0
             replace hy1 := (JB.out.cell (World.block_lt_of_cell? w _ hy1)).trans hy1
             replace hy2 := (JB.out.cell (World.block_lt_of_cell? w _ hy2)).trans hy2
             have hmy : rd_T26 x.f2 x29 ∈ x.f2 := getD_mem hjn
             have hsy := HSX.out.ins _ hmy
             have hst : bodyB (x.f2.take (x29.toNat + 1)) = bodyB (x.f2.take x29.toNat) ++ ((insT (rd_T26 x.f2 x29)).data.toList ++ [10]) := take_step (fun y => (insT y).data.toList ++ [10]) z26 x.f2 x29.toNat hjn
             have HST2 := Aside0.mk hst
             have HLB2 := Aside0.mk (show (L ++ headB x ++ bodyB (x.f2.take x29.toNat)).length ≤ 100000 from by
               have a1 := bodyB_len (x.f2.take x29.toNat) (fun z hz => (HSX.out.ins z (List.mem_of_mem_take hz)).2)
               have a2 := headB_len HSX.out
               have a3 := HLB.out
               have a4 := HN.out.2
               rw [List.length_take] at a1
               rw [List.length_append, List.length_append]
               omega)
             clear hmy hst
             generalize rd_T26 x.f2 x29 = y at hy0 hy1 hy2 hsy HST2
             have HM := Aside0.mk (show ∀ u : List UInt8, L ++ headB x ++ (bodyB (x.f2.take x29.toNat) ++ u) = (L ++ headB x ++ bodyB (x.f2.take x29.toNat)) ++ u from fun u => (List.append_assoc _ _ _).symm)
             generalize L ++ headB x ++ bodyB (x.f2.take x29.toNat) = M at JBL HLB2 HM
             have CI := Aside0.mk (fun (W : World) (hb : Below w.heap.size w W) => impl_InsText.calls (y.f2.size + 1) y.f0 y.f1 y.f2 (insT y) W (impl_InsText_f y.f0 y.f1 y.f2 (by omega) _ (Nat.lt_succ_self _)) ⟨HT.out.below hb⟩)
             have hs1 := hsy.2
             generalize insT y = ty at CI hs1 HST2
             have hq5 : (9223372036854775807 < ty.size + 1) = False := eq_false (by omega)
             have hwc := Aside0.mk (fun (W : World) (h : Bld w1.heap.size w1.heap.size M W) (hg : w1.heap.size ≤ W.heap.size) => write_calls w1.heap.size w1.heap.size M (ty ++ (⟨#[10]⟩ : ByteArray)) W h (by have := HLB2.out; rw [ByteArray.size_append]; show M.length + (ty.size + 1) ≤ _; omega) hg)
             have hji : decide (x29 < (x.f2.length : Int)) = true := decide_eq_true hjt
             have hj0 : decide (0 ≤ x29) = true := decide_eq_true h29
             have r29 := eq_true h29
             have s29 := eq_true hjt
             have JH := Aside0.mk (And.intro h29 hjn)
             clear hsy hs1 h29 hjt hjn
             go_wp2_with (first
               | (go_at_call 12; refine (CI.out _ (below_alloc JB.out _)).mono ?_; rintro e w4 ⟨rfl, hb⟩; have JB2 := Aside0.mk (below_step (below_alloc JB.out _) hb); have JBL2 := Aside0.mk ((JBL.out.below (below_alloc (Below.refl _ _) _)).below hb); have JGE2 := Aside0.mk (show w1.heap.size < w4.heap.size from by have := hb.size; rw [World.size_alloc] at this; have := JGE.out; omega); clear hb)
               | (go_at_call 50; refine (hwc.out _ JBL2.out (by have := JGE2.out; omega)).mono ?_; rintro e w5 ⟨rfl, hbl, hb5, _⟩; have JBL3 := Aside0.mk hbl; have JB3 := Aside0.mk (JB2.out.trans (hb5.mono (by have := HB1.out.size; omega))); have JGE3 := Aside0.mk (show w1.heap.size < w5.heap.size from by have := hb5.size; have := JGE2.out; omega); clear hbl hb5))
             have hw29 : wrap64 (x29 + 1) = x29 + 1 := wrap_id (by have := JH.out; omega) (by have := JH.out; have := HN.out; omega)
             go_roundg (x.f2.length - (x29.toNat + 1))
             case measure => have := JG.out; have := JH.out; omega
             case rel =>
               have hn5 : (x29 + 1).toNat = x29.toNat + 1 := by have := JH.out; omega
               refine ⟨x29 + 1, by rw [hw29], ⟨by have := JH.out; omega⟩, ⟨by have := JH.out; omega⟩, ⟨by rw [hn5]; omega⟩, ⟨?_⟩, JB3, JGE3⟩
               rw [hn5, HST2.out, HM.out]
               have := JBL3.out
               rw [ByteArray.data_append, Array.toList_append] at this
               exact this
           · have hji : decide (x29 < (x.f2.length : Int)) = false := decide_eq_false hjt
             have e1 : x.f2.take x29.toNat = x.f2 := List.take_of_length_le (by have := J0.out; omega)
             have JBL2 := Aside0.mk (show Bld w1.heap.size w1.heap.size (L ++ funB x) wr from by have := JBL.out; rw [e1, List.append_assoc] at this; exact this)
             clear e1
             go_wp2
             have hw14 : wrap64 (x14 + 1) = x14 + 1 := wrap_id (by have := HH.out; omega) (by have := HH.out; have := HL5.out; omega)
             go_roundg (l0.length - (x14.toNat + 1))
             case measure => have := HG.out; have := HH.out; omega
             case rel =>
               have hn5 : (x14 + 1).toNat = x14.toNat + 1 := by have := HH.out; omega
               exact ⟨x14 + 1, by rw [hw14], ⟨by have := HH.out; omega⟩, ⟨by have := HH.out; omega⟩, ⟨by rw [hn5]; omega⟩, ⟨by rw [hn5, HST.out]; exact JBL2.out⟩, JB, JGE⟩
     · have hli : decide (x14 < (l0.length : Int)) = false := decide_eq_false hlt
       have e1 : l0.take x14.toNat = l0 := List.take_of_length_le (by have := H0.out; omega)
       have HBL2 := Aside0.mk (show Bld w1.heap.size w1.heap.size (unitB l0) wr from by have := HBL.out; rwa [e1] at this)
       clear e1
       have CS := Aside0.mk (string_calls w1.heap.size w1.heap.size (unitB l0) wr HBL2.out (by have := HGE.out; omega))
       go_wp2_with (go_at_call 51; refine CS.out.mono ?_; rintro e w3 ⟨rfl, hb3⟩)
       go_ret
       exact ⟨by first | rfl | simp, HB.out.trans (hb3.mono (by have := HB1.out.size; omega))⟩

end Go.Proofs.YtajhjdhkeahlpaaDoor.P

-- made by printx.py (own driver over the kit's print); Lean checks it
namespace Go.Proofs.YtajhjdhkeahlpaaDoor.P
open Go.RowKit Go.Proofs.YtajhjdhkeahlpaaDoorW.PrintWords Go.Proofs.YtajhjdhkeahlpaaDoorW.PrintLast Go.Proofs.YtajhjdhkeahlpaaDoorW.PrintMore
attribute [local go_sem] max2_int min2_int max_two min_two max_three min_three max_four min_four   -- for this text's walks alone
set_option linter.unusedVariables false
set_option linter.unusedSimpArgs false

/-! ### laws_eqIns: function 33 -/
def laws_eqIns.f (a0_0 : Int) (a0_1 : Int) (a0_2 : ByteArray) (a1_0 : Int) (a1_1 : Int) (a1_2 : ByteArray) : Option (Bool) := if a0_0 = a1_0 then (if a0_1 = a1_1 then (if a0_2.toList = a1_2.toList then (some true) else (some false)) else (some false)) else (some false)
set_option maxHeartbeats 8000000 in
set_option maxRecDepth 100000 in
theorem laws_eqIns.calls (a0_0 : Int) (a0_1 : Int) (a0_2 : ByteArray) (a1_0 : Int) (a1_1 : Int) (a1_2 : ByteArray) (r : Bool) (w : World) (h : laws_eqIns.f a0_0 a0_1 a0_2 a1_0 a1_1 a1_2 = some r) :
    Calls Tryd.prog 33 #[.agg #[.int .i64 a0_0, .int .i64 a0_1, .string a0_2], .agg #[.int .i64 a1_0, .int .i64 a1_1, .string a1_2]] w fun e w' => e = .returned (.bool r) ∧ Below w.heap.size w w' := by
 have hu26 := Tryd.underlying26
 have HB := Aside0.mk (Below.refl w.heap.size w)
 have H : (if a0_0 = a1_0 then (if a0_1 = a1_1 then (if a0_2.toList = a1_2.toList then (some true) else (some false)) else (some false)) else (some false)) = some r := h
 clear h
 by_cases c3 : a0_0 = a1_0
 · rw [if_pos c3] at H
   have c3b0 : (a0_0 == a1_0) = true := beq_iff_eq.mpr c3
   have c3b1 : (a0_0 != a1_0) = false := bne_eq_false_iff_eq.mpr c3
   clear c3
   by_cases c4 : a0_1 = a1_1
   · rw [if_pos c4] at H
     have c4b0 : (a0_1 == a1_1) = true := beq_iff_eq.mpr c4
     have c4b1 : (a0_1 != a1_1) = false := bne_eq_false_iff_eq.mpr c4
     clear c4
     by_cases c5 : a0_2.toList = a1_2.toList
     · rw [if_pos c5] at H
       have c5b0 : (a0_2.toList == a1_2.toList) = true := beq_iff_eq.mpr c5
       have c5b1 : (a0_2.toList != a1_2.toList) = false := bne_eq_false_iff_eq.mpr c5
       clear c5
       obtain rfl := Option.some.inj H
       go_enter Tryd.func33, Tryd.ntmps33
       go_wp2_with (first | ((with_reducible refine gate_dst (N := 2) rfl ?_); refine box_event ?hg (N := 2) ?hd (cs := #[.int .i64 a0_0, .int .i64 a0_1, .string a0_2]) (t := 26) ?hr ?_; (case hd => rfl); (case hg => rfl); (case hr => first | (go_simp; done) | (go_simp; rfl)); intro gb416 hg w6 hbox hb; have n0_ := Aside0.mk (below_step (by repeat (first | (with_reducible first | exact HB.out | apply below_alloc | apply pw_below_drewN | apply below_drew1) | exact HB.out)) hb); have n1_ := Aside0.mk (hbox); have n2_ := Aside0.mk ((by rw [hg]; exact (below_size (by repeat (first | (with_reducible first | exact HB.out | apply below_alloc | apply pw_below_drewN | apply below_drew1) | exact HB.out))) : w.heap.size ≤ gb416)); have n3_ := Aside0.mk ((by rw [hg]; exact (below_size (by repeat (first | (with_reducible first | exact HB.out | apply below_alloc | apply pw_below_drewN | apply below_drew1) | exact HB.out))) : w.heap.size ≤ gb416)); clear HB; have HB := n0_; have BK416 := n1_; have GW416 := n2_; have GE416 := n3_; clear n0_ n1_ n2_ n3_ hb hbox hg) | ((with_reducible refine gate_dst (N := 3) rfl ?_); refine box_event ?hg (N := 3) ?hd (cs := #[.int .i64 a1_0, .int .i64 a1_1, .string a1_2]) (t := 26) ?hr ?_; (case hd => rfl); (case hg => rfl); (case hr => first | (go_simp; done) | (go_simp; rfl)); intro gb417 hg w7 hbox hb; have n0_ := Aside0.mk (blk_below (g := gb416) (o := .cells #[.int .i64 a0_0, .int .i64 a0_1, .string a0_2] 26 (0, 0)) (by (with_reducible repeat (first | refine blk_drewN ?_ _ | refine blk_drew ?_ | refine blk_alloc ?_ _)); exact BK416.out) hb); have n1_ := Aside0.mk (below_step (by repeat (first | (with_reducible first | exact HB.out | apply below_alloc | apply pw_below_drewN | apply below_drew1 | refine below_set ?_ GE416.out) | exact HB.out)) hb); have n2_ := Aside0.mk (hbox); have n3_ := Aside0.mk ((by rw [hg]; exact (below_size (by repeat (first | (with_reducible first | exact HB.out | apply below_alloc | apply pw_below_drewN | apply below_drew1 | refine below_set ?_ GE416.out) | exact HB.out))) : w.heap.size ≤ gb417)); have n4_ := Aside0.mk ((by rw [hg]; exact (below_size (by repeat (first | (with_reducible first | exact HB.out | apply below_alloc | apply pw_below_drewN | apply below_drew1 | refine below_set ?_ GE416.out) | exact HB.out))) : w.heap.size ≤ gb417)); have n5_ := Aside0.mk ((by rw [hg]; exact Nat.ne_of_lt (blk_lt (g := gb416) (o := .cells #[.int .i64 a0_0, .int .i64 a0_1, .string a0_2] 26 (0, 0)) (by (with_reducible repeat (first | refine blk_drewN ?_ _ | refine blk_drew ?_ | refine blk_alloc ?_ _)); exact BK416.out)) : gb416 ≠ gb417)); have n6_ := Aside0.mk ((by rw [hg]; exact Nat.ne_of_gt (blk_lt (g := gb416) (o := .cells #[.int .i64 a0_0, .int .i64 a0_1, .string a0_2] 26 (0, 0)) (by (with_reducible repeat (first | refine blk_drewN ?_ _ | refine blk_drew ?_ | refine blk_alloc ?_ _)); exact BK416.out)) : gb417 ≠ gb416)); clear BK416 HB; have BK416 := n0_; have HB := n1_; have BK417 := n2_; have GW417 := n3_; have GE417 := n4_; have NB416_417 := n5_; have NB417_416 := n6_; clear n0_ n1_ n2_ n3_ n4_ n5_ n6_ hb hbox hg; have hnb8 := NB416_417.out; have hnc8 := NB417_416.out; have hcz9_0 : w7.cell? ⟨gb416, 0, none⟩ = some (.int .i64 a0_0) := (blk_cell BK416.out 0).trans rfl; have hcz9_1 : w7.cell? ⟨gb416, 1, none⟩ = some (.int .i64 a0_1) := (blk_cell BK416.out 1).trans rfl; have hcz9_2 : w7.cell? ⟨gb416, 2, none⟩ = some (.string a0_2) := (blk_cell BK416.out 2).trans rfl; have hfz9_0 := blk_frozen BK416.out 0; have hfz9_1 := blk_frozen BK416.out 1; have hfz9_2 := blk_frozen BK416.out 2; have hcz10_0 : w7.cell? ⟨gb417, 0, none⟩ = some (.int .i64 a1_0) := (blk_cell BK417.out 0).trans rfl; have hcz10_1 : w7.cell? ⟨gb417, 1, none⟩ = some (.int .i64 a1_1) := (blk_cell BK417.out 1).trans rfl; have hcz10_2 : w7.cell? ⟨gb417, 2, none⟩ = some (.string a1_2) := (blk_cell BK417.out 2).trans rfl; have hfz10_0 := blk_frozen BK417.out 0; have hfz10_1 := blk_frozen BK417.out 1; have hfz10_2 := blk_frozen BK417.out 2))
       go_ret
       exact ⟨by first | rfl | (simp [errW_none, errW_some] <;> rfl) | (simp [*, errW_none, errW_some] <;> rfl), by repeat (first | (with_reducible first | exact HB.out | apply below_alloc | apply pw_below_drewN | apply below_drew1 | refine below_set ?_ GE416.out | refine below_set ?_ GE417.out) | exact HB.out)⟩
     rw [if_neg c5] at H
     have c5b0 : (a0_2.toList == a1_2.toList) = false := beq_eq_false_iff_ne.mpr c5
     have c5b1 : (a0_2.toList != a1_2.toList) = true := bne_iff_ne.mpr c5
     obtain rfl := Option.some.inj H
     go_enter Tryd.func33, Tryd.ntmps33
     go_wp2_with (first | ((with_reducible refine gate_dst (N := 2) rfl ?_); refine box_event ?hg (N := 2) ?hd (cs := #[.int .i64 a0_0, .int .i64 a0_1, .string a0_2]) (t := 26) ?hr ?_; (case hd => rfl); (case hg => rfl); (case hr => first | (go_simp; done) | (go_simp; rfl)); intro gb416 hg w11 hbox hb; have n0_ := Aside0.mk (below_step (by repeat (first | (with_reducible first | exact HB.out | apply below_alloc | apply pw_below_drewN | apply below_drew1) | exact HB.out)) hb); have n1_ := Aside0.mk (hbox); have n2_ := Aside0.mk ((by rw [hg]; exact (below_size (by repeat (first | (with_reducible first | exact HB.out | apply below_alloc | apply pw_below_drewN | apply below_drew1) | exact HB.out))) : w.heap.size ≤ gb416)); have n3_ := Aside0.mk ((by rw [hg]; exact (below_size (by repeat (first | (with_reducible first | exact HB.out | apply below_alloc | apply pw_below_drewN | apply below_drew1) | exact HB.out))) : w.heap.size ≤ gb416)); clear HB; have HB := n0_; have BK416 := n1_; have GW416 := n2_; have GE416 := n3_; clear n0_ n1_ n2_ n3_ hb hbox hg) | ((with_reducible refine gate_dst (N := 3) rfl ?_); refine box_event ?hg (N := 3) ?hd (cs := #[.int .i64 a1_0, .int .i64 a1_1, .string a1_2]) (t := 26) ?hr ?_; (case hd => rfl); (case hg => rfl); (case hr => first | (go_simp; done) | (go_simp; rfl)); intro gb417 hg w12 hbox hb; have n0_ := Aside0.mk (blk_below (g := gb416) (o := .cells #[.int .i64 a0_0, .int .i64 a0_1, .string a0_2] 26 (0, 0)) (by (with_reducible repeat (first | refine blk_drewN ?_ _ | refine blk_drew ?_ | refine blk_alloc ?_ _)); exact BK416.out) hb); have n1_ := Aside0.mk (below_step (by repeat (first | (with_reducible first | exact HB.out | apply below_alloc | apply pw_below_drewN | apply below_drew1 | refine below_set ?_ GE416.out) | exact HB.out)) hb); have n2_ := Aside0.mk (hbox); have n3_ := Aside0.mk ((by rw [hg]; exact (below_size (by repeat (first | (with_reducible first | exact HB.out | apply below_alloc | apply pw_below_drewN | apply below_drew1 | refine below_set ?_ GE416.out) | exact HB.out))) : w.heap.size ≤ gb417)); have n4_ := Aside0.mk ((by rw [hg]; exact (below_size (by repeat (first | (with_reducible first | exact HB.out | apply below_alloc | apply pw_below_drewN | apply below_drew1 | refine below_set ?_ GE416.out) | exact HB.out))) : w.heap.size ≤ gb417)); have n5_ := Aside0.mk ((by rw [hg]; exact Nat.ne_of_lt (blk_lt (g := gb416) (o := .cells #[.int .i64 a0_0, .int .i64 a0_1, .string a0_2] 26 (0, 0)) (by (with_reducible repeat (first | refine blk_drewN ?_ _ | refine blk_drew ?_ | refine blk_alloc ?_ _)); exact BK416.out)) : gb416 ≠ gb417)); have n6_ := Aside0.mk ((by rw [hg]; exact Nat.ne_of_gt (blk_lt (g := gb416) (o := .cells #[.int .i64 a0_0, .int .i64 a0_1, .string a0_2] 26 (0, 0)) (by (with_reducible repeat (first | refine blk_drewN ?_ _ | refine blk_drew ?_ | refine blk_alloc ?_ _)); exact BK416.out)) : gb417 ≠ gb416)); clear BK416 HB; have BK416 := n0_; have HB := n1_; have BK417 := n2_; have GW417 := n3_; have GE417 := n4_; have NB416_417 := n5_; have NB417_416 := n6_; clear n0_ n1_ n2_ n3_ n4_ n5_ n6_ hb hbox hg; have hnb13 := NB416_417.out; have hnc13 := NB417_416.out; have hcz14_0 : w12.cell? ⟨gb416, 0, none⟩ = some (.int .i64 a0_0) := (blk_cell BK416.out 0).trans rfl; have hcz14_1 : w12.cell? ⟨gb416, 1, none⟩ = some (.int .i64 a0_1) := (blk_cell BK416.out 1).trans rfl; have hcz14_2 : w12.cell? ⟨gb416, 2, none⟩ = some (.string a0_2) := (blk_cell BK416.out 2).trans rfl; have hfz14_0 := blk_frozen BK416.out 0; have hfz14_1 := blk_frozen BK416.out 1; have hfz14_2 := blk_frozen BK416.out 2; have hcz15_0 : w12.cell? ⟨gb417, 0, none⟩ = some (.int .i64 a1_0) := (blk_cell BK417.out 0).trans rfl; have hcz15_1 : w12.cell? ⟨gb417, 1, none⟩ = some (.int .i64 a1_1) := (blk_cell BK417.out 1).trans rfl; have hcz15_2 : w12.cell? ⟨gb417, 2, none⟩ = some (.string a1_2) := (blk_cell BK417.out 2).trans rfl; have hfz15_0 := blk_frozen BK417.out 0; have hfz15_1 := blk_frozen BK417.out 1; have hfz15_2 := blk_frozen BK417.out 2))
     go_ret
     exact ⟨by first | rfl | (simp [errW_none, errW_some] <;> rfl) | (simp [*, errW_none, errW_some] <;> rfl), by repeat (first | (with_reducible first | exact HB.out | apply below_alloc | apply pw_below_drewN | apply below_drew1 | refine below_set ?_ GE416.out | refine below_set ?_ GE417.out) | exact HB.out)⟩
   rw [if_neg c4] at H
   have c4b0 : (a0_1 == a1_1) = false := beq_eq_false_iff_ne.mpr c4
   have c4b1 : (a0_1 != a1_1) = true := bne_iff_ne.mpr c4
   obtain rfl := Option.some.inj H
   go_enter Tryd.func33, Tryd.ntmps33
   go_wp2_with (first | ((with_reducible refine gate_dst (N := 2) rfl ?_); refine box_event ?hg (N := 2) ?hd (cs := #[.int .i64 a0_0, .int .i64 a0_1, .string a0_2]) (t := 26) ?hr ?_; (case hd => rfl); (case hg => rfl); (case hr => first | (go_simp; done) | (go_simp; rfl)); intro gb416 hg w16 hbox hb; have n0_ := Aside0.mk (below_step (by repeat (first | (with_reducible first | exact HB.out | apply below_alloc | apply pw_below_drewN | apply below_drew1) | exact HB.out)) hb); have n1_ := Aside0.mk (hbox); have n2_ := Aside0.mk ((by rw [hg]; exact (below_size (by repeat (first | (with_reducible first | exact HB.out | apply below_alloc | apply pw_below_drewN | apply below_drew1) | exact HB.out))) : w.heap.size ≤ gb416)); have n3_ := Aside0.mk ((by rw [hg]; exact (below_size (by repeat (first | (with_reducible first | exact HB.out | apply below_alloc | apply pw_below_drewN | apply below_drew1) | exact HB.out))) : w.heap.size ≤ gb416)); clear HB; have HB := n0_; have BK416 := n1_; have GW416 := n2_; have GE416 := n3_; clear n0_ n1_ n2_ n3_ hb hbox hg) | ((with_reducible refine gate_dst (N := 3) rfl ?_); refine box_event ?hg (N := 3) ?hd (cs := #[.int .i64 a1_0, .int .i64 a1_1, .string a1_2]) (t := 26) ?hr ?_; (case hd => rfl); (case hg => rfl); (case hr => first | (go_simp; done) | (go_simp; rfl)); intro gb417 hg w17 hbox hb; have n0_ := Aside0.mk (blk_below (g := gb416) (o := .cells #[.int .i64 a0_0, .int .i64 a0_1, .string a0_2] 26 (0, 0)) (by (with_reducible repeat (first | refine blk_drewN ?_ _ | refine blk_drew ?_ | refine blk_alloc ?_ _)); exact BK416.out) hb); have n1_ := Aside0.mk (below_step (by repeat (first | (with_reducible first | exact HB.out | apply below_alloc | apply pw_below_drewN | apply below_drew1 | refine below_set ?_ GE416.out) | exact HB.out)) hb); have n2_ := Aside0.mk (hbox); have n3_ := Aside0.mk ((by rw [hg]; exact (below_size (by repeat (first | (with_reducible first | exact HB.out | apply below_alloc | apply pw_below_drewN | apply below_drew1 | refine below_set ?_ GE416.out) | exact HB.out))) : w.heap.size ≤ gb417)); have n4_ := Aside0.mk ((by rw [hg]; exact (below_size (by repeat (first | (with_reducible first | exact HB.out | apply below_alloc | apply pw_below_drewN | apply below_drew1 | refine below_set ?_ GE416.out) | exact HB.out))) : w.heap.size ≤ gb417)); have n5_ := Aside0.mk ((by rw [hg]; exact Nat.ne_of_lt (blk_lt (g := gb416) (o := .cells #[.int .i64 a0_0, .int .i64 a0_1, .string a0_2] 26 (0, 0)) (by (with_reducible repeat (first | refine blk_drewN ?_ _ | refine blk_drew ?_ | refine blk_alloc ?_ _)); exact BK416.out)) : gb416 ≠ gb417)); have n6_ := Aside0.mk ((by rw [hg]; exact Nat.ne_of_gt (blk_lt (g := gb416) (o := .cells #[.int .i64 a0_0, .int .i64 a0_1, .string a0_2] 26 (0, 0)) (by (with_reducible repeat (first | refine blk_drewN ?_ _ | refine blk_drew ?_ | refine blk_alloc ?_ _)); exact BK416.out)) : gb417 ≠ gb416)); clear BK416 HB; have BK416 := n0_; have HB := n1_; have BK417 := n2_; have GW417 := n3_; have GE417 := n4_; have NB416_417 := n5_; have NB417_416 := n6_; clear n0_ n1_ n2_ n3_ n4_ n5_ n6_ hb hbox hg; have hnb18 := NB416_417.out; have hnc18 := NB417_416.out; have hcz19_0 : w17.cell? ⟨gb416, 0, none⟩ = some (.int .i64 a0_0) := (blk_cell BK416.out 0).trans rfl; have hcz19_1 : w17.cell? ⟨gb416, 1, none⟩ = some (.int .i64 a0_1) := (blk_cell BK416.out 1).trans rfl; have hcz19_2 : w17.cell? ⟨gb416, 2, none⟩ = some (.string a0_2) := (blk_cell BK416.out 2).trans rfl; have hfz19_0 := blk_frozen BK416.out 0; have hfz19_1 := blk_frozen BK416.out 1; have hfz19_2 := blk_frozen BK416.out 2; have hcz20_0 : w17.cell? ⟨gb417, 0, none⟩ = some (.int .i64 a1_0) := (blk_cell BK417.out 0).trans rfl; have hcz20_1 : w17.cell? ⟨gb417, 1, none⟩ = some (.int .i64 a1_1) := (blk_cell BK417.out 1).trans rfl; have hcz20_2 : w17.cell? ⟨gb417, 2, none⟩ = some (.string a1_2) := (blk_cell BK417.out 2).trans rfl; have hfz20_0 := blk_frozen BK417.out 0; have hfz20_1 := blk_frozen BK417.out 1; have hfz20_2 := blk_frozen BK417.out 2))
   go_ret
   exact ⟨by first | rfl | (simp [errW_none, errW_some] <;> rfl) | (simp [*, errW_none, errW_some] <;> rfl), by repeat (first | (with_reducible first | exact HB.out | apply below_alloc | apply pw_below_drewN | apply below_drew1 | refine below_set ?_ GE416.out | refine below_set ?_ GE417.out) | exact HB.out)⟩
 rw [if_neg c3] at H
 have c3b0 : (a0_0 == a1_0) = false := beq_eq_false_iff_ne.mpr c3
 have c3b1 : (a0_0 != a1_0) = true := bne_iff_ne.mpr c3
 obtain rfl := Option.some.inj H
 go_enter Tryd.func33, Tryd.ntmps33
 go_wp2_with (first | ((with_reducible refine gate_dst (N := 2) rfl ?_); refine box_event ?hg (N := 2) ?hd (cs := #[.int .i64 a0_0, .int .i64 a0_1, .string a0_2]) (t := 26) ?hr ?_; (case hd => rfl); (case hg => rfl); (case hr => first | (go_simp; done) | (go_simp; rfl)); intro gb416 hg w21 hbox hb; have n0_ := Aside0.mk (below_step (by repeat (first | (with_reducible first | exact HB.out | apply below_alloc | apply pw_below_drewN | apply below_drew1) | exact HB.out)) hb); have n1_ := Aside0.mk (hbox); have n2_ := Aside0.mk ((by rw [hg]; exact (below_size (by repeat (first | (with_reducible first | exact HB.out | apply below_alloc | apply pw_below_drewN | apply below_drew1) | exact HB.out))) : w.heap.size ≤ gb416)); have n3_ := Aside0.mk ((by rw [hg]; exact (below_size (by repeat (first | (with_reducible first | exact HB.out | apply below_alloc | apply pw_below_drewN | apply below_drew1) | exact HB.out))) : w.heap.size ≤ gb416)); clear HB; have HB := n0_; have BK416 := n1_; have GW416 := n2_; have GE416 := n3_; clear n0_ n1_ n2_ n3_ hb hbox hg) | ((with_reducible refine gate_dst (N := 3) rfl ?_); refine box_event ?hg (N := 3) ?hd (cs := #[.int .i64 a1_0, .int .i64 a1_1, .string a1_2]) (t := 26) ?hr ?_; (case hd => rfl); (case hg => rfl); (case hr => first | (go_simp; done) | (go_simp; rfl)); intro gb417 hg w22 hbox hb; have n0_ := Aside0.mk (blk_below (g := gb416) (o := .cells #[.int .i64 a0_0, .int .i64 a0_1, .string a0_2] 26 (0, 0)) (by (with_reducible repeat (first | refine blk_drewN ?_ _ | refine blk_drew ?_ | refine blk_alloc ?_ _)); exact BK416.out) hb); have n1_ := Aside0.mk (below_step (by repeat (first | (with_reducible first | exact HB.out | apply below_alloc | apply pw_below_drewN | apply below_drew1 | refine below_set ?_ GE416.out) | exact HB.out)) hb); have n2_ := Aside0.mk (hbox); have n3_ := Aside0.mk ((by rw [hg]; exact (below_size (by repeat (first | (with_reducible first | exact HB.out | apply below_alloc | apply pw_below_drewN | apply below_drew1 | refine below_set ?_ GE416.out) | exact HB.out))) : w.heap.size ≤ gb417)); have n4_ := Aside0.mk ((by rw [hg]; exact (below_size (by repeat (first | (with_reducible first | exact HB.out | apply below_alloc | apply pw_below_drewN | apply below_drew1 | refine below_set ?_ GE416.out) | exact HB.out))) : w.heap.size ≤ gb417)); have n5_ := Aside0.mk ((by rw [hg]; exact Nat.ne_of_lt (blk_lt (g := gb416) (o := .cells #[.int .i64 a0_0, .int .i64 a0_1, .string a0_2] 26 (0, 0)) (by (with_reducible repeat (first | refine blk_drewN ?_ _ | refine blk_drew ?_ | refine blk_alloc ?_ _)); exact BK416.out)) : gb416 ≠ gb417)); have n6_ := Aside0.mk ((by rw [hg]; exact Nat.ne_of_gt (blk_lt (g := gb416) (o := .cells #[.int .i64 a0_0, .int .i64 a0_1, .string a0_2] 26 (0, 0)) (by (with_reducible repeat (first | refine blk_drewN ?_ _ | refine blk_drew ?_ | refine blk_alloc ?_ _)); exact BK416.out)) : gb417 ≠ gb416)); clear BK416 HB; have BK416 := n0_; have HB := n1_; have BK417 := n2_; have GW417 := n3_; have GE417 := n4_; have NB416_417 := n5_; have NB417_416 := n6_; clear n0_ n1_ n2_ n3_ n4_ n5_ n6_ hb hbox hg; have hnb23 := NB416_417.out; have hnc23 := NB417_416.out; have hcz24_0 : w22.cell? ⟨gb416, 0, none⟩ = some (.int .i64 a0_0) := (blk_cell BK416.out 0).trans rfl; have hcz24_1 : w22.cell? ⟨gb416, 1, none⟩ = some (.int .i64 a0_1) := (blk_cell BK416.out 1).trans rfl; have hcz24_2 : w22.cell? ⟨gb416, 2, none⟩ = some (.string a0_2) := (blk_cell BK416.out 2).trans rfl; have hfz24_0 := blk_frozen BK416.out 0; have hfz24_1 := blk_frozen BK416.out 1; have hfz24_2 := blk_frozen BK416.out 2; have hcz25_0 : w22.cell? ⟨gb417, 0, none⟩ = some (.int .i64 a1_0) := (blk_cell BK417.out 0).trans rfl; have hcz25_1 : w22.cell? ⟨gb417, 1, none⟩ = some (.int .i64 a1_1) := (blk_cell BK417.out 1).trans rfl; have hcz25_2 : w22.cell? ⟨gb417, 2, none⟩ = some (.string a1_2) := (blk_cell BK417.out 2).trans rfl; have hfz25_0 := blk_frozen BK417.out 0; have hfz25_1 := blk_frozen BK417.out 1; have hfz25_2 := blk_frozen BK417.out 2))
 go_ret
 exact ⟨by first | rfl | (simp [errW_none, errW_some] <;> rfl) | (simp [*, errW_none, errW_some] <;> rfl), by repeat (first | (with_reducible first | exact HB.out | apply below_alloc | apply pw_below_drewN | apply below_drew1 | refine below_set ?_ GE416.out | refine below_set ?_ GE417.out) | exact HB.out)⟩

end Go.Proofs.YtajhjdhkeahlpaaDoor.P
