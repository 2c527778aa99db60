-- PxlawsFnExactInsText, PutsFnExactInsText, LBase, LSeq, PximplInsLast, Pxspecl13Rdpick, Pxspecl1Bent, PxspecDrawInsOk, LOk, LText, PureFnExactInsText: put together by squash.py
import Derived.Test.YtajhjdhkeahlpaaDoorSqFnExactInsText2
import Derived.Test.YtajhjdhkeahlpaaDoorSqFnExactInsText3
import Derived.Lib.ItoaNum
import Derived.Lib.Strings

-- made by printx.py (own driver over the kit's print); Lean checks it
namespace Go.Proofs.YtajhjdhkeahlpaaDoor.P
open Go.RowKit Go.Proofs.YtajhjdhkeahlpaaDoorW.PrintWords Go.Proofs.YtajhjdhkeahlpaaDoorW.PrintLast Go.Proofs.YtajhjdhkeahlpaaDoorW.PrintMore
attribute [local go_sem] max2_int min2_int max_two min_two max_three min_three max_four min_four   -- for this text's walks alone
set_option linter.unusedVariables false
set_option linter.unusedSimpArgs false

/-! ### laws_FnExactInsText: function 3 -/
def laws_FnExactInsText.j0 : Nat → Int → Int → ByteArray → Option (Bool)
  | 0, _, _, _ => none
  | k + 1, x169000, x169001, x169002 => (laws_toIns.f x169000 x169001 x169002).bind fun bt170 => ((spec_InsText.f k bt170.1 bt170.2.1 bt170.2.2).bind fun t173 => ((laws_toIns.f x169000 x169001 x169002).bind fun bt174 => ((impl_InsText.f k bt174.1 bt174.2.1 bt174.2.2).bind fun t177 => (if t177.toList = t173.toList then (some true) else (some false)))))
def laws_FnExactInsText.f (k : Nat) (a0_0 : Int) (a0_1 : Int) (a0_2 : ByteArray) : Option (Bool) := (laws_szIns.f a0_0 a0_1 a0_2 1048576).bind fun t169 => (if t169 < 0 then (some true) else (laws_FnExactInsText.j0 k a0_0 a0_1 a0_2))
set_option maxHeartbeats 8000000 in
set_option maxRecDepth 100000 in
theorem laws_FnExactInsText.calls (k : Nat) (a0_0 : Int) (a0_1 : Int) (a0_2 : ByteArray) (r : Bool) (w : World) (h : laws_FnExactInsText.f k a0_0 a0_1 a0_2 = some r) (HT : Aside0 (Go.Proofs.YtajhjdhkeahlpaaDoor.L.Tens w)) :
    Calls Tryd.prog 3 #[.agg #[.int .i64 a0_0, .int .i64 a0_1, .string a0_2]] w fun e w' => e = .returned (.bool r) ∧ Below w.heap.size w w' := by
 have hu23 := Tryd.underlying23
 have HB := Aside0.mk (Below.refl w.heap.size w)
 have H : ((laws_szIns.f a0_0 a0_1 a0_2 1048576).bind fun t169 => (if t169 < 0 then (some true) else (laws_FnExactInsText.j0 k a0_0 a0_1 a0_2))) = some r := h
 clear h
 replace H := Option.bind_eq_some_iff.mp H
 obtain ⟨t169, A20, H⟩ := H
 replace H : (if t169 < 0 then (some true) else (laws_FnExactInsText.j0 k a0_0 a0_1 a0_2)) = some r := H
 have A2 := Aside0.mk A20; clear A20; have HC3 := Aside0.mk H; clear H
 go_enter Tryd.func3, Tryd.ntmps3
 go_upto_if 10 with (first | ((with_reducible refine gate_dst (N := 1) rfl ?_); refine box_event ?hg (N := 1) ?hd (cs := #[.int .i64 a0_0, .int .i64 a0_1, .string a0_2]) (t := 23) ?hr ?_; (case hd => rfl); (case hg => rfl); (case hr => first | (go_simp; done) | (go_simp; rfl)); intro gb168 hg w4 hbox hb; have n0_ := Aside0.mk (below_step (by repeat (first | (with_reducible first | exact HB.out | apply below_alloc | apply pw_below_drewN | apply below_drew1) | exact HB.out)) hb); have n1_ := Aside0.mk (hbox); have n2_ := Aside0.mk ((by rw [hg]; exact (below_size (by repeat (first | (with_reducible first | exact HB.out | apply below_alloc | apply pw_below_drewN | apply below_drew1) | exact HB.out))) : w.heap.size ≤ gb168)); have n3_ := Aside0.mk ((by rw [hg]; exact (below_size (by repeat (first | (with_reducible first | exact HB.out | apply below_alloc | apply pw_below_drewN | apply below_drew1) | exact HB.out))) : w.heap.size ≤ gb168)); clear HB; have HB := n0_; have BK168 := n1_; have GW168 := n2_; have GE168 := n3_; clear n0_ n1_ n2_ n3_ hb hbox hg; have hcz5_0 : w4.cell? ⟨gb168, 0, none⟩ = some (.int .i64 a0_0) := (blk_cell BK168.out 0).trans rfl; have hcz5_1 : w4.cell? ⟨gb168, 1, none⟩ = some (.int .i64 a0_1) := (blk_cell BK168.out 1).trans rfl; have hcz5_2 : w4.cell? ⟨gb168, 2, none⟩ = some (.string a0_2) := (blk_cell BK168.out 2).trans rfl; have hfz5_0 := blk_frozen BK168.out 0; have hfz5_1 := blk_frozen BK168.out 1; have hfz5_2 := blk_frozen BK168.out 2) | ((with_reducible refine gate_callee (f := 9) rfl ?_); refine goesL_ (some 8) rfl rfl Tryd.func9 (by kernel_rfl) rfl #[.agg #[.int .i64 a0_0, .int .i64 a0_1, .string a0_2], .int .i64 1048576] rfl (by (try simp only [List.map_toArray, List.map_cons, List.map_nil]); first | done | rfl | (simp only [List.length_drop, List.length_take]; rfl)) ?_; (with_reducible refine (laws_szIns.calls a0_0 a0_1 a0_2 1048576 t169 _ A2.out).mono ?_); rintro e w6 ⟨rfl, hb⟩; refine ⟨_, rfl, ?_⟩; have n0_ := Aside0.mk (blk_below (g := gb168) (o := .cells #[.int .i64 a0_0, .int .i64 a0_1, .string a0_2] 23 (0, 0)) (by (with_reducible repeat (first | refine blk_drewN ?_ _ | refine blk_drew ?_ | refine blk_alloc ?_ _)); exact BK168.out) hb); have n1_ := Aside0.mk (below_step (by repeat (first | (with_reducible first | exact HB.out | apply below_alloc | apply pw_below_drewN | apply below_drew1 | refine below_set ?_ GE168.out) | exact HB.out)) hb); clear BK168 HB; have BK168 := n0_; have HB := n1_; clear n0_ n1_; (try clear hb); (try clear hb2); (try clear hk); (try clear hi)))
 (try simp only [Act.put, List.setIfInBounds_toArray, List.set_cons_zero, List.set_cons_succ])
 go_cut [] (fun wc => ∃ (kq : Nat), Aside0 (laws_FnExactInsText.j0 kq a0_0 a0_1 a0_2 = some r) ∧ Aside0 (kq ≤ k) ∧ Aside0 (wc.heap[gb168]? = some (.cells #[.int .i64 a0_0, .int .i64 a0_1, .string a0_2] 23 (0, 0))) ∧ Aside0 (Below w.heap.size w wc))
 case first =>
  have H := HC3.out
  clear HC3
  by_cases c7 : t169 < 0
  · rw [if_pos c7] at H
    have c7b0 : decide (t169 < 0) = true := decide_eq_true c7
    clear c7
    (first | rw [c7b0] | (simp only [i64_w, i32_w]; rw [c7b0]) | (have cn_ := c7b0; simp only [bne] at cn_; rw [cn_]; clear cn_) | skip)
    obtain rfl := Option.some.inj H
    go_wp2
    go_ret
    exact ⟨by first | rfl | (simp [errW_none, errW_some] <;> rfl) | (simp [*, errW_none, errW_some] <;> rfl), by repeat (first | (with_reducible first | exact HB.out | apply below_alloc | apply pw_below_drewN | apply below_drew1 | refine below_set ?_ GE168.out) | exact HB.out)⟩
  rw [if_neg c7] at H
  have c7b0 : decide (t169 < 0) = false := decide_eq_false c7
  clear c7
  (first | rw [c7b0] | (simp only [i64_w, i32_w]; rw [c7b0]) | (have cn_ := c7b0; simp only [bne] at cn_; rw [cn_]; clear cn_) | skip)
  have H' := Aside0.mk H
  clear H
  go_wp2
  go_meet
  case rel => exact ⟨_, H', ⟨by first | omega | exact Nat.le_refl _⟩, ⟨by (with_reducible repeat (first | refine blk_drewN ?_ _ | refine blk_drew ?_ | refine blk_alloc ?_ _)); exact BK168.out⟩, ⟨by repeat (first | (with_reducible first | exact HB.out | apply below_alloc | apply pw_below_drewN | apply below_drew1 | refine below_set ?_ GE168.out) | exact HB.out)⟩⟩
 clear HC3; try clear p2; try clear c3; try clear c7; try clear c7b0; try clear hcz5_0; try clear hcz5_1; try clear hcz5_2; try clear hfz5_0; try clear hfz5_1; try clear hfz5_2
 obtain ⟨kq, HA, HJ2, BK168, HB⟩ := hcut
 obtain _ | kj2 := kq
 · exact absurd HA.out (by simp [laws_FnExactInsText.j0])
 have H := HA.out
 clear HA
 simp only [laws_FnExactInsText.j0] at H
 replace H := Option.bind_eq_some_iff.mp H
 obtain ⟨⟨t170, t171, t172⟩, A80, H⟩ := H
 replace H : ((spec_InsText.f kj2 t170 t171 t172).bind fun t173 => ((laws_toIns.f a0_0 a0_1 a0_2).bind fun bt174 => ((impl_InsText.f kj2 bt174.1 bt174.2.1 bt174.2.2).bind fun t177 => (if t177.toList = t173.toList then (some true) else (some false))))) = some r := H
 have A8 := Aside0.mk A80; clear A80
 replace H := Option.bind_eq_some_iff.mp H
 obtain ⟨t173, A90, H⟩ := H
 replace H : ((laws_toIns.f a0_0 a0_1 a0_2).bind fun bt174 => ((impl_InsText.f kj2 bt174.1 bt174.2.1 bt174.2.2).bind fun t177 => (if t177.toList = t173.toList then (some true) else (some false)))) = some r := H
 have A9 := Aside0.mk A90; clear A90
 replace H := Option.bind_eq_some_iff.mp H
 obtain ⟨⟨t174, t175, t176⟩, A100, H⟩ := H
 replace H : ((impl_InsText.f kj2 t174 t175 t176).bind fun t177 => (if t177.toList = t173.toList then (some true) else (some false))) = some r := H
 have A10 := Aside0.mk A100; clear A100
 replace H := Option.bind_eq_some_iff.mp H
 obtain ⟨t177, A110, H⟩ := H
 replace H : (if t177.toList = t173.toList then (some true) else (some false)) = some r := H
 have A11 := Aside0.mk A110; clear A110
 by_cases c12 : t177.toList = t173.toList
 · rw [if_pos c12] at H
   have c12b0 : (t177.toList == t173.toList) = true := beq_iff_eq.mpr c12
   have c12b1 : (t177.toList != t173.toList) = false := bne_eq_false_iff_eq.mpr c12
   clear c12
   obtain rfl := Option.some.inj H
   have hcz13_0 : wc.cell? ⟨gb168, 0, none⟩ = some (.int .i64 a0_0) := (blk_cell BK168.out 0).trans rfl
   have hcz13_1 : wc.cell? ⟨gb168, 1, none⟩ = some (.int .i64 a0_1) := (blk_cell BK168.out 1).trans rfl
   have hcz13_2 : wc.cell? ⟨gb168, 2, none⟩ = some (.string a0_2) := (blk_cell BK168.out 2).trans rfl
   have hfz13_0 := blk_frozen BK168.out 0
   have hfz13_1 := blk_frozen BK168.out 1
   have hfz13_2 := blk_frozen BK168.out 2
   go_wp2_with (first | ((with_reducible refine gate_callee (f := 11) rfl ?_); refine goesL_ (some 12) rfl rfl Tryd.func11 (by kernel_rfl) rfl #[.agg #[.int .i64 a0_0, .int .i64 a0_1, .string a0_2]] rfl (by (try simp only [List.map_toArray, List.map_cons, List.map_nil]); first | done | rfl | (simp only [List.length_drop, List.length_take]; rfl)) ?_; (with_reducible refine (laws_toIns.calls a0_0 a0_1 a0_2 t170 t171 t172 _ A8.out).mono ?_); rintro e w14 ⟨rfl, hb⟩; refine ⟨_, rfl, ?_⟩; have n0_ := Aside0.mk (blk_below (g := gb168) (o := .cells #[.int .i64 a0_0, .int .i64 a0_1, .string a0_2] 23 (0, 0)) (by (with_reducible repeat (first | refine blk_drewN ?_ _ | refine blk_drew ?_ | refine blk_alloc ?_ _)); exact BK168.out) hb); have n1_ := Aside0.mk (below_step (by repeat (first | (with_reducible first | exact HB.out | apply below_alloc | apply pw_below_drewN | apply below_drew1 | refine below_set ?_ GE168.out) | exact HB.out)) hb); clear BK168 HB; have BK168 := n0_; have HB := n1_; clear n0_ n1_; (try clear hb); (try clear hb2); (try clear hk); (try clear hi)) | ((with_reducible refine gate_callee (f := 10) rfl ?_); refine goesL_ (some 13) rfl rfl Tryd.func10 (by kernel_rfl) rfl #[.agg #[.int .i64 t170, .int .i64 t171, .string t172]] rfl (by (try simp only [List.map_toArray, List.map_cons, List.map_nil]); first | done | rfl | (simp only [List.length_drop, List.length_take]; rfl)) ?_; (with_reducible refine (spec_InsText.calls kj2 t170 t171 t172 t173 _ A9.out).mono ?_); rintro e w15 ⟨rfl, hb⟩; refine ⟨_, rfl, ?_⟩; have n0_ := Aside0.mk (blk_below (g := gb168) (o := .cells #[.int .i64 a0_0, .int .i64 a0_1, .string a0_2] 23 (0, 0)) (by (with_reducible repeat (first | refine blk_drewN ?_ _ | refine blk_drew ?_ | refine blk_alloc ?_ _)); exact BK168.out) hb); have n1_ := Aside0.mk (below_step (by repeat (first | (with_reducible first | exact HB.out | apply below_alloc | apply pw_below_drewN | apply below_drew1 | refine below_set ?_ GE168.out) | exact HB.out)) hb); clear BK168 HB; have BK168 := n0_; have HB := n1_; clear n0_ n1_; (try clear hb); (try clear hb2); (try clear hk); (try clear hi); have hcz16_0 : w15.cell? ⟨gb168, 0, none⟩ = some (.int .i64 a0_0) := (blk_cell BK168.out 0).trans rfl; have hcz16_1 : w15.cell? ⟨gb168, 1, none⟩ = some (.int .i64 a0_1) := (blk_cell BK168.out 1).trans rfl; have hcz16_2 : w15.cell? ⟨gb168, 2, none⟩ = some (.string a0_2) := (blk_cell BK168.out 2).trans rfl; have hfz16_0 := blk_frozen BK168.out 0; have hfz16_1 := blk_frozen BK168.out 1; have hfz16_2 := blk_frozen BK168.out 2) | ((with_reducible refine gate_callee (f := 11) rfl ?_); refine goesL_ (some 15) rfl rfl Tryd.func11 (by kernel_rfl) rfl #[.agg #[.int .i64 a0_0, .int .i64 a0_1, .string a0_2]] rfl (by (try simp only [List.map_toArray, List.map_cons, List.map_nil]); first | done | rfl | (simp only [List.length_drop, List.length_take]; rfl)) ?_; (with_reducible refine (laws_toIns.calls a0_0 a0_1 a0_2 t174 t175 t176 _ A10.out).mono ?_); rintro e w17 ⟨rfl, hb⟩; refine ⟨_, rfl, ?_⟩; have n0_ := Aside0.mk (blk_below (g := gb168) (o := .cells #[.int .i64 a0_0, .int .i64 a0_1, .string a0_2] 23 (0, 0)) (by (with_reducible repeat (first | refine blk_drewN ?_ _ | refine blk_drew ?_ | refine blk_alloc ?_ _)); exact BK168.out) hb); have n1_ := Aside0.mk (below_step (by repeat (first | (with_reducible first | exact HB.out | apply below_alloc | apply pw_below_drewN | apply below_drew1 | refine below_set ?_ GE168.out) | exact HB.out)) hb); clear BK168 HB; have BK168 := n0_; have HB := n1_; clear n0_ n1_; (try clear hb); (try clear hb2); (try clear hk); (try clear hi)) | ((with_reducible refine gate_callee (f := 12) rfl ?_); refine goesL_ (some 16) rfl rfl Tryd.func12 (by kernel_rfl) rfl #[.agg #[.int .i64 t174, .int .i64 t175, .string t176]] rfl (by (try simp only [List.map_toArray, List.map_cons, List.map_nil]); first | done | rfl | (simp only [List.length_drop, List.length_take]; rfl)) ?_; (with_reducible refine (impl_InsText.calls kj2 t174 t175 t176 t177 _ A11.out ⟨?sT⟩).mono ?_); (case sT => exact HT.out.below (by repeat (first | (with_reducible first | exact HB.out | exact Below.refl _ _ | apply below_alloc | apply pw_below_drewN | apply below_drew1 | refine below_set ?_ GE168.out) | exact HB.out | exact Below.refl _ _))); rintro e w18 ⟨rfl, hb⟩; refine ⟨_, rfl, ?_⟩; have n0_ := Aside0.mk (blk_below (g := gb168) (o := .cells #[.int .i64 a0_0, .int .i64 a0_1, .string a0_2] 23 (0, 0)) (by (with_reducible repeat (first | refine blk_drewN ?_ _ | refine blk_drew ?_ | refine blk_alloc ?_ _)); exact BK168.out) hb); have n1_ := Aside0.mk (below_step (by repeat (first | (with_reducible first | exact HB.out | apply below_alloc | apply pw_below_drewN | apply below_drew1 | refine below_set ?_ GE168.out) | exact HB.out)) hb); clear BK168 HB; have BK168 := n0_; have HB := n1_; clear n0_ n1_; (try clear hb); (try clear hb2); (try clear hk); (try clear hi)))
   go_ret
   exact ⟨by first | rfl | (simp [errW_none, errW_some] <;> rfl) | (simp [*, errW_none, errW_some] <;> rfl), by repeat (first | (with_reducible first | exact HB.out | apply below_alloc | apply pw_below_drewN | apply below_drew1 | refine below_set ?_ GE168.out) | exact HB.out)⟩
 rw [if_neg c12] at H
 have c12b0 : (t177.toList == t173.toList) = false := beq_eq_false_iff_ne.mpr c12
 have c12b1 : (t177.toList != t173.toList) = true := bne_iff_ne.mpr c12
 obtain rfl := Option.some.inj H
 have hcz19_0 : wc.cell? ⟨gb168, 0, none⟩ = some (.int .i64 a0_0) := (blk_cell BK168.out 0).trans rfl
 have hcz19_1 : wc.cell? ⟨gb168, 1, none⟩ = some (.int .i64 a0_1) := (blk_cell BK168.out 1).trans rfl
 have hcz19_2 : wc.cell? ⟨gb168, 2, none⟩ = some (.string a0_2) := (blk_cell BK168.out 2).trans rfl
 have hfz19_0 := blk_frozen BK168.out 0
 have hfz19_1 := blk_frozen BK168.out 1
 have hfz19_2 := blk_frozen BK168.out 2
 go_wp2_with (first | ((with_reducible refine gate_callee (f := 11) rfl ?_); refine goesL_ (some 12) rfl rfl Tryd.func11 (by kernel_rfl) rfl #[.agg #[.int .i64 a0_0, .int .i64 a0_1, .string a0_2]] rfl (by (try simp only [List.map_toArray, List.map_cons, List.map_nil]); first | done | rfl | (simp only [List.length_drop, List.length_take]; rfl)) ?_; (with_reducible refine (laws_toIns.calls a0_0 a0_1 a0_2 t170 t171 t172 _ A8.out).mono ?_); rintro e w20 ⟨rfl, hb⟩; refine ⟨_, rfl, ?_⟩; have n0_ := Aside0.mk (blk_below (g := gb168) (o := .cells #[.int .i64 a0_0, .int .i64 a0_1, .string a0_2] 23 (0, 0)) (by (with_reducible repeat (first | refine blk_drewN ?_ _ | refine blk_drew ?_ | refine blk_alloc ?_ _)); exact BK168.out) hb); have n1_ := Aside0.mk (below_step (by repeat (first | (with_reducible first | exact HB.out | apply below_alloc | apply pw_below_drewN | apply below_drew1 | refine below_set ?_ GE168.out) | exact HB.out)) hb); clear BK168 HB; have BK168 := n0_; have HB := n1_; clear n0_ n1_; (try clear hb); (try clear hb2); (try clear hk); (try clear hi)) | ((with_reducible refine gate_callee (f := 10) rfl ?_); refine goesL_ (some 13) rfl rfl Tryd.func10 (by kernel_rfl) rfl #[.agg #[.int .i64 t170, .int .i64 t171, .string t172]] rfl (by (try simp only [List.map_toArray, List.map_cons, List.map_nil]); first | done | rfl | (simp only [List.length_drop, List.length_take]; rfl)) ?_; (with_reducible refine (spec_InsText.calls kj2 t170 t171 t172 t173 _ A9.out).mono ?_); rintro e w21 ⟨rfl, hb⟩; refine ⟨_, rfl, ?_⟩; have n0_ := Aside0.mk (blk_below (g := gb168) (o := .cells #[.int .i64 a0_0, .int .i64 a0_1, .string a0_2] 23 (0, 0)) (by (with_reducible repeat (first | refine blk_drewN ?_ _ | refine blk_drew ?_ | refine blk_alloc ?_ _)); exact BK168.out) hb); have n1_ := Aside0.mk (below_step (by repeat (first | (with_reducible first | exact HB.out | apply below_alloc | apply pw_below_drewN | apply below_drew1 | refine below_set ?_ GE168.out) | exact HB.out)) hb); clear BK168 HB; have BK168 := n0_; have HB := n1_; clear n0_ n1_; (try clear hb); (try clear hb2); (try clear hk); (try clear hi); have hcz22_0 : w21.cell? ⟨gb168, 0, none⟩ = some (.int .i64 a0_0) := (blk_cell BK168.out 0).trans rfl; have hcz22_1 : w21.cell? ⟨gb168, 1, none⟩ = some (.int .i64 a0_1) := (blk_cell BK168.out 1).trans rfl; have hcz22_2 : w21.cell? ⟨gb168, 2, none⟩ = some (.string a0_2) := (blk_cell BK168.out 2).trans rfl; have hfz22_0 := blk_frozen BK168.out 0; have hfz22_1 := blk_frozen BK168.out 1; have hfz22_2 := blk_frozen BK168.out 2) | ((with_reducible refine gate_callee (f := 11) rfl ?_); refine goesL_ (some 15) rfl rfl Tryd.func11 (by kernel_rfl) rfl #[.agg #[.int .i64 a0_0, .int .i64 a0_1, .string a0_2]] rfl (by (try simp only [List.map_toArray, List.map_cons, List.map_nil]); first | done | rfl | (simp only [List.length_drop, List.length_take]; rfl)) ?_; (with_reducible refine (laws_toIns.calls a0_0 a0_1 a0_2 t174 t175 t176 _ A10.out).mono ?_); rintro e w23 ⟨rfl, hb⟩; refine ⟨_, rfl, ?_⟩; have n0_ := Aside0.mk (blk_below (g := gb168) (o := .cells #[.int .i64 a0_0, .int .i64 a0_1, .string a0_2] 23 (0, 0)) (by (with_reducible repeat (first | refine blk_drewN ?_ _ | refine blk_drew ?_ | refine blk_alloc ?_ _)); exact BK168.out) hb); have n1_ := Aside0.mk (below_step (by repeat (first | (with_reducible first | exact HB.out | apply below_alloc | apply pw_below_drewN | apply below_drew1 | refine below_set ?_ GE168.out) | exact HB.out)) hb); clear BK168 HB; have BK168 := n0_; have HB := n1_; clear n0_ n1_; (try clear hb); (try clear hb2); (try clear hk); (try clear hi)) | ((with_reducible refine gate_callee (f := 12) rfl ?_); refine goesL_ (some 16) rfl rfl Tryd.func12 (by kernel_rfl) rfl #[.agg #[.int .i64 t174, .int .i64 t175, .string t176]] rfl (by (try simp only [List.map_toArray, List.map_cons, List.map_nil]); first | done | rfl | (simp only [List.length_drop, List.length_take]; rfl)) ?_; (with_reducible refine (impl_InsText.calls kj2 t174 t175 t176 t177 _ A11.out ⟨?sT⟩).mono ?_); (case sT => exact HT.out.below (by repeat (first | (with_reducible first | exact HB.out | exact Below.refl _ _ | apply below_alloc | apply pw_below_drewN | apply below_drew1 | refine below_set ?_ GE168.out) | exact HB.out | exact Below.refl _ _))); rintro e w24 ⟨rfl, hb⟩; refine ⟨_, rfl, ?_⟩; have n0_ := Aside0.mk (blk_below (g := gb168) (o := .cells #[.int .i64 a0_0, .int .i64 a0_1, .string a0_2] 23 (0, 0)) (by (with_reducible repeat (first | refine blk_drewN ?_ _ | refine blk_drew ?_ | refine blk_alloc ?_ _)); exact BK168.out) hb); have n1_ := Aside0.mk (below_step (by repeat (first | (with_reducible first | exact HB.out | apply below_alloc | apply pw_below_drewN | apply below_drew1 | refine below_set ?_ GE168.out) | exact HB.out)) hb); clear BK168 HB; have BK168 := n0_; have HB := n1_; clear n0_ n1_; (try clear hb); (try clear hb2); (try clear hk); (try clear hi)))
 go_ret
 exact ⟨by first | rfl | (simp [errW_none, errW_some] <;> rfl) | (simp [*, errW_none, errW_some] <;> rfl), by repeat (first | (with_reducible first | exact HB.out | apply below_alloc | apply pw_below_drewN | apply below_drew1 | refine below_set ?_ GE168.out) | exact HB.out)⟩

end Go.Proofs.YtajhjdhkeahlpaaDoor.P

namespace Go.Proofs.YtajhjdhkeahlpaaDoor.P
open Go.RowKit
/-- THE ONE PURE STATEMENT of laws_FnExactInsText. -/
def laws_FnExactInsText.Pure : Prop := ∀ (x0 : S23), Ok23 x0 → ∃ k, laws_FnExactInsText.f k x0.f0 x0.f1 x0.f2 = some true
end Go.Proofs.YtajhjdhkeahlpaaDoor.P

/- Small facts on the print's words: wrapping, rounds, bits. -/
namespace Go.Proofs.YtajhjdhkeahlpaaDoor.L
open Go.RowKit Go.Proofs.YtajhjdhkeahlpaaDoorW.PrintWords Go.Proofs.YtajhjdhkeahlpaaDoorW.PrintLast Go.Proofs.YtajhjdhkeahlpaaDoorW.PrintMore Go.Proofs.YtajhjdhkeahlpaaDoor.P

set_option linter.unusedVariables false
set_option linter.unusedSimpArgs false

theorem wrap_id {n : Int} (h0 : -9223372036854775808 ≤ n) (h1 : n ≤ 9223372036854775807) : wrap64 n = n := by unfold wrap64; omega

theorem succ_of {k d : Nat} (h : d < k) : ∃ m, k = m + 1 ∧ d ≤ m := ⟨k - 1, by omega, by omega⟩

end Go.Proofs.YtajhjdhkeahlpaaDoor.L

/- Plain lists: the first place of which something holds; two lists alike, place by place. -/
namespace Go.Proofs.YtajhjdhkeahlpaaDoor.L
open Go.RowKit Go.Proofs.YtajhjdhkeahlpaaDoorW.PrintWords Go.Proofs.YtajhjdhkeahlpaaDoorW.PrintLast Go.Proofs.YtajhjdhkeahlpaaDoorW.PrintMore Go.Proofs.YtajhjdhkeahlpaaDoor.P
set_option linter.unusedVariables false
set_option linter.unusedSimpArgs false

end Go.Proofs.YtajhjdhkeahlpaaDoor.L

-- made by printx.py (own driver over the kit's print); Lean checks it
namespace Go.Proofs.YtajhjdhkeahlpaaDoor.P
open Go.RowKit Go.Proofs.YtajhjdhkeahlpaaDoorW.PrintWords Go.Proofs.YtajhjdhkeahlpaaDoorW.PrintLast Go.Proofs.YtajhjdhkeahlpaaDoorW.PrintMore
attribute [local go_sem] max2_int min2_int max_two min_two max_three min_three max_four min_four   -- for this text's walks alone
set_option linter.unusedVariables false
set_option linter.unusedSimpArgs false

/-! ### impl_InsLast: function 19 -/
def impl_InsLast.f (a0_0 : Int) (a0_1 : Int) (a0_2 : ByteArray) : Option (Bool) := if a0_0 = 4 then (some true) else (if a0_0 = 6 then (some true) else (some (a0_0 == 7)))
/-! ### spec_InsLast: function 20 -/
def spec_InsLast.f (a0_0 : Int) (a0_1 : Int) (a0_2 : ByteArray) : Option (Bool) := if a0_0 = 4 then (some true) else (if a0_0 = 6 then (some true) else (some (a0_0 == 7)))
end Go.Proofs.YtajhjdhkeahlpaaDoor.P

-- made by printx.py (own driver over the kit's print); Lean checks it
namespace Go.Proofs.YtajhjdhkeahlpaaDoor.P
open Go.RowKit Go.Proofs.YtajhjdhkeahlpaaDoorW.PrintWords Go.Proofs.YtajhjdhkeahlpaaDoorW.PrintLast Go.Proofs.YtajhjdhkeahlpaaDoorW.PrintMore
attribute [local go_sem] max2_int min2_int max_two min_two max_three min_three max_four min_four   -- for this text's walks alone
set_option linter.unusedVariables false
set_option linter.unusedSimpArgs false

/-- A state of type 87 at block g of W; what its slices lead to came in by w0. -/
def IsS87 (w0 W : World) (g : Nat) (f0 : List Int) (f1 : Int) : Prop := ∃ A0 c0, W.heap[g]? = some (.cells #[.slice A0 f0.length c0, .int .i64 f1] 87 (0, 0)) ∧ w0.heap.size ≤ g ∧ Kd.C (Kd.int .u8) w0 A0 f0.length f0
theorem IsS87.grown {w0 W : World} {g : Nat} {f0 : List Int} {f1 : Int} {W1 : World} {row : Option Nat} (h : IsS87 w0 W g f0 f1) (hw : W.grownBy W1 row) (hne : some g ≠ row) : IsS87 w0 W1 g f0 f1 := by
  obtain ⟨A0, c0, hb, hg, hr0⟩ := h
  exact ⟨A0, c0, blk_grown hb hw hne, hg, hr0⟩
theorem IsS87.kept {w0 W : World} {g : Nat} {f0 : List Int} {f1 : Int} {W1 : World} {S : Nat → Prop} (h : IsS87 w0 W g f0 f1) (hk : Kept W W1 S) (hne : ¬ S g) : IsS87 w0 W1 g f0 f1 := by
  obtain ⟨A0, c0, hb, hg, hr0⟩ := h
  exact ⟨A0, c0, blk_kept hb hk hne, hg, hr0⟩
theorem IsS87.below {w0 W : World} {g : Nat} {f0 : List Int} {f1 : Int} {W1 : World} (h : IsS87 w0 W g f0 f1) (hw : Below W.heap.size W W1) : IsS87 w0 W1 g f0 f1 := h.grown (grown_of_below hw none) (by simp)
theorem IsS87.alloc {w0 W : World} {g : Nat} {f0 : List Int} {f1 : Int} (h : IsS87 w0 W g f0 f1) (o : Obj) : IsS87 w0 (W.alloc o) g f0 f1 := h.below (below_alloc (Below.refl _ _) o)
theorem IsS87.drewN {w0 W : World} {g : Nat} {f0 : List Int} {f1 : Int} (h : IsS87 w0 W g f0 f1) (m : Nat) : IsS87 w0 (W.drewN m) g f0 f1 := h
theorem IsS87.drew {w0 W : World} {g : Nat} {f0 : List Int} {f1 : Int} (h : IsS87 w0 W g f0 f1) : IsS87 w0 W.drew g f0 f1 := h
theorem IsS87.apart {w0 W : World} {g : Nat} {f0 : List Int} {f1 : Int} {α : Type} {d : Kd α} {e : Nat} {base : Nat} {ok : Nat → Prop} {v : Value} {xs : List α} (h : IsS87 w0 W g f0 f1) (ho : d.R e W base ok v xs) (ht : ∀ q, q ∈ e :: d.E → q ≠ 87) : d.R e W base (fun k => ok k ∧ k ≠ g) v xs := by
  obtain ⟨A0, c0, hb, hg, hr0⟩ := h
  exact Kd.R_types ho hb ht
theorem IsS87.far {w0 W : World} {g : Nat} {f0 : List Int} {f1 : Int} {p : Addr} (h : IsS87 w0 W g f0 f1) (hne : g ≠ p.block) (u : Value) : IsS87 w0 (W.setCell p u) g f0 f1 := by
  obtain ⟨A0, c0, hb, hg, hr0⟩ := h
  exact ⟨A0, c0, blk_far hb hne u, hg, hr0⟩
theorem IsS87.new (w0 W : World) (A0 : Option Addr) (c0 : Nat) (f0 : List Int) (f1 : Int) (hB : Below w0.heap.size w0 W) (hr0 : Kd.C (Kd.int .u8) w0 A0 f0.length f0) : IsS87 w0 (W.alloc (.cells #[.slice A0 f0.length c0, .int .i64 f1] 87)) W.heap.size f0 f1 := ⟨A0, c0, by simpa using heap_alloc_new W _, hB.size, hr0⟩

/-! ### spec_l13Rd_pick: function 60 -/
def spec_l13Rd_pick.j0 : Nat → Int → Bool → List Int → Int → Option (Int × Int)
  | 0, _, _, _, _ => none
  | k + 1, x1, x24, x1000, x1001 => if x24 = true then (some (0, x1001)) else (if (wrap64 (x1001 - 1)) < (x1000.length : Int) then (if 0 ≤ (wrap64 (x1001 - 1)) then (if x1 = 0 then (none) else (some (Int.tmod (wrap64 (rd x1000 (wrap64 (x1001 - 1)))) x1, x1001))) else (none)) else (if (x1000.length : Int) = 0 then (none) else (if 0 ≤ (Int.tmod (wrap64 (x1001 - 1)) (x1000.length : Int)) then (if (Int.tmod (wrap64 (x1001 - 1)) (x1000.length : Int)) < (x1000.length : Int) then (if 0 ≤ (Int.tmod (wrap64 ((wrap64 ((wrap64 (x1001 - 1)) * 7)) + 3)) (x1000.length : Int)) then (if (Int.tmod (wrap64 ((wrap64 ((wrap64 (x1001 - 1)) * 7)) + 3)) (x1000.length : Int)) < (x1000.length : Int) then (if x1 = 0 then (none) else (some (Int.tmod (Go.bits .xor .i64 (wrap64 ((wrap64 ((wrap64 ((wrap64 ((wrap64 (rd x1000 (Int.tmod (wrap64 (x1001 - 1)) (x1000.length : Int)))) * 131)) + (wrap64 ((wrap64 (rd x1000 (Int.tmod (wrap64 ((wrap64 ((wrap64 (x1001 - 1)) * 7)) + 3)) (x1000.length : Int)))) * 1117)))) + (wrap64 ((wrap64 (x1001 - 1)) * 29)))) + (wrap64 ((wrap64 (Int.tdiv (wrap64 (x1001 - 1)) (x1000.length : Int))) * 53)))) (wrap64 (Int.tdiv (wrap64 ((wrap64 ((wrap64 ((wrap64 ((wrap64 (rd x1000 (Int.tmod (wrap64 (x1001 - 1)) (x1000.length : Int)))) * 131)) + (wrap64 ((wrap64 (rd x1000 (Int.tmod (wrap64 ((wrap64 ((wrap64 (x1001 - 1)) * 7)) + 3)) (x1000.length : Int)))) * 1117)))) + (wrap64 ((wrap64 (x1001 - 1)) * 29)))) + (wrap64 ((wrap64 (Int.tdiv (wrap64 (x1001 - 1)) (x1000.length : Int))) * 53)))) 64))) x1, x1001))) else (none)) else (none)) else (none)) else (none))))
def spec_l13Rd_pick.f (k : Nat) (s0_0 : List Int) (s0_1 : Int) (a1 : Int) : Option (Int × Int) := if a1 < 1 then (spec_l13Rd_pick.j0 k a1 true s0_0 (wrap64 (s0_1 + 1))) else (spec_l13Rd_pick.j0 k a1 ((s0_0.length : Int) == 0) s0_0 (wrap64 (s0_1 + 1)))
/-! ### spec_l13Rd_of: function 43 -/
def spec_l13Rd_of.f (k : Nat) (s0_0 : List Int) (s0_1 : Int) (l1 : List ByteArray) : Option (ByteArray × Int) := (spec_l13Rd_pick.f k s0_0 s0_1 (l1.length : Int)).bind fun bt155 => (if 0 ≤ bt155.1 then (if bt155.1 < (l1.length : Int) then (some (rdOf ByteArray.empty l1 bt155.1, bt155.2)) else (none)) else (none))
/-! ### spec_l13Rd_num: function 63 -/
def spec_l13Rd_num.f (k : Nat) (s0_0 : List Int) (s0_1 : Int) (l1 : List Int) : Option (Int × Int) := (spec_l13Rd_pick.f k s0_0 s0_1 (l1.length : Int)).bind fun bt158 => (if 0 ≤ bt158.1 then (if bt158.1 < (l1.length : Int) then (some (rd l1 bt158.1, bt158.2)) else (none)) else (none))
/-! ### spec_l1Name: function 76 -/
def spec_l1Name.f (k : Nat) (s0_0 : List Int) (s0_1 : Int) : Option (ByteArray × Int) := (spec_l13Rd_of.f k s0_0 s0_1 (([(⟨#[97]⟩ : ByteArray), (⟨#[98]⟩ : ByteArray), (⟨#[99]⟩ : ByteArray), (⟨#[100]⟩ : ByteArray), (⟨#[109, 97, 105, 110]⟩ : ByteArray), (⟨#[101]⟩ : ByteArray)] : List ByteArray))).bind fun bt164 => (some (bt164.1, bt164.2))
/-! ### spec_l1Ins: function 75 -/
mutual
def spec_l1Ins.j0 : Nat → Int → Bool → List Int → Int → Option (Int × Int × ByteArray × Int)
  | 0, _, _, _, _ => none
  | k + 1, x4, x5, x1000, x1001 => if x5 = true then (some (1, 0, (⟨#[]⟩ : ByteArray), x1001)) else (if x4 = 2 then (spec_l1Ins.j1 k x4 (x4 == 2) x1000 x1001) else (spec_l1Ins.j1 k x4 (x4 == 3) x1000 x1001))
def spec_l1Ins.j1 : Nat → Int → Bool → List Int → Int → Option (Int × Int × ByteArray × Int)
  | 0, _, _, _, _ => none
  | k + 1, x4, x9, x1000, x1001 => if x9 = true then ((spec_l13Rd_num.f k x1000 x1001 (([1, (-1), 2, 5, (-3)] : List Int))).bind fun bt172 => (some (2, bt172.1, (⟨#[]⟩ : ByteArray), bt172.2))) else (if x4 = 4 then (spec_l1Ins.j2 k x4 (x4 == 4) x1000 x1001) else (spec_l1Ins.j2 k x4 (x4 == 5) x1000 x1001))
def spec_l1Ins.j2 : Nat → Int → Bool → List Int → Int → Option (Int × Int × ByteArray × Int)
  | 0, _, _, _, _ => none
  | k + 1, x4, x16, x1000, x1001 => if x16 = true then ((spec_l1Name.f k x1000 x1001).bind fun bt174 => (some (3, 0, bt174.1, bt174.2))) else (if x4 = 6 then ((spec_l1Name.f k x1000 x1001).bind fun bt176 => (some (5, 0, bt176.1, bt176.2))) else ((spec_l13Rd_num.f k x1000 x1001 (([6, 6, 7, 4] : List Int))).bind fun bt181 => (some (bt181.1, 0, (⟨#[]⟩ : ByteArray), bt181.2))))
end
def spec_l1Ins.f (k : Nat) (s0_0 : List Int) (s0_1 : Int) : Option (Int × Int × ByteArray × Int) := (spec_l13Rd_pick.f k s0_0 s0_1 8).bind fun bt167 => (if bt167.1 = 0 then (spec_l1Ins.j0 k bt167.1 (bt167.1 == 0) s0_0 bt167.2) else (spec_l1Ins.j0 k bt167.1 (bt167.1 == 1) s0_0 bt167.2))
/-! ### spec_l1Right: function 62 -/
def spec_l1Right.f (k : Nat) (s0_0 : List Int) (s0_1 : Int) : Option (Int × Int × ByteArray × Int) := (spec_l1Ins.f k s0_0 s0_1).bind fun bt184 => (if bt184.1 = 4 then ((spec_l1Name.f k s0_0 bt184.2.2.2).bind fun bt189 => (some (bt184.1, bt184.2.1, bt189.1, bt189.2))) else (some (bt184.1, bt184.2.1, bt184.2.2.1, bt184.2.2.2)))
end Go.Proofs.YtajhjdhkeahlpaaDoor.P

-- made by printx.py (own driver over the kit's print); Lean checks it
namespace Go.Proofs.YtajhjdhkeahlpaaDoor.P
open Go.RowKit Go.Proofs.YtajhjdhkeahlpaaDoorW.PrintWords Go.Proofs.YtajhjdhkeahlpaaDoorW.PrintLast Go.Proofs.YtajhjdhkeahlpaaDoorW.PrintMore
attribute [local go_sem] max2_int min2_int max_two min_two max_three min_three max_four min_four   -- for this text's walks alone
set_option linter.unusedVariables false
set_option linter.unusedSimpArgs false

/-! ### spec_l1Bent: function 41 -/
def spec_l1Bent.f (k : Nat) (s0_0 : List Int) (s0_1 : Int) : Option (Int × Int × ByteArray × Int) := (spec_l1Right.f k s0_0 s0_1).bind fun bt192 => ((spec_l13Rd_pick.f k s0_0 bt192.2.2.2 30).bind fun bt197 => (if bt197.1 = 0 then ((spec_l13Rd_num.f k s0_0 bt197.2 (([0, 8, (-1), 1] : List Int))).bind fun bt202 => (some (bt202.1, bt192.2.1, bt192.2.2.1, bt202.2))) else (if bt197.1 = 1 then ((spec_l13Rd_num.f k s0_0 bt197.2 (([1, 1000, 1001] : List Int))).bind fun bt207 => (some (bt192.1, bt207.1, bt192.2.2.1, bt207.2))) else (if bt197.1 = 2 then ((spec_l13Rd_of.f k s0_0 bt197.2 (([(⟨#[65]⟩ : ByteArray), (⟨#[97, 98, 99, 100, 101, 102, 103]⟩ : ByteArray), (⟨#[97, 32, 98]⟩ : ByteArray), (⟨#[120]⟩ : ByteArray)] : List ByteArray))).bind fun bt212 => (some (bt192.1, bt192.2.1, bt212.1, bt212.2))) else (some (bt192.1, bt192.2.1, bt192.2.2.1, bt197.2))))))
/-! ### spec_l13Open: function 42 -/
def spec_l13Open.f (l0 : List Int) : Option (List Int × Int) := if (l0.length : Int) > 2000 then (if 2000 ≤ (l0.length : Int) then (some (l0.take 2000, 0)) else (none)) else (some (l0, 0))
end Go.Proofs.YtajhjdhkeahlpaaDoor.P

-- made by printx.py (own driver over the kit's print); Lean checks it
namespace Go.Proofs.YtajhjdhkeahlpaaDoor.P
open Go.RowKit Go.Proofs.YtajhjdhkeahlpaaDoorW.PrintWords Go.Proofs.YtajhjdhkeahlpaaDoorW.PrintLast Go.Proofs.YtajhjdhkeahlpaaDoorW.PrintMore
attribute [local go_sem] max2_int min2_int max_two min_two max_three min_three max_four min_four   -- for this text's walks alone
set_option linter.unusedVariables false
set_option linter.unusedSimpArgs false

/-! ### spec_DrawInsOk: function 13 -/
def spec_DrawInsOk.f (k : Nat) (l0 : List Int) : Option (Int × Int × ByteArray) := (spec_l13Open.f l0).bind fun bt218 => ((spec_l1Bent.f k bt218.1 bt218.2).bind fun bt221 => (some (bt221.1, bt221.2.1, bt221.2.2.1)))
/-! ### spec_DrawNameOk: function 14 -/
def spec_DrawNameOk.f (k : Nat) (l0 : List Int) : Option (ByteArray) := (spec_l13Open.f l0).bind fun bt225 => ((spec_l13Rd_of.f k bt225.1 bt225.2 (([(⟨#[97]⟩ : ByteArray), (⟨#[109, 97, 105, 110]⟩ : ByteArray), (⟨#[]⟩ : ByteArray), (⟨#[97, 98, 99, 100, 101, 102]⟩ : ByteArray), (⟨#[97, 98, 99, 100, 101, 102, 103]⟩ : ByteArray), (⟨#[65]⟩ : ByteArray), (⟨#[97, 49]⟩ : ByteArray), (⟨#[122, 122]⟩ : ByteArray)] : List ByteArray))).bind fun bt231 => (some bt231.1))
/-! ### impl_InsRefs: function 17 -/
def impl_InsRefs.f (a0_0 : Int) (a0_1 : Int) (a0_2 : ByteArray) : Option (Bool) := (impl_refers.f a0_0).bind fun t234 => (some t234)
end Go.Proofs.YtajhjdhkeahlpaaDoor.P

/- What the printed functions on instructions compute: names, classes, sums. -/
namespace Go.Proofs.YtajhjdhkeahlpaaDoor.L
open Go.RowKit Go.Proofs.YtajhjdhkeahlpaaDoorW.PrintWords Go.Proofs.YtajhjdhkeahlpaaDoorW.PrintLast Go.Proofs.YtajhjdhkeahlpaaDoorW.PrintMore Go.Proofs.YtajhjdhkeahlpaaDoor.P
set_option linter.unusedVariables false
set_option linter.unusedSimpArgs false

/-- Are the bytes from place i on, d of them, letters from a to z? -/
def okFrom (s : ByteArray) : Nat → Int → Bool
  | 0, _ => true
  | d + 1, i => (decide (97 ≤ bt s i) && decide (bt s i ≤ 122)) && okFrom s d (i + 1)
def nameOk (s : ByteArray) : Bool := okFrom s s.size 0 && (decide (1 ≤ s.size) && decide (s.size ≤ 6))
theorem okFrom_lo (s : ByteArray) (d : Nat) (i : Int) (h : bt s i < 97) : okFrom s (d + 1) i = false := by
  have : ¬ 97 ≤ bt s i := by omega
  simp [okFrom, this]
theorem okFrom_hi (s : ByteArray) (d : Nat) (i : Int) (h : bt s i > 122) : okFrom s (d + 1) i = false := by
  have : ¬ bt s i ≤ 122 := by omega
  simp [okFrom, this]
theorem okFrom_in (s : ByteArray) (d : Nat) (i : Int) (h : ¬ bt s i < 97) (h' : ¬ bt s i > 122) : okFrom s (d + 1) i = okFrom s d (i + 1) := by
  have : 97 ≤ bt s i := by omega
  have : bt s i ≤ 122 := by omega
  simp [okFrom, *]

def refersB (a : Int) : Bool := decide (3 ≤ a) && decide (a ≤ 5)
theorem refersB_true {a : Int} : refersB a = true ↔ a = 3 ∨ a = 4 ∨ a = 5 := by
  simp only [refersB, Bool.and_eq_true, decide_eq_true_eq]
  omega
theorem refers3 (a : Int) : (a = 3 ∧ refersB a = true) ∨ (a ≠ 3 ∧ a = 4 ∧ refersB a = true) ∨ (a ≠ 3 ∧ a ≠ 4 ∧ refersB a = (a == 5)) := by
  by_cases h3 : a = 3
  · subst h3; exact .inl ⟨rfl, rfl⟩
  · by_cases h4 : a = 4
    · subst h4; exact .inr (.inl ⟨by decide, rfl, rfl⟩)
    · refine .inr (.inr ⟨h3, h4, ?_⟩)
      by_cases h5 : a = 5
      · subst h5; rfl
      · have : ¬ (refersB a = true) := by rw [refersB_true]; omega
        rw [Bool.eq_false_iff.mpr this]
        exact (beq_eq_false_iff_ne.mpr h5).symm
def lastB (a : Int) : Bool := if a = 4 then true else if a = 6 then true else a == 7
/-- Is it ok? -/
def insOkB (op n : Int) (s : ByteArray) : Bool :=
  (decide (1 ≤ op) && decide (op ≤ 7)) && ((decide (n = 0) || decide (op = 2) && (decide (-1000 ≤ n) && decide (n ≤ 1000))) && (if refersB op = true then nameOk s else s.toList == ([] : List UInt8)))
theorem spec_NameOk_l0 (s : ByteArray) (hs : s.size ≤ 140737488351232) : ∀ (d k : Nat) (i : Int), 0 ≤ i → i + d = s.size → d < k →
    spec_NameOk.l0 k s i = some (okFrom s d i && (decide (1 ≤ s.size) && decide (s.size ≤ 6))) := by
  intro d
  induction d with
  | zero =>
    intro k i h0 h1 hk
    obtain ⟨m, rfl, _⟩ := succ_of hk
    simp only [spec_NameOk.l0]
    rw [if_neg (by omega)]
    by_cases h : (s.size : Int) ≥ 1
    · rw [if_pos h]
      have e1 : 1 ≤ s.size := by omega
      by_cases h6 : s.size ≤ 6
      · have e2 : (s.size : Int) ≤ 6 := by omega
        simp [okFrom, e1, e2, h6]
      · have e2 : ¬ (s.size : Int) ≤ 6 := by omega
        simp [okFrom, e1, e2, h6]
    · rw [if_neg h]
      have e1 : ¬ 1 ≤ s.size := by omega
      simp [okFrom, e1]
  | succ d ih =>
    intro k i h0 h1 hk
    obtain ⟨m, rfl, _⟩ := succ_of hk
    simp only [spec_NameOk.l0]
    rw [if_pos (by omega), if_pos h0]
    by_cases hl : bt s i < 97
    · rw [if_pos hl, okFrom_lo s d i hl]; rfl
    · rw [if_neg hl]
      by_cases hh : bt s i > 122
      · rw [if_pos hh, okFrom_hi s d i hh]; rfl
      · rw [if_neg hh, okFrom_in s d i hl hh, wrap_id (by omega) (by omega)]
        exact ih m (i + 1) (by omega) (by omega) (by omega)
theorem spec_NameOk_f (s : ByteArray) (hs : s.size ≤ 140737488351232) (k : Nat) (hk : s.size < k) : spec_NameOk.f k s = some (nameOk s) := by
  unfold spec_NameOk.f nameOk
  exact spec_NameOk_l0 s hs s.size k 0 (by omega) (by omega) hk
theorem impl_in_f (a b c : Int) : impl_in.f a b c = some (decide (b ≤ a) && decide (a ≤ c)) := by
  unfold impl_in.f
  by_cases h : b ≤ a <;> simp [h]
theorem impl_NameOk_l0 (s : ByteArray) (hs : s.size ≤ 140737488351232) : ∀ (d k : Nat) (i : Int), 0 ≤ i → i + d = s.size → d < k →
    impl_NameOk.l0 k s (s.size : Int) i = some (okFrom s d i && (decide (1 ≤ s.size) && decide (s.size ≤ 6))) := by
  intro d
  induction d with
  | zero =>
    intro k i h0 h1 hk
    obtain ⟨m, rfl, _⟩ := succ_of hk
    simp only [impl_NameOk.l0]
    rw [if_neg (by omega), impl_in_f]
    have e1 : decide ((1 : Int) ≤ (s.size : Int)) = decide (1 ≤ s.size) := by congr 1; exact propext ⟨fun h => by omega, fun h => by omega⟩
    have e2 : decide ((s.size : Int) ≤ 6) = decide (s.size ≤ 6) := by congr 1; exact propext ⟨fun h => by omega, fun h => by omega⟩
    simp [okFrom, e1, e2]
  | succ d ih =>
    intro k i h0 h1 hk
    obtain ⟨m, rfl, _⟩ := succ_of hk
    simp only [impl_NameOk.l0]
    rw [if_pos (by omega), if_pos h0, if_pos (by omega)]
    by_cases hl : bt s i < 97
    · rw [if_pos hl, okFrom_lo s d i hl]; rfl
    · rw [if_neg hl]
      by_cases hh : bt s i > 122
      · rw [if_pos hh, okFrom_hi s d i hh]; rfl
      · rw [if_neg hh, okFrom_in s d i hl hh, wrap_id (by omega) (by omega)]
        exact ih m (i + 1) (by omega) (by omega) (by omega)
theorem impl_NameOk_f (s : ByteArray) (hs : s.size ≤ 140737488351232) (k : Nat) (hk : s.size < k) : impl_NameOk.f k s = some (nameOk s) := by
  unfold impl_NameOk.f nameOk
  exact impl_NameOk_l0 s hs s.size k 0 (by omega) (by omega) hk
theorem impl_refers_f (a : Int) : impl_refers.f a = some (decide (3 ≤ a) && decide (a ≤ 5)) := by
  unfold impl_refers.f
  rw [impl_in_f]; rfl
theorem spec_InsRefs_f (a b : Int) (s : ByteArray) : spec_InsRefs.f a b s = some (refersB a) := by
  unfold spec_InsRefs.f
  rcases refers3 a with ⟨rfl, h⟩ | ⟨h3, rfl, h⟩ | ⟨h3, h4, h⟩
  · rw [if_pos rfl, h]
  · rw [if_neg h3, if_pos rfl, h]
  · rw [if_neg h3, if_neg h4, h]
theorem impl_isNumber_f (a : Int) : impl_isNumber.f a = some (decide (-1000 ≤ a) && decide (a ≤ 1000)) := by
  unfold impl_isNumber.f
  rw [impl_in_f]; rfl
theorem impl_refers_b (a : Int) : impl_refers.f a = some (refersB a) := impl_refers_f a
theorem ite_beq {s : ByteArray} (b : Bool) : (if s.toList = ([] : List UInt8) then some b else some false) = some ((s.toList == ([] : List UInt8)) && b) := by
  by_cases h : s.toList = ([] : List UInt8)
  · rw [if_pos h, h]; rfl
  · rw [if_neg h, beq_eq_false_iff_ne.mpr h]; rfl
theorem impl_InsOk_f (op n : Int) (s : ByteArray) (hs : s.size ≤ 140737488351232) (k : Nat) (hk : s.size < k) : impl_InsOk.f k op n s = some (insOkB op n s) := by
  unfold impl_InsOk.f insOkB
  rw [impl_in_f, impl_NameOk_f s hs k hk, impl_refers_b, impl_isNumber_f]
  simp only [Option.bind_some, ite_beq]
  by_cases h1 : (decide (1 ≤ op) && decide (op ≤ 7)) = true
  · rw [if_pos h1, h1]
    by_cases h2 : n = 0
    · rw [if_pos h2]
      cases nameOk s <;> cases refersB op <;> simp [h2]
    · rw [if_neg h2]
      by_cases h3 : op = 2
      · rw [if_pos h3]
        have h4 : refersB op = false := by rw [h3]; rfl
        rw [h4]
        cases hb : (decide (-1000 ≤ n) && decide (n ≤ 1000)) <;> cases nameOk s <;> simp [h2, h3, hb]
      · rw [if_neg h3]
        simp [h2, h3]
  · rw [if_neg h1, Bool.eq_false_iff.mpr h1]
    rfl
theorem ite_ge_le {n : Int} (b : Bool) : (if n ≥ -1000 then (if n ≤ 1000 then some b else some false) else some false) = some ((decide (-1000 ≤ n) && decide (n ≤ 1000)) && b) := by
  by_cases h : n ≥ -1000
  · have h' : decide (-1000 ≤ n) = true := decide_eq_true h
    rw [if_pos h, h']
    by_cases g : n ≤ 1000 <;> simp [g]
  · have h' : decide (-1000 ≤ n) = false := decide_eq_false h
    rw [if_neg h, h']
    rfl
theorem ite_zero {n : Int} (b : Bool) : (if n = 0 then some b else some false) = some (decide (n = 0) && b) := by
  by_cases h : n = 0 <;> simp [h]
theorem spec_InsOk_j1 (s : ByteArray) (hs : s.size ≤ 140737488351232) (k : Nat) (hk : s.size < k) (b : Bool) (op n : Int) :
    spec_InsOk.j1 (k + 1) b op n s = some (b && (decide (n = 0) && nameOk s)) := by
  simp only [spec_InsOk.j1]
  rw [spec_NameOk_f s hs k hk]
  simp only [Option.bind_some, ite_zero]
  cases b <;> rfl
theorem spec_InsOk_j0 (s : ByteArray) (hs : s.size ≤ 140737488351232) (k : Nat) (hk : s.size < k) (b : Bool) (op n o : Int) :
    spec_InsOk.j0 (k + 2) op b o n s = some (if b = true then decide (n = 0) && (s.toList == ([] : List UInt8)) else if op = 2 then (decide (-1000 ≤ n) && decide (n ≤ 1000)) && (s.toList == ([] : List UInt8)) else if op = 3 then (decide (n = 0) && nameOk s) else if op = 4 then (decide (n = 0) && nameOk s) else ((op == 5) && (decide (n = 0) && nameOk s))) := by
  simp only [spec_InsOk.j0]
  rw [spec_InsOk_j1 s hs k hk, spec_InsOk_j1 s hs k hk, spec_InsOk_j1 s hs k hk, ite_ge_le, ite_zero]
  cases b with
  | true => rfl
  | false =>
    simp only [Bool.false_eq_true, if_false]
    by_cases h2 : op = 2
    · simp only [h2, if_true]
    · simp only [h2, if_false]
      by_cases h3 : op = 3
      · subst h3; rfl
      · simp only [h3, if_false]
        by_cases h4 : op = 4
        · subst h4; rfl
        · simp only [h4, if_false]
theorem spec_InsOk_f (op n : Int) (s : ByteArray) (hs : s.size ≤ 140737488351232) (k : Nat) (hk : s.size + 2 < k) : spec_InsOk.f k op n s = some (insOkB op n s) := by
  obtain ⟨m, rfl⟩ : ∃ m, k = m + 2 := ⟨k - 2, by omega⟩
  unfold spec_InsOk.f
  rw [spec_InsOk_j0 s hs m (by omega), spec_InsOk_j0 s hs m (by omega), spec_InsOk_j0 s hs m (by omega)]
  by_cases h1 : op = 1
  · subst h1; simp [insOkB, refersB]
  by_cases h6 : op = 6
  · subst h6; simp [insOkB, refersB]
  by_cases h7 : op = 7
  · subst h7; simp [insOkB, refersB]
  by_cases h2 : op = 2
  · subst h2
    have : (decide (n = 0) || (decide (-1000 ≤ n) && decide (n ≤ 1000))) = (decide (-1000 ≤ n) && decide (n ≤ 1000)) := by
      by_cases h : n = 0
      · subst h; rfl
      · simp [h]
    simp [insOkB, refersB, this]
  by_cases h3 : op = 3
  · subst h3; simp [insOkB, refersB]
  by_cases h4 : op = 4
  · subst h4; simp [insOkB, refersB]
  by_cases h5 : op = 5
  · subst h5; simp [insOkB, refersB]
  · have e : (decide (1 ≤ op) && decide (op ≤ 7)) = false := by
      rw [Bool.and_eq_false_iff, decide_eq_false_iff_not, decide_eq_false_iff_not]; omega
    simp [h1, h2, h3, h4, h5, h6, h7, insOkB, e]
theorem laws_szIns_f (a b : Int) (s : ByteArray) (left : Int) (hs : s.size ≤ 140737488351232) (h0 : 0 ≤ left) (h1 : left ≤ 1048576) :
    laws_szIns.f a b s left = some (if left < s.size then -1 else left - s.size) := by
  unfold laws_szIns.f
  rw [wrap_id (n := left - (s.size : Int)) (by omega) (by omega)]
  by_cases h : left < s.size
  · rw [if_pos (by omega), if_pos h]
  · rw [if_neg (by omega), if_neg h]
end Go.Proofs.YtajhjdhkeahlpaaDoor.L
namespace Go.Proofs.YtajhjdhkeahlpaaDoor.L
open Go.RowKit Go.Proofs.YtajhjdhkeahlpaaDoorW.PrintWords Go.Proofs.YtajhjdhkeahlpaaDoorW.PrintLast Go.Proofs.YtajhjdhkeahlpaaDoorW.PrintMore Go.Proofs.YtajhjdhkeahlpaaDoor.P
set_option linter.unusedVariables false
set_option linter.unusedSimpArgs false
end Go.Proofs.YtajhjdhkeahlpaaDoor.L

/- What InsText computes, both sides. -/
namespace Go.Proofs.YtajhjdhkeahlpaaDoor.L
open Go.RowKit Go.Proofs.YtajhjdhkeahlpaaDoor.P Go.Proofs.YtajhjdhkeahlpaaDoorW.PrintWords
set_option linter.unusedVariables false
set_option linter.unusedSimpArgs false
def decS (u : Nat) : ByteArray := ⟨(Lib.decDigits u).toArray⟩
theorem decS_size (u : Nat) : (decS u).size = (Lib.decDigits u).length := by
  show (Lib.decDigits u).toArray.size = _
  simp
theorem dec_len : ∀ u : Nat, (Lib.decDigits u).length ≤ u + 1 := by
  intro u
  induction u using Nat.strongRecOn with
  | ind u ih =>
    unfold Lib.decDigits
    by_cases h : u < 10
    · rw [dif_pos h]; simp
    · rw [dif_neg h, List.length_append]
      have := ih (u / 10) (by omega)
      simp
      omega
theorem one_byte (x : Nat) (hx : x < 10) (z : Int) (hz : z = 48 + (x : Int)) : strOfNums [wrap64 z % 256] = ⟨#[UInt8.ofNat (48 + x)]⟩ := by
  subst hz
  rcases (show x = 0 ∨ x = 1 ∨ x = 2 ∨ x = 3 ∨ x = 4 ∨ x = 5 ∨ x = 6 ∨ x = 7 ∨ x = 8 ∨ x = 9 by omega) with rfl | rfl | rfl | rfl | rfl | rfl | rfl | rfl | rfl | rfl <;> first | decide | (simp [strOfNums, wrap64]; done) | (simp [strOfNums, wrap64]; decide)
theorem dec_l0 : ∀ (u k : Nat) (out : ByteArray), u < k → out.size + u ≤ 1000000000000000 → spec_l13Dec.l0 k (u : Int) out = some (decS u ++ out) := by
  intro u
  induction u using Nat.strongRecOn with
  | ind u ih =>
    intro k out hk hs
    obtain ⟨k, rfl, hk⟩ := succ_of hk
    simp only [spec_l13Dec.l0, Option.bind_some]
    have hd : decS u = if u < 10 then (⟨#[UInt8.ofNat (48 + u)]⟩ : ByteArray) else decS (u / 10) ++ ⟨#[UInt8.ofNat (48 + u % 10)]⟩ := by
      unfold decS
      rw [Lib.decDigits]
      by_cases h : u < 10
      · rw [dif_pos h, if_pos h]
      · rw [dif_neg h, if_neg h]
        apply ByteArray.ext
        simp
    by_cases h : u < 10
    · rw [if_neg (by omega), one_byte u h _ rfl, if_pos (by show 1 + out.size ≤ _; omega), hd, if_pos h]
    · have e1 : Int.tmod (u : Int) 10 = ((u % 10 : Nat) : Int) := by rw [Int.tmod_eq_emod_of_nonneg (by omega)]; omega
      have e2 : Int.tdiv (u : Int) 10 = ((u / 10 : Nat) : Int) := by rw [Int.tdiv_eq_ediv_of_nonneg (by omega)]; omega
      rw [if_pos (by omega), e1, one_byte (u % 10) (by omega) _ rfl, if_pos (by show 1 + out.size ≤ _; omega), e2, wrap_id (by omega) (by omega)]
      rw [ih (u / 10) (by omega) k _ (by omega) (by rw [ByteArray.size_append]; show 1 + out.size + _ ≤ _; omega), hd, if_neg h, ByteArray.append_assoc]
def itoaS (n : Int) : ByteArray := ⟨(Lib.itoa n).toArray⟩
theorem itoaS_size (n : Int) (h0 : -1000 ≤ n) (h1 : n ≤ 1000) : (itoaS n).size ≤ 1003 := by
  have h2 : (itoaS n).size = (Lib.itoa n).length := by show (Lib.itoa n).toArray.size = _; simp
  rw [h2]
  unfold Lib.itoa
  have a := dec_len n.natAbs
  have b := dec_len n.toNat
  split
  · simp; omega
  · omega
theorem spec_l13Dec_f (n : Int) (h0 : -1000 ≤ n) (h1 : n ≤ 1000) (k : Nat) (hk : 2000 < k) : spec_l13Dec.f k n = some (itoaS n) := by
  have pos : ∀ (m : Int) (k : Nat), 0 ≤ m → m ≤ 1000 → 1500 < k → spec_l13Dec.f k m = some (decS m.toNat) := by
    intro m k hm hm1 hk
    obtain ⟨k, rfl, hk⟩ := succ_of hk
    unfold spec_l13Dec.f
    rw [if_neg (by omega), if_neg (by omega)]
    have e := dec_l0 m.toNat k (⟨#[]⟩ : ByteArray) (by omega) (by show 0 + _ ≤ _; omega)
    rw [show ((m.toNat : Nat) : Int) = m by omega] at e
    rw [e]
    congr 1
    apply ByteArray.ext
    simp
  by_cases hn : n < 0
  · obtain ⟨k, rfl, hk⟩ := succ_of hk
    have hs := dec_len n.natAbs
    unfold spec_l13Dec.f
    rw [if_neg (by omega), if_pos hn, wrap_id (by omega) (by omega), pos (-n) k (by omega) (by omega) (by omega)]
    simp only [Option.bind_some]
    rw [if_pos (by rw [decS_size, show (-n).toNat = n.natAbs by omega]; omega)]
    congr 1
    unfold itoaS decS Lib.itoa
    rw [if_pos hn, show (-n).toNat = n.natAbs by omega]
    apply ByteArray.ext
    simp
  · rw [pos n k (by omega) (by omega) (by omega)]
    unfold itoaS decS Lib.itoa
    rw [if_neg hn]
def words : List ByteArray := [(⟨#[]⟩ : ByteArray), (⟨#[115, 97, 121]⟩ : ByteArray), (⟨#[97, 100, 100]⟩ : ByteArray), (⟨#[99, 97, 108, 108]⟩ : ByteArray), (⟨#[103, 111]⟩ : ByteArray), (⟨#[105, 102]⟩ : ByteArray), (⟨#[114, 101, 116]⟩ : ByteArray), (⟨#[101, 110, 100]⟩ : ByteArray)]
def wordV (op : Int) : ByteArray := rdOf ByteArray.empty words op
theorem op_cases {op : Int} (h0 : 1 ≤ op) (h1 : op ≤ 7) : op = 1 ∨ op = 2 ∨ op = 3 ∨ op = 4 ∨ op = 5 ∨ op = 6 ∨ op = 7 := by omega
theorem word_size {op : Int} (h0 : 1 ≤ op) (h1 : op ≤ 7) : (wordV op).size ≤ 4 := by
  rcases op_cases h0 h1 with rfl | rfl | rfl | rfl | rfl | rfl | rfl <;> decide
theorem impl_word_f {op : Int} (h0 : 1 ≤ op) (h1 : op ≤ 7) : impl_word.f op = some (wordV op) := by
  rcases op_cases h0 h1 with rfl | rfl | rfl | rfl | rfl | rfl | rfl <;> rfl
def textV (op n : Int) (s : ByteArray) : ByteArray :=
  if insOkB op n s = true then (if op = 2 then (wordV op ++ (⟨#[32]⟩ : ByteArray)) ++ itoaS n else if refersB op = true then (wordV op ++ (⟨#[32]⟩ : ByteArray)) ++ s else wordV op) else (⟨#[]⟩ : ByteArray)
theorem insOk_in {op n : Int} {s : ByteArray} (h : insOkB op n s = true) : 1 ≤ op ∧ op ≤ 7 ∧ -1000 ≤ n ∧ n ≤ 1000 := by
  unfold insOkB at h
  simp only [Bool.and_eq_true, Bool.or_eq_true, decide_eq_true_eq] at h
  omega
theorem spec_InsText_f (op n : Int) (s : ByteArray) (hs : s.size ≤ 140737488351232) (k : Nat) (hk : s.size + 3000 < k) : spec_InsText.f k op n s = some (textV op n s) := by
  unfold spec_InsText.f textV
  rw [spec_InsOk_f op n s hs k (by omega)]
  simp only [Option.bind_some]
  cases hok : insOkB op n s with
  | false => rw [if_neg (by decide), if_neg (by decide)]
  | true =>
    obtain ⟨h0, h1, h2, h3⟩ := insOk_in hok
    have hw := word_size h0 h1
    have hi := itoaS_size n h2 h3
    rw [if_pos rfl, if_pos rfl]
    unfold spec_l1Words.f
    simp only [Option.bind_some]
    rw [if_pos (by omega), if_pos (by show op < 8; omega)]
    show (if op = 2 then (if (wordV op).size + 1 ≤ 9223372036854775807 then _ else _) else _) = _
    have hw2 : (wordV op ++ (⟨#[32]⟩ : ByteArray)).size = (wordV op).size + 1 := by rw [ByteArray.size_append]; rfl
    by_cases h : op = 2
    · rw [if_pos h, if_pos h, if_pos (by omega), spec_l13Dec_f n h2 h3 k (by omega)]
      simp only [Option.bind_some]
      rw [if_pos (by
        show (wordV op ++ (⟨#[32]⟩ : ByteArray)).size + (itoaS n).size ≤ _
        rw [hw2]; omega)]
      rfl
    · rw [if_neg h, if_neg h, spec_InsRefs_f]
      simp only [Option.bind_some]
      by_cases hr : refersB op = true
      · rw [if_pos hr, if_pos hr, if_pos (by show (wordV op).size + 1 ≤ _; omega), if_pos (by
          show (wordV op ++ (⟨#[32]⟩ : ByteArray)).size + s.size ≤ _
          rw [hw2]; omega)]
        rfl
      · rw [if_neg hr, if_neg hr]
        rfl
theorem impl_InsText_f (op n : Int) (s : ByteArray) (hs : s.size ≤ 140737488351232) (k : Nat) (hk : s.size < k) : impl_InsText.f k op n s = some (textV op n s) := by
  unfold impl_InsText.f textV
  rw [impl_InsOk_f op n s hs k hk]
  simp only [Option.bind_some]
  cases hok : insOkB op n s with
  | false => rw [if_neg (by decide), if_neg (by decide)]
  | true =>
    obtain ⟨h0, h1, h2, h3⟩ := insOk_in hok
    have hw := word_size h0 h1
    have hi := itoaS_size n h2 h3
    have hw2 : (wordV op ++ (⟨#[32]⟩ : ByteArray)).size = (wordV op).size + 1 := by rw [ByteArray.size_append]; rfl
    rw [if_pos rfl, if_pos rfl, impl_word_f h0 h1]
    simp only [Option.bind_some]
    by_cases h : op = 2
    · rw [if_pos h, if_pos h, if_pos (by omega)]
      unfold strconv_Itoa_39.f
      rw [if_pos (by omega)]
      simp only [Option.bind_some]
      rw [if_pos (by
        show (wordV op ++ (⟨#[32]⟩ : ByteArray)).size + (itoaS n).size ≤ _
        rw [hw2]; omega)]
      rfl
    · rw [if_neg h, if_neg h, impl_refers_f]
      simp only [Option.bind_some]
      by_cases hr : refersB op = true
      · rw [if_pos (by exact hr), if_pos hr, if_pos (by omega), if_pos (by rw [hw2]; omega)]
      · rw [if_neg (by exact hr), if_neg hr]
end Go.Proofs.YtajhjdhkeahlpaaDoor.L

/- The program's InsText returns what the reference's returns, for all arguments. -/
namespace Go.Proofs.YtajhjdhkeahlpaaDoor.Pure
open Go.RowKit Go.Proofs.YtajhjdhkeahlpaaDoor.P Go.Proofs.YtajhjdhkeahlpaaDoor.L Go.Proofs.YtajhjdhkeahlpaaDoorW.PrintWords
theorem FnExactInsText : laws_FnExactInsText.Pure := by
  intro x ⟨_, _, hs⟩
  refine ⟨x.f2.size + 5001, ?_⟩
  unfold laws_FnExactInsText.f
  rw [laws_szIns_f _ _ _ _ hs (by decide) (by decide)]
  simp only [Option.bind_some]
  by_cases h : (1048576 : Int) < x.f2.size
  · rw [if_pos h]; rfl
  · rw [if_neg h, if_neg (by omega)]
    simp only [laws_FnExactInsText.j0]
    unfold laws_toIns.f
    simp only [Option.bind_some]
    rw [spec_InsText_f _ _ _ hs _ (by omega), impl_InsText_f _ _ _ hs _ (by omega)]
    simp
end Go.Proofs.YtajhjdhkeahlpaaDoor.Pure
