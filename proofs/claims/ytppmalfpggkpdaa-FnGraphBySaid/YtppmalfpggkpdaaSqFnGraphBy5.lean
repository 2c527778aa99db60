-- put together by squash.py
import Derived.Test.YtppmalfpggkpdaaSqFnGraphBy3
import Derived.Test.YtppmalfpggkpdaaSqFnGraphBy4
import Derived.Test.YtppmalfpggkpdaaProg
import Derived.Ground.NamesProg
import Derived.Shelf.Lay
import Derived.Shelf.Slices.In.CompactS
import Derived.Shelf.Slices.In.SortAlone
import Derived.Shelf.Slices.In.SortNone
import Derived.Sort.OwnSorted
import Derived.Sort.EveryDepth
import Derived.Sort.Grow
import Derived.Lib.OwnBridge
import Derived.Lib.RowBridge
set_option linter.unusedVariables false
set_option linter.unusedSimpArgs false

namespace Go.Proofs.Ytppmalfpggkpdaa.P
open Go.RowKit Go.Proofs.YtppmalfpggkpdaaW.PrintWords Go.Proofs.YtppmalfpggkpdaaW.PrintLast Go.Proofs.YtppmalfpggkpdaaW.PrintMore
attribute [local go_sem] max2_int min2_int max_two min_two max_three min_three max_four min_four
def impl_FunRefs.f (k : Nat) (a0_0 : ByteArray) (a0_1 : Bool) (l0_2 : List (S110)) : Option (List ByteArray) := (impl_FunOk.f a0_0 a0_1 l0_2).bind fun t804 => (if t804 = true then ((impl_Fun_refs.f k a0_0 a0_1 l0_2).bind fun t805 => (some t805)) else (some ([] : List ByteArray)))
set_option maxHeartbeats 8000000 in
set_option maxRecDepth 100000 in
theorem impl_FunRefs.calls (k : Nat) (a0_0 : ByteArray) (a0_1 : Bool) (A0_2 : Option Addr) (c0_2 : Nat) (l0_2 : List (S110)) (r : List ByteArray) (w : World) (hr0_2 : Kd.C k110 w A0_2 l0_2.length l0_2) (hc0_2 : l0_2.length ≤ c0_2) (h : impl_FunRefs.f k a0_0 a0_1 l0_2 = some r) :
    Calls Try.prog 37 #[.agg #[.string a0_0, .bool a0_1, .slice A0_2 l0_2.length c0_2]] w fun e w' => ∃ v0_ : Value, e = .returned (v0_) ∧ Kd.R Kd.string 9 w' w.heap.size (fun _ => True) v0_ r ∧ Below w.heap.size w w' := by
 have hu52 := Try.underlying52
 have HR0_2 := aM hr0_2; have HC0_2 := aM hc0_2; clear hr0_2 hc0_2
 have HB := aM (Below.refl w.heap.size w)
 have H : ((impl_FunOk.f a0_0 a0_1 l0_2).bind fun t804 => (if t804 = true then ((impl_Fun_refs.f k a0_0 a0_1 l0_2).bind fun t805 => (some t805)) else (some ([] : List ByteArray)))) = some r := h
 clear h
 replace H := Option.bind_eq_some_iff.mp H
 obtain ⟨t804, A20, H⟩ := H
 replace H : (if t804 = true then ((impl_Fun_refs.f k a0_0 a0_1 l0_2).bind fun t805 => (some t805)) else (some ([] : List ByteArray))) = some r := H
 have A2 := aM A20; clear A20
 by_cases c3 : t804 = true
 · subst c3
   have H1 : ((impl_Fun_refs.f k a0_0 a0_1 l0_2).bind fun t805 => (some t805)) = some r := by rw [if_pos rfl] at H; exact H
   clear H
   have H := H1
   clear H1
   replace H := Option.bind_eq_some_iff.mp H
   obtain ⟨t805, A40, H⟩ := H
   replace H : (some t805) = some r := H
   have A4 := aM A40; clear A40
   obtain rfl := Option.some.inj H
   go_enter Try.func37, Try.ntmps37
   go_wp2_with (first | ((with_reducible refine gate_dst (N := 1) rfl ?_); refine box_event ?hg (N := 1) ?hd (cs := #[.string a0_0, .bool a0_1, .slice A0_2 l0_2.length c0_2]) (t := 52) ?hr ?_; (case hd => rfl); (case hg => rfl); (case hr => first | (go_simp; done) | (go_simp; rfl)); intro gb803 hg w5 hbox hb; have n0_ := aM (below_step (by repeat (with_reducible first | exact HB.out | apply bA | apply bN | apply bD)) hb); have n1_ := aM (hbox); have n2_ := aM ((by rw [hg]; exact (below_size (by repeat (with_reducible first | exact HB.out | apply bA | apply bN | apply bD))) : w.heap.size ≤ gb803)); have n3_ := aM ((by rw [hg]; exact (below_size (by repeat (with_reducible first | exact HB.out | apply bA | apply bN | apply bD))) : w.heap.size ≤ gb803)); clear HB; have HB := n0_; have BK803 := n1_; have GW803 := n2_; have GE803 := n3_; clear n0_ n1_ n2_ n3_ hb hbox hg; have hcz6_0 : w5.cell? ⟨gb803, 0, none⟩ = some (.string a0_0) := (blk_cell BK803.out 0).trans rfl; have hcz6_1 : w5.cell? ⟨gb803, 1, none⟩ = some (.bool a0_1) := (blk_cell BK803.out 1).trans rfl; have hcz6_2 : w5.cell? ⟨gb803, 2, none⟩ = some (.slice A0_2 l0_2.length c0_2) := (blk_cell BK803.out 2).trans rfl; have hfz6_0 := blk_frozen BK803.out 0; have hfz6_1 := blk_frozen BK803.out 1; have hfz6_2 := blk_frozen BK803.out 2) | ((with_reducible refine gate_callee (f := 80) rfl ?_); refine goesL_ (some 4) rfl rfl Try.func80 (by kernel_rfl) rfl #[.agg #[.string a0_0, .bool a0_1, .slice A0_2 l0_2.length c0_2]] rfl (by (try simp only [List.map_toArray, List.map_cons, List.map_nil]); first | done | rfl) ?_; (with_reducible refine (impl_FunOk.calls a0_0 a0_1 _ _ l0_2 true _ ?side1 ?side2 A2.out).mono ?_); (case side1 => repeat (first | exact (Kd.C_below HR0_2.out HB.out) | (with_reducible first | refine Ca ?_ _ | refine Cn ?_ _ | refine Cd ?_))); (case side2 => exact HC0_2.out); rintro e w7 ⟨rfl, hb⟩; refine ⟨_, rfl, ?_⟩; have n0_ := aM (blk_below (g := gb803) (o := .cells #[.string a0_0, .bool a0_1, .slice A0_2 l0_2.length c0_2] 52 (0, 0)) (by exact BK803.out) hb); have n1_ := aM (below_step (by repeat (with_reducible first | exact HB.out | apply bA | apply bN | apply bD | refine below_set ?_ GE803.out)) hb); clear BK803 HB; have BK803 := n0_; have HB := n1_; clear n0_ n1_; have hcz8_0 : w7.cell? ⟨gb803, 0, none⟩ = some (.string a0_0) := (blk_cell BK803.out 0).trans rfl; have hcz8_1 : w7.cell? ⟨gb803, 1, none⟩ = some (.bool a0_1) := (blk_cell BK803.out 1).trans rfl; have hcz8_2 : w7.cell? ⟨gb803, 2, none⟩ = some (.slice A0_2 l0_2.length c0_2) := (blk_cell BK803.out 2).trans rfl; have hfz8_0 := blk_frozen BK803.out 0; have hfz8_1 := blk_frozen BK803.out 1; have hfz8_2 := blk_frozen BK803.out 2) | ((with_reducible refine gate_callee (f := 81) rfl ?_); refine goesL_ (some 7) rfl rfl Try.func81 (by kernel_rfl) rfl #[.agg #[.string a0_0, .bool a0_1, .slice A0_2 l0_2.length c0_2]] rfl (by (try simp only [List.map_toArray, List.map_cons, List.map_nil]); first | done | rfl) ?_; (with_reducible refine (impl_Fun_refs.calls k a0_0 a0_1 _ _ l0_2 t805 _ ?side1 ?side2 A4.out).mono ?_); (case side1 => repeat (first | exact (Kd.C_below HR0_2.out HB.out) | (with_reducible first | refine Ca ?_ _ | refine Cn ?_ _ | refine Cd ?_))); (case side2 => exact HC0_2.out); rintro e w9 ⟨v806, rfl, ho0, hb⟩; refine ⟨_, rfl, ?_⟩; have n0_ := aM (Kd.R_lower ho0 (below_size (by repeat (with_reducible first | exact HB.out | apply bA | apply bN | apply bD | refine below_set ?_ GE803.out)))); have n1_ := aM (blk_below (g := gb803) (o := .cells #[.string a0_0, .bool a0_1, .slice A0_2 l0_2.length c0_2] 52 (0, 0)) (by exact BK803.out) hb); have n2_ := aM (below_step (by repeat (with_reducible first | exact HB.out | apply bA | apply bN | apply bD | refine below_set ?_ GE803.out)) hb); clear BK803 HB; have HO807 := n0_; have BK803 := n1_; have HB := n2_; clear n0_ n1_ n2_; (try clear ho0)))
   go_ret
   exact ⟨_, by first | rfl | (simp [*, errW_none, errW_some] <;> rfl), by (with_reducible repeat (first | apply Ra | apply Rn | apply Rd)); exact HO807.out, by repeat (with_reducible first | exact HB.out | apply bA | apply bN | apply bD | refine below_set ?_ GE803.out)⟩
 replace c3 := Bool.eq_false_iff.mpr c3
 subst c3
 have H1 : (some ([] : List ByteArray)) = some r := by rw [if_neg (show ¬ (false = true) by decide)] at H; exact H
 clear H
 have H := H1
 clear H1
 obtain rfl := Option.some.inj H
 go_enter Try.func37, Try.ntmps37
 go_wp2_with (first | ((with_reducible refine gate_dst (N := 1) rfl ?_); refine box_event ?hg (N := 1) ?hd (cs := #[.string a0_0, .bool a0_1, .slice A0_2 l0_2.length c0_2]) (t := 52) ?hr ?_; (case hd => rfl); (case hg => rfl); (case hr => first | (go_simp; done) | (go_simp; rfl)); intro gb803 hg w10 hbox hb; have n0_ := aM (below_step (by repeat (with_reducible first | exact HB.out | apply bA | apply bN | apply bD)) hb); have n1_ := aM (hbox); have n2_ := aM ((by rw [hg]; exact (below_size (by repeat (with_reducible first | exact HB.out | apply bA | apply bN | apply bD))) : w.heap.size ≤ gb803)); have n3_ := aM ((by rw [hg]; exact (below_size (by repeat (with_reducible first | exact HB.out | apply bA | apply bN | apply bD))) : w.heap.size ≤ gb803)); clear HB; have HB := n0_; have BK803 := n1_; have GW803 := n2_; have GE803 := n3_; clear n0_ n1_ n2_ n3_ hb hbox hg; have hcz11_0 : w10.cell? ⟨gb803, 0, none⟩ = some (.string a0_0) := (blk_cell BK803.out 0).trans rfl; have hcz11_1 : w10.cell? ⟨gb803, 1, none⟩ = some (.bool a0_1) := (blk_cell BK803.out 1).trans rfl; have hcz11_2 : w10.cell? ⟨gb803, 2, none⟩ = some (.slice A0_2 l0_2.length c0_2) := (blk_cell BK803.out 2).trans rfl; have hfz11_0 := blk_frozen BK803.out 0; have hfz11_1 := blk_frozen BK803.out 1; have hfz11_2 := blk_frozen BK803.out 2) | ((with_reducible refine gate_callee (f := 80) rfl ?_); refine goesL_ (some 4) rfl rfl Try.func80 (by kernel_rfl) rfl #[.agg #[.string a0_0, .bool a0_1, .slice A0_2 l0_2.length c0_2]] rfl (by (try simp only [List.map_toArray, List.map_cons, List.map_nil]); first | done | rfl) ?_; (with_reducible refine (impl_FunOk.calls a0_0 a0_1 _ _ l0_2 false _ ?side1 ?side2 A2.out).mono ?_); (case side1 => repeat (first | exact (Kd.C_below HR0_2.out HB.out) | (with_reducible first | refine Ca ?_ _ | refine Cn ?_ _ | refine Cd ?_))); (case side2 => exact HC0_2.out); rintro e w12 ⟨rfl, hb⟩; refine ⟨_, rfl, ?_⟩; have n0_ := aM (blk_below (g := gb803) (o := .cells #[.string a0_0, .bool a0_1, .slice A0_2 l0_2.length c0_2] 52 (0, 0)) (by exact BK803.out) hb); have n1_ := aM (below_step (by repeat (with_reducible first | exact HB.out | apply bA | apply bN | apply bD | refine below_set ?_ GE803.out)) hb); clear BK803 HB; have BK803 := n0_; have HB := n1_; clear n0_ n1_))
 go_ret
 exact ⟨_, by first | rfl | (simp [*, errW_none, errW_some] <;> rfl), by first | exact Kd.R_nil _ _ _ _ _ | exact Kd.N_nil _ _ _ _ _ | exact Kd.V_nil _ _ _ _ _ | exact Kd.Q_nil _ _ _ _ _ | exact Kd.S_nil _ _ _ _ _, by repeat (with_reducible first | exact HB.out | apply bA | apply bN | apply bD | refine below_set ?_ GE803.out)⟩
def spec_l2Put.l0 : Nat → List ByteArray → ByteArray → Int → Option (List ByteArray)
  | 0, _, _, _ => none
  | k + 1, x0, x1, x5 => if x5 < (x0.length : Int) then (if 0 ≤ x5 then (if (Op.bytesLess ((rdOf ByteArray.empty x0 x5).toList) x1.toList) = true then (spec_l2Put.l0 k x0 x1 (wrap64 (x5 + 1))) else (if (rdOf ByteArray.empty x0 x5).toList = x1.toList then (some x0) else ((some (([] : List ByteArray) : List ByteArray)).bind fun y141 => (if x5 ≤ (x0.length : Int) then ((some (x0.drop (x5 : Int).toNat : List ByteArray)).bind fun y144 => (if y141.length + y144.length < 8796093022208 then ((some (y141 ++ y144 : List ByteArray)).bind fun y148 => ((some (x0.take (x5 : Int).toNat : List ByteArray)).bind fun y151 => (if y151.length < 8796093022208 then ((some (y151 ++ [x1] : List ByteArray)).bind fun y154 => (if y154.length + y148.length < 8796093022208 then (some (y154 ++ y148)) else (none))) else (none)))) else (none))) else (none))))) else (none)) else ((some (([] : List ByteArray) : List ByteArray)).bind fun y160 => (if 0 ≤ x5 then (if x5 ≤ (x0.length : Int) then ((some (x0.drop (x5 : Int).toNat : List ByteArray)).bind fun y163 => (if y160.length + y163.length < 8796093022208 then ((some (y160 ++ y163 : List ByteArray)).bind fun y167 => ((some (x0.take (x5 : Int).toNat : List ByteArray)).bind fun y170 => (if y170.length < 8796093022208 then ((some (y170 ++ [x1] : List ByteArray)).bind fun y173 => (if y173.length + y167.length < 8796093022208 then (some (y173 ++ y167)) else (none))) else (none)))) else (none))) else (none)) else (none)))
def spec_l2Put.f (k : Nat) (l0 : List ByteArray) (a1 : ByteArray) : Option (List ByteArray) := spec_l2Put.l0 k l0 a1 0
theorem own_len_ {A : Option Addr} {n m c d : Nat} : (Value.slice A n c).ownBlock = (Value.slice A m d).ownBlock := by cases A <;> rfl
set_option maxHeartbeats 8000000 in
set_option maxRecDepth 100000 in
theorem spec_l2Put.calls (k : Nat) (P0_ : Nat → Prop) (u9000_ : Value) (l0 : List ByteArray) (a1 : ByteArray) (r : List ByteArray) (w0 w : World) (hB : Below w0.heap.size w0 w) (ho0 : Kd.R Kd.string 9 w w0.heap.size P0_ u9000_ l0) (h : spec_l2Put.f k l0 a1 = some r) :
    Calls Try.prog 84 #[u9000_, .string a1] w fun e w' => ∃ v0_ : Value, e = .returned (v0_) ∧ Kd.R Kd.string 9 w' w0.heap.size (fun k_ => (P0_ k_ ∨ w.heap.size ≤ k_)) v0_ r ∧ Below w0.heap.size w0 w' ∧ Kept w w' (fun k_ => P0_ k_) := by
 have HO0 := aM (show Kd.R Kd.string 9 w w0.heap.size (fun k_ => (P0_ k_ ∨ w.heap.size ≤ k_)) u9000_ l0 from Kd.R_mono ho0 (fun k_ hk => (.inl hk)))
 have HK := aM (Kept.refl w (fun k_ => P0_ k_))
 have HW0 := aM hB.size
 have HB := aM hB; clear hB
 have H : (spec_l2Put.l0 k l0 a1 0) = some r := h
 clear h
 have H' := aM H
 clear H
 go_enter Try.func84, Try.ntmps84
 go_wp2
 go_loopg [5] k (fun kq v5 w' => ∃ (x5_1 : Int), v5 = .int .i64 x5_1 ∧ Aside0 (spec_l2Put.l0 kq l0 a1 x5_1 = some r) ∧ Aside0 (kq ≤ k) ∧ Aside0 (Kd.R Kd.string 9 w' w0.heap.size (fun k_ => (P0_ k_ ∨ w.heap.size ≤ k_)) u9000_ l0) ∧ Aside0 (Kept w w' (fun k_ => P0_ k_)) ∧ Aside0 (Below w0.heap.size w0 w'))
 case atStart => exact ⟨(0), (by first | rfl | (simp; done) | (simp [*]; done)), H', ⟨Nat.le_refl _⟩, ⟨by (with_reducible repeat (first | apply Ra | apply Rn | apply Rd)); exact HO0.out⟩, ⟨by repeat (with_reducible first | exact HK.out | apply Kept.alloc | apply Kept.drewN | apply Kept.drew)⟩, ⟨by repeat (with_reducible first | exact HB.out | apply bA | apply bN | apply bD)⟩⟩
 clear H'
 try clear p2
 obtain ⟨x5_1, rfl, HA, HK1, HO_0, HK, HB⟩ := hrel
 obtain _ | k1 := gk
 · exact absurd HA.out (by simp [spec_l2Put.l0])
 have H := HA.out
 clear HA
 simp only [spec_l2Put.l0] at H
 by_cases c3 : x5_1 < (l0.length : Int)
 · rw [if_pos c3] at H
   have c3b0 : decide (x5_1 < (l0.length : Int)) = true := decide_eq_true c3
   clear c3
   by_cases c4 : 0 ≤ x5_1
   · rw [if_pos c4] at H
     have c4b0 : decide (0 ≤ x5_1) = true := decide_eq_true c4
     clear c4
     by_cases c5 : (Op.bytesLess ((rdOf ByteArray.empty l0 x5_1).toList) a1.toList) = true
     · rw [if_pos c5] at H
       have c5b0 : (Op.bytesLess ((rdOf ByteArray.empty l0 x5_1).toList) a1.toList) = true := c5
       clear c5
       have H' := aM H
       clear H
       obtain ⟨Ao6, co6, eo6⟩ := Kd.R_slice HO_0.out
       subst eo6
       have p139 : 0 ≤ (x5_1 : Int) := oD (by first | with_reducible assumption | assumption)
       have q139 : x5_1 < (l0.length : Int) := oD (by first | with_reducible assumption | assumption)
       obtain ⟨ad139, e139, hx139_0⟩ := Kd.at_string (Kd.R_reads' HO_0.out).2.2 x5_1 p139 q139
       cases e139
       replace p139 := eq_true p139; replace q139 := eq_true q139
       go_wp2
       go_roundg k1
       case measure => have := HK1.out; omega
       case rel => exact ⟨(wrap64 (x5_1 + 1)), (by first | rfl | (simp; done) | (simp [*]; done)), H', ⟨by have := HK1.out; omega⟩, ⟨by (with_reducible repeat (first | apply Ra | apply Rn | apply Rd)); exact HO_0.out⟩, ⟨by repeat (with_reducible first | exact HK.out | apply Kept.alloc | apply Kept.drewN | apply Kept.drew)⟩, ⟨by repeat (with_reducible first | exact HB.out | apply bA | apply bN | apply bD)⟩⟩
     rw [if_neg c5] at H
     have c5b0 : (Op.bytesLess ((rdOf ByteArray.empty l0 x5_1).toList) a1.toList) = false := by simpa using c5
     clear c5
     by_cases c7 : (rdOf ByteArray.empty l0 x5_1).toList = a1.toList
     · rw [if_pos c7] at H
       have c7b0 : ((rdOf ByteArray.empty l0 x5_1).toList == a1.toList) = true := beq_iff_eq.mpr c7
       have c7b1 : ((rdOf ByteArray.empty l0 x5_1).toList != a1.toList) = false := bne_eq_false_iff_eq.mpr c7
       clear c7
       obtain rfl := Option.some.inj H
       obtain ⟨Ao8, co8, eo8⟩ := Kd.R_slice HO_0.out
       subst eo8
       have p139 : 0 ≤ (x5_1 : Int) := oD (by first | with_reducible assumption | assumption)
       have q139 : x5_1 < (l0.length : Int) := oD (by first | with_reducible assumption | assumption)
       obtain ⟨ad139, e139, hx139_0⟩ := Kd.at_string (Kd.R_reads' HO_0.out).2.2 x5_1 p139 q139
       cases e139
       replace p139 := eq_true p139; replace q139 := eq_true q139
       have p140 : 0 ≤ (x5_1 : Int) := oD (by first | with_reducible assumption | assumption)
       have q140 : x5_1 < (l0.length : Int) := oD (by first | with_reducible assumption | assumption)
       obtain ⟨ad140, e140, hx140_0⟩ := Kd.at_string (Kd.R_reads' HO_0.out).2.2 x5_1 p140 q140
       obtain rfl : ad139 = ad140 := (by injection e140)
       replace p140 := eq_true p140; replace q140 := eq_true q140
       go_wp2
       go_ret
       exact ⟨_, by first | rfl | (simp [*, errW_none, errW_some] <;> rfl), by (with_reducible repeat (first | apply Ra | apply Rn | apply Rd)); exact HO_0.out, by repeat (with_reducible first | exact HB.out | apply bA | apply bN | apply bD), by repeat (with_reducible first | exact HK.out | apply Kept.alloc | apply Kept.drewN | apply Kept.drew)⟩
     rw [if_neg c7] at H
     have c7b0 : ((rdOf ByteArray.empty l0 x5_1).toList == a1.toList) = false := beq_eq_false_iff_ne.mpr c7
     have c7b1 : ((rdOf ByteArray.empty l0 x5_1).toList != a1.toList) = true := bne_iff_ne.mpr c7
     obtain ⟨y141, hy141⟩ : ∃ y_ : List ByteArray, y_ = (([] : List ByteArray)) := ⟨_, rfl⟩
     replace H : (if x5_1 ≤ (l0.length : Int) then ((some (l0.drop (x5_1 : Int).toNat : List ByteArray)).bind fun y144 => (if y141.length + y144.length < 8796093022208 then ((some (y141 ++ y144 : List ByteArray)).bind fun y148 => ((some (l0.take (x5_1 : Int).toNat : List ByteArray)).bind fun y151 => (if y151.length < 8796093022208 then ((some (y151 ++ [a1] : List ByteArray)).bind fun y154 => (if y154.length + y148.length < 8796093022208 then (some (y154 ++ y148)) else (none))) else (none)))) else (none))) else (none)) = some r := by first | (rw [hy141]; with_reducible exact H) | (have H2_ := (Option.bind_some _ _).symm.trans H; rw [hy141]; with_reducible exact H2_) | (have H2_ := (Option.bind_some _ _).symm.trans H; with_reducible exact H2_) | with_reducible exact H | (rw [hy141]; exact H) | exact H
     have Ny141 := aM hy141; clear hy141
     have c9b0 := eq_true (oD (by first | with_reducible assumption | assumption) : 0 ≤ x5_1)
     by_cases c10 : x5_1 ≤ (l0.length : Int)
     · rw [if_pos c10] at H
       have c10b0 := eq_true c10
       have c10b1 : decide (x5_1 ≤ (l0.length : Int)) = true := decide_eq_true c10
       clear c10
       obtain ⟨y144, hy144⟩ : ∃ y_ : List ByteArray, y_ = (l0.drop (x5_1 : Int).toNat) := ⟨_, rfl⟩
       replace H : (if y141.length + y144.length < 8796093022208 then ((some (y141 ++ y144 : List ByteArray)).bind fun y148 => ((some (l0.take (x5_1 : Int).toNat : List ByteArray)).bind fun y151 => (if y151.length < 8796093022208 then ((some (y151 ++ [a1] : List ByteArray)).bind fun y154 => (if y154.length + y148.length < 8796093022208 then (some (y154 ++ y148)) else (none))) else (none)))) else (none)) = some r := by first | (rw [hy144]; with_reducible exact H) | (have H2_ := (Option.bind_some _ _).symm.trans H; rw [hy144]; with_reducible exact H2_) | (have H2_ := (Option.bind_some _ _).symm.trans H; with_reducible exact H2_) | with_reducible exact H | (rw [hy144]; exact H) | exact H
       have Ny144 := aM hy144; clear hy144
       by_cases c11 : y141.length + y144.length < 8796093022208
       · rw [if_pos c11] at H; have LMc11 := aM c11; clear c11
         obtain ⟨y148, hy148⟩ : ∃ y_ : List ByteArray, y_ = (y141 ++ y144) := ⟨_, rfl⟩
         replace H : ((some (l0.take (x5_1 : Int).toNat : List ByteArray)).bind fun y151 => (if y151.length < 8796093022208 then ((some (y151 ++ [a1] : List ByteArray)).bind fun y154 => (if y154.length + y148.length < 8796093022208 then (some (y154 ++ y148)) else (none))) else (none))) = some r := by first | (rw [hy148]; with_reducible exact H) | (have H2_ := (Option.bind_some _ _).symm.trans H; rw [hy148]; with_reducible exact H2_) | (have H2_ := (Option.bind_some _ _).symm.trans H; with_reducible exact H2_) | with_reducible exact H | (rw [hy148]; exact H) | exact H
         have Ny148 := aM hy148; clear hy148
         have c12b0 := eq_true (oD (by first | with_reducible assumption | assumption) : x5_1 ≤ (l0.length : Int))
         obtain ⟨y151, hy151⟩ : ∃ y_ : List ByteArray, y_ = (l0.take (x5_1 : Int).toNat) := ⟨_, rfl⟩
         replace H : (if y151.length < 8796093022208 then ((some (y151 ++ [a1] : List ByteArray)).bind fun y154 => (if y154.length + y148.length < 8796093022208 then (some (y154 ++ y148)) else (none))) else (none)) = some r := by first | (rw [hy151]; with_reducible exact H) | (have H2_ := (Option.bind_some _ _).symm.trans H; rw [hy151]; with_reducible exact H2_) | (have H2_ := (Option.bind_some _ _).symm.trans H; with_reducible exact H2_) | with_reducible exact H | (rw [hy151]; exact H) | exact H
         have Ny151 := aM hy151; clear hy151
         by_cases c13 : y151.length < 8796093022208
         · rw [if_pos c13] at H; have LMc13 := aM c13; clear c13
           obtain ⟨y154, hy154⟩ : ∃ y_ : List ByteArray, y_ = (y151 ++ [a1]) := ⟨_, rfl⟩
           replace H : (if y154.length + y148.length < 8796093022208 then (some (y154 ++ y148)) else (none)) = some r := by first | (rw [hy154]; with_reducible exact H) | (have H2_ := (Option.bind_some _ _).symm.trans H; rw [hy154]; with_reducible exact H2_) | (have H2_ := (Option.bind_some _ _).symm.trans H; with_reducible exact H2_) | with_reducible exact H | (rw [hy154]; exact H) | exact H
           have Ny154 := aM hy154; clear hy154
           by_cases c14 : y154.length + y148.length < 8796093022208
           · rw [if_pos c14] at H; have LMc14 := aM c14; clear c14
             obtain ⟨y157, hy157⟩ : ∃ y_ : List ByteArray, y_ = (y154 ++ y148) := ⟨_, rfl⟩
             replace H : (some y157) = some r := by first | (rw [hy157]; with_reducible exact H) | (have H2_ := (Option.bind_some _ _).symm.trans H; rw [hy157]; with_reducible exact H2_) | (have H2_ := (Option.bind_some _ _).symm.trans H; with_reducible exact H2_) | with_reducible exact H | (rw [hy157]; exact H) | exact H
             have Ny157 := aM hy157; clear hy157
             obtain rfl := Option.some.inj H
             obtain ⟨Ao15, co15, eo15⟩ := Kd.R_slice HO_0.out
             subst eo15
             have p139 : 0 ≤ (x5_1 : Int) := oD (by first | with_reducible assumption | assumption)
             have q139 : x5_1 < (l0.length : Int) := oD (by first | with_reducible assumption | assumption)
             obtain ⟨ad139, e139, hx139_0⟩ := Kd.at_string (Kd.R_reads' HO_0.out).2.2 x5_1 p139 q139
             cases e139
             replace p139 := eq_true p139; replace q139 := eq_true q139
             have p140 : 0 ≤ (x5_1 : Int) := oD (by first | with_reducible assumption | assumption)
             have q140 : x5_1 < (l0.length : Int) := oD (by first | with_reducible assumption | assumption)
             obtain ⟨ad140, e140, hx140_0⟩ := Kd.at_string (Kd.R_reads' HO_0.out).2.2 x5_1 p140 q140
             obtain rfl : ad139 = ad140 := (by injection e140)
             replace p140 := eq_true p140; replace q140 := eq_true q140
             go_wp2_with (first | ((with_reducible refine gate_dst (N := 34) rfl ?_); refine Kd.R_lit Kd.string _ 9 ?hg (N := 34) ?hd (xs := ([] : List ByteArray)) (inner := []) (ok := fun _ => True) (okp := fun _ => True) ?hr ?hp (fun _ hk => hk) trivial (Below.refl _ _) (Nat.le_refl _) (by simp) ?_; (case hd => rfl); (case hg => rfl); (case hr => first | (go_simp; done) | (go_simp; rfl)); (case hp => exact (Reps.none _ _)); intro v142 w16 ho17 hb hg_ hnew_; clear hg_ hnew_; (first | rw [← Ny141.out] at ho17 | (simp only [Int.reduceToNat] at ho17; rw [← Ny141.out] at ho17)); have n0_ := aM (Kd.R_elder' (by (with_reducible repeat (first | apply Ra | apply Rn | apply Rd)); exact HO_0.out) (Kd.R_base ho17) hb); have n1_ := aM (Kd.R_lower (Kd.R_new' (Kd.R_newM (M := fun k_ => (P0_ k_ ∨ w.heap.size ≤ k_)) ho17 (by first | exact HK.out.1 | exact (show Kept w _ (fun k_ => P0_ k_) from by repeat (with_reducible first | exact HK.out | apply Kept.alloc | apply Kept.drewN | apply Kept.drew)).1) (fun k_ h_ => .inr h_)) (Kd.R_lt (by (with_reducible repeat (first | apply Ra | apply Rn | apply Rd)); exact HO_0.out))) (below_size (by repeat (with_reducible first | exact HB.out | apply bA | apply bN | apply bD)))); have n2_ := aM (Kept.below (S := (fun k_ => P0_ k_)) (by repeat (with_reducible first | exact HK.out | apply Kept.alloc | apply Kept.drewN | apply Kept.drew)) hb); have n3_ := aM (below_step (by repeat (with_reducible first | exact HB.out | apply bA | apply bN | apply bD)) hb); clear HO_0 HK HB; have HO_0 := n0_; have HO143 := n1_; have HK := n2_; have HB := n3_; clear n0_ n1_ n2_ n3_ hb ho17; have q18 : (x5_1 : Int) ≤ ((l0.length : Int) : Int) := oD (by first | with_reducible assumption | assumption); obtain ⟨i018, hi018, _, hsz18, _⟩ := info_parts info9; have hroom18 : l0.length ≤ co15 := (Kd.R_reads' HO_0.out).2.1; have hC18 : Kd.C Kd.string _ (some ad139) l0.length l0 := (Kd.R_reads' HO_0.out).2.2; have q018 : (0 : Int) ≤ (x5_1 : Int) := oD (by first | with_reducible assumption | assumption); have hcut18 := cut_from (P := Try.prog) 24 9 .i64 Try.underlying24 hi018 1 hsz18 (some ad139) l0.length co15 x5_1 q018 q18; have hr18 := Kd.C_drop (m := (x5_1 : Int).toNat) (c := co15) hC18 (by omega) hroom18; obtain ⟨A18, hA18⟩ : ∃ A1, A1 = (if co15 = (x5_1 : Int).toNat then (some ad139) else ((some ad139) : Option Addr).map (·.add ((x5_1 : Int).toNat * 1))) := ⟨_, rfl⟩; obtain ⟨c18, hc18⟩ : ∃ c1, c1 = co15 - (x5_1 : Int).toNat := ⟨_, rfl⟩; have hy18 : y144.length = l0.length - (x5_1 : Int).toNat := (by rw [Ny144.out, List.length_drop] <;> omega); rw [show (l0).drop (x5_1 : Int).toNat = y144 from Ny144.out.symm] at hr18; replace hr18 : Kd.C Kd.string _ A18 y144.length y144 := (by rw [hA18]; exact hr18); rw [← hy18, ← hA18, ← hc18] at hcut18; have HR147 := aM hr18; have HC147 := aM (show y144.length ≤ c18 from by rw [hy18, hc18]; exact Nat.sub_le_sub_right hroom18 _); clear hr18 hC18 hroom18 hi018 hsz18 hc18; have KY18 := aM hy18; have KA18 := aM hA18; clear hy18 hA18; have KL18 := aM (show (x5_1 : Int).toNat ≤ l0.length from by omega); replace q18 := eq_true q18) | ((with_reducible refine gate_builtin (b := .append) (xs := #[.tmp 34, .tmp 37]) rfl ?_); at_builtin; refine Kd.R_append_rows Kd.string (w0 := w0) w0.heap.size rfl (.tmp 34) (.tmp 37) 24 9 (.string ⟨#[]⟩) 16 rfl Try.underlying24 info9 rfl (by decide) (by omega) v142 y141 y144 _ _ _ (fun k_ => (P0_ k_ ∨ w.heap.size ≤ k_) ∧ some k_ ≠ (.slice (some ad139) l0.length co15 : Value).ownBlock) (fun _ => False) rfl rfl ?aO ?aR (fun _ _ h => h) (fun _ h => h.elim) ?aF ?aB ?aS ?aL ?_; (case aR => repeat (first | exact (by repeat (first | (with_reducible exact HR147.out) | (with_reducible first | refine Ca ?_ _ | refine Cn ?_ _ | refine Cd ?_) | exact HR147.out)) | (with_reducible first | refine Ca ?_ _ | refine Cn ?_ _ | refine Cd ?_))); (case aB => exact (by repeat (with_reducible first | exact HB.out | apply bA | apply bN | apply bD))); (case aF => exact (fun k_ hk => ⟨(.inr (Nat.le_trans (by first | exact HK.out.1 | exact (show Kept w _ (fun k_ => P0_ k_) from by repeat (with_reducible first | exact HK.out | apply Kept.alloc | apply Kept.drewN | apply Kept.drew)).1) hk)), Kd.fresh' (Kd.R_lt (by (with_reducible repeat (first | apply Ra | apply Rn | apply Rd)); exact HO_0.out)) k_ hk⟩)); (case aO => exact (by (with_reducible repeat (first | apply Ra | apply Rn | apply Rd)); exact Kd.R_mono HO143.out (fun _ hk => ⟨hk.1.1, hk.2⟩))); (case aS => exact (below_size (by repeat (with_reducible first | exact HB.out | apply bA | apply bN | apply bD)))); (case aL => have := LMc11.out; omega); intro v149 w19 ho hb hg hat; rw [← Ny148.out] at ho; have n0_ := aM (Kd.R_after (ok := (fun k_ => (P0_ k_ ∨ w.heap.size ≤ k_))) (by (with_reducible repeat (first | apply Ra | apply Rn | apply Rd)); exact HO_0.out) hg hat); have n1_ := aM (hb); have n2_ := aM (Kept.of_grown (S := (fun k_ => P0_ k_)) hg (by repeat (with_reducible first | exact HK.out | apply Kept.alloc | apply Kept.drewN | apply Kept.drew)) (fun k_ e_ => (HO143.out.1 k_ e_).1.1)); have n3_ := aM ((show Kd.C Kd.string w19 A18 y144.length y144 from by rw [Ny144.out, KA18.out]; exact Kd.C_drop (m := (x5_1 : Int).toNat) (c := co15) ((Kd.R_reads' (Kd.R_after (ok := (fun k_ => (P0_ k_ ∨ w.heap.size ≤ k_))) (by (with_reducible repeat (first | apply Ra | apply Rn | apply Rd)); exact HO_0.out) hg hat)).2.2) KL18.out ((Kd.R_reads' (Kd.R_after (ok := (fun k_ => (P0_ k_ ∨ w.heap.size ≤ k_))) (by (with_reducible repeat (first | apply Ra | apply Rn | apply Rd)); exact HO_0.out) hg hat)).2.1))); have n4_ := aM (ho); clear HO_0 HB HK HR147 HO143; have HO_0 := n0_; have HB := n1_; have HK := n2_; have HR147 := n3_; have HO150 := n4_; clear n0_ n1_ n2_ n3_ n4_ ho hb hg hat; have q20 : (x5_1 : Int) ≤ ((l0.length : Int) : Int) := oD (by first | with_reducible assumption | assumption); obtain ⟨i020, hi020, _, hsz20, _⟩ := info_parts info9; have hcut20 := cut_to (P := Try.prog) 24 9 .i64 Try.underlying24 hi020 (some ad139) l0.length co15 x5_1 (oD (by first | with_reducible assumption | assumption)) q20 (Kd.R_reads' HO_0.out).2.1; have hr20 := Kd.R_take (m := (x5_1 : Int).toNat) HO_0.out (by omega); have hy20 : y151.length = (x5_1 : Int).toNat := (by rw [Ny151.out, List.length_take]; omega); rw [← Ny151.out] at hr20; rw [← hy20] at hr20 hcut20; clear hy20 hi020 hsz20 HO_0; have HO153 := aM hr20; clear hr20; replace q20 := eq_true q20) | ((with_reducible refine gate_builtin (b := .append) (xs := #[.tmp 41, .tmp 43]) rfl ?_); at_builtin; refine Kd.R_append Kd.string (w0 := w0) w0.heap.size rfl (.tmp 41) (.tmp 43) 24 9 (.string ⟨#[]⟩) 16 rfl Try.underlying24 info9 rfl (by decide) (by omega) (.slice (some ad139) y151.length co15) y151 a1 [.string a1] (fun k_ => (P0_ k_ ∨ w.heap.size ≤ k_) ∧ some k_ ≠ (v149 : Value).ownBlock) (fun _ => False) rfl rfl ?aP (fun _ hk => hk.elim) ?aF ?aO ?aB ?aS ?aL ?_; (case aP => exact rfl); (case aB => exact (by repeat (with_reducible first | exact HB.out | apply bA | apply bN | apply bD))); (case aF => exact (fun k_ hk => ⟨(.inr (Nat.le_trans (by first | exact HK.out.1 | exact (show Kept w _ (fun k_ => P0_ k_) from by repeat (with_reducible first | exact HK.out | apply Kept.alloc | apply Kept.drewN | apply Kept.drew)).1) hk)), Kd.fresh' (Kd.R_lt (by (with_reducible repeat (first | apply Ra | apply Rn | apply Rd)); first | exact HO150.out | exact Kd.R_mono HO150.out (fun k_ hk_ => ⟨hk_.1, fun e_ => hk_.2 (e_.trans own_len_)⟩))) k_ hk⟩)); (case aO => exact (by (with_reducible repeat (first | apply Ra | apply Rn | apply Rd)); first | exact HO153.out | exact Kd.R_mono HO153.out (fun k_ hk_ => ⟨hk_.1, fun e_ => hk_.2 (e_.trans own_len_)⟩))); (case aS => exact (below_size (by repeat (with_reducible first | exact HB.out | apply bA | apply bN | apply bD)))); (case aL => have := LMc13.out; omega); intro v155 w21 ho hb hg hat; rw [← Ny154.out] at ho; have n0_ := aM (Kd.R_after (ok := (fun k_ => (P0_ k_ ∨ w.heap.size ≤ k_))) (by (with_reducible repeat (first | apply Ra | apply Rn | apply Rd)); first | exact HO150.out | exact Kd.R_mono HO150.out (fun k_ hk_ => ⟨hk_.1, fun e_ => hk_.2 (e_.trans own_len_)⟩)) hg hat); have n1_ := aM (hb); have n2_ := aM (Kept.of_grown (S := (fun k_ => P0_ k_)) hg (by repeat (with_reducible first | exact HK.out | apply Kept.alloc | apply Kept.drewN | apply Kept.drew)) (fun k_ e_ => (HO153.out.1 k_ e_).1)); have n3_ := aM (ho); clear HO150 HB HK HO153; have HO150 := n0_; have HB := n1_; have HK := n2_; have HO156 := n3_; clear n0_ n1_ n2_ n3_ ho hb hg hat; obtain ⟨Ao23, co23, eo23⟩ := Kd.R_slice HO150.out; subst eo23) | ((with_reducible refine gate_builtin (b := .append) (xs := #[.tmp 44, .tmp 45]) rfl ?_); at_builtin; refine Kd.R_append_rows Kd.string (w0 := w0) w0.heap.size rfl (.tmp 44) (.tmp 45) 24 9 (.string ⟨#[]⟩) 16 rfl Try.underlying24 info9 rfl (by decide) (by omega) v155 y154 y148 _ _ _ (fun k_ => (P0_ k_ ∨ w.heap.size ≤ k_) ∧ some k_ ≠ (.slice Ao23 y148.length co23 : Value).ownBlock) (fun _ => False) rfl rfl ?aO ?aR (fun _ _ h => h) (fun _ h => h.elim) ?aF ?aB ?aS ?aL ?_; (case aR => repeat (first | exact (Kd.R_reads' HO150.out).2.2 | (with_reducible first | refine Ca ?_ _ | refine Cn ?_ _ | refine Cd ?_))); (case aB => exact (by repeat (with_reducible first | exact HB.out | apply bA | apply bN | apply bD))); (case aF => exact (fun k_ hk => ⟨(.inr (Nat.le_trans (by first | exact HK.out.1 | exact (show Kept w _ (fun k_ => P0_ k_) from by repeat (with_reducible first | exact HK.out | apply Kept.alloc | apply Kept.drewN | apply Kept.drew)).1) hk)), Kd.fresh' (Kd.R_lt (by (with_reducible repeat (first | apply Ra | apply Rn | apply Rd)); first | exact HO150.out | exact Kd.R_mono HO150.out (fun k_ hk_ => ⟨hk_.1, fun e_ => hk_.2 (e_.trans own_len_)⟩))) k_ hk⟩)); (case aO => exact (by (with_reducible repeat (first | apply Ra | apply Rn | apply Rd)); first | exact HO156.out | exact Kd.R_mono HO156.out (fun k_ hk_ => ⟨hk_.1, fun e_ => hk_.2 (e_.trans own_len_)⟩))); (case aS => exact (below_size (by repeat (with_reducible first | exact HB.out | apply bA | apply bN | apply bD)))); (case aL => have := LMc14.out; omega); intro v158 w22 ho hb hg hat; rw [← Ny157.out] at ho; have n0_ := aM (Kd.R_after (ok := (fun k_ => (P0_ k_ ∨ w.heap.size ≤ k_))) (by (with_reducible repeat (first | apply Ra | apply Rn | apply Rd)); first | exact HO150.out | exact Kd.R_mono HO150.out (fun k_ hk_ => ⟨hk_.1, fun e_ => hk_.2 (e_.trans own_len_)⟩)) hg hat); have n1_ := aM (hb); have n2_ := aM (Kept.of_grown (S := (fun k_ => P0_ k_)) hg (by repeat (with_reducible first | exact HK.out | apply Kept.alloc | apply Kept.drewN | apply Kept.drew)) (fun k_ e_ => (HO156.out.1 k_ e_).1)); have n3_ := aM (ho); clear HO150 HB HK HO156; have HO150 := n0_; have HB := n1_; have HK := n2_; have HO159 := n3_; clear n0_ n1_ n2_ n3_ ho hb hg hat))
             go_ret
             exact ⟨_, by first | rfl | (simp [*, errW_none, errW_some] <;> rfl), by (with_reducible repeat (first | apply Ra | apply Rn | apply Rd)); exact Kd.R_mono HO159.out (fun _ hk => hk.1), by repeat (with_reducible first | exact HB.out | apply bA | apply bN | apply bD), by repeat (with_reducible first | exact HK.out | apply Kept.alloc | apply Kept.drewN | apply Kept.drew)⟩
           rw [if_neg c14] at H
           exact absurd H (by simp)
         rw [if_neg c13] at H
         exact absurd H (by simp)
       rw [if_neg c11] at H
       exact absurd H (by simp)
     rw [if_neg c10] at H
     exact absurd H (by simp)
   rw [if_neg c4] at H
   exact absurd H (by simp)
 rw [if_neg c3] at H
 have c3b0 : decide (x5_1 < (l0.length : Int)) = false := decide_eq_false c3
 clear c3
 obtain ⟨y160, hy160⟩ : ∃ y_ : List ByteArray, y_ = (([] : List ByteArray)) := ⟨_, rfl⟩
 replace H : (if 0 ≤ x5_1 then (if x5_1 ≤ (l0.length : Int) then ((some (l0.drop (x5_1 : Int).toNat : List ByteArray)).bind fun y163 => (if y160.length + y163.length < 8796093022208 then ((some (y160 ++ y163 : List ByteArray)).bind fun y167 => ((some (l0.take (x5_1 : Int).toNat : List ByteArray)).bind fun y170 => (if y170.length < 8796093022208 then ((some (y170 ++ [a1] : List ByteArray)).bind fun y173 => (if y173.length + y167.length < 8796093022208 then (some (y173 ++ y167)) else (none))) else (none)))) else (none))) else (none)) else (none)) = some r := by first | (rw [hy160]; with_reducible exact H) | (have H2_ := (Option.bind_some _ _).symm.trans H; rw [hy160]; with_reducible exact H2_) | (have H2_ := (Option.bind_some _ _).symm.trans H; with_reducible exact H2_) | with_reducible exact H | (rw [hy160]; exact H) | exact H
 have Ny160 := aM hy160; clear hy160
 by_cases c24 : 0 ≤ x5_1
 · rw [if_pos c24] at H
   have c24b0 := eq_true c24
   have c24b1 : decide (0 ≤ x5_1) = true := decide_eq_true c24
   clear c24
   by_cases c25 : x5_1 ≤ (l0.length : Int)
   · rw [if_pos c25] at H
     have c25b0 := eq_true c25
     have c25b1 : decide (x5_1 ≤ (l0.length : Int)) = true := decide_eq_true c25
     clear c25
     obtain ⟨y163, hy163⟩ : ∃ y_ : List ByteArray, y_ = (l0.drop (x5_1 : Int).toNat) := ⟨_, rfl⟩
     replace H : (if y160.length + y163.length < 8796093022208 then ((some (y160 ++ y163 : List ByteArray)).bind fun y167 => ((some (l0.take (x5_1 : Int).toNat : List ByteArray)).bind fun y170 => (if y170.length < 8796093022208 then ((some (y170 ++ [a1] : List ByteArray)).bind fun y173 => (if y173.length + y167.length < 8796093022208 then (some (y173 ++ y167)) else (none))) else (none)))) else (none)) = some r := by first | (rw [hy163]; with_reducible exact H) | (have H2_ := (Option.bind_some _ _).symm.trans H; rw [hy163]; with_reducible exact H2_) | (have H2_ := (Option.bind_some _ _).symm.trans H; with_reducible exact H2_) | with_reducible exact H | (rw [hy163]; exact H) | exact H
     have Ny163 := aM hy163; clear hy163
     by_cases c26 : y160.length + y163.length < 8796093022208
     · rw [if_pos c26] at H; have LMc26 := aM c26; clear c26
       obtain ⟨y167, hy167⟩ : ∃ y_ : List ByteArray, y_ = (y160 ++ y163) := ⟨_, rfl⟩
       replace H : ((some (l0.take (x5_1 : Int).toNat : List ByteArray)).bind fun y170 => (if y170.length < 8796093022208 then ((some (y170 ++ [a1] : List ByteArray)).bind fun y173 => (if y173.length + y167.length < 8796093022208 then (some (y173 ++ y167)) else (none))) else (none))) = some r := by first | (rw [hy167]; with_reducible exact H) | (have H2_ := (Option.bind_some _ _).symm.trans H; rw [hy167]; with_reducible exact H2_) | (have H2_ := (Option.bind_some _ _).symm.trans H; with_reducible exact H2_) | with_reducible exact H | (rw [hy167]; exact H) | exact H
       have Ny167 := aM hy167; clear hy167
       have c27b0 := eq_true (oD (by first | with_reducible assumption | assumption) : x5_1 ≤ (l0.length : Int))
       obtain ⟨y170, hy170⟩ : ∃ y_ : List ByteArray, y_ = (l0.take (x5_1 : Int).toNat) := ⟨_, rfl⟩
       replace H : (if y170.length < 8796093022208 then ((some (y170 ++ [a1] : List ByteArray)).bind fun y173 => (if y173.length + y167.length < 8796093022208 then (some (y173 ++ y167)) else (none))) else (none)) = some r := by first | (rw [hy170]; with_reducible exact H) | (have H2_ := (Option.bind_some _ _).symm.trans H; rw [hy170]; with_reducible exact H2_) | (have H2_ := (Option.bind_some _ _).symm.trans H; with_reducible exact H2_) | with_reducible exact H | (rw [hy170]; exact H) | exact H
       have Ny170 := aM hy170; clear hy170
       by_cases c28 : y170.length < 8796093022208
       · rw [if_pos c28] at H; have LMc28 := aM c28; clear c28
         obtain ⟨y173, hy173⟩ : ∃ y_ : List ByteArray, y_ = (y170 ++ [a1]) := ⟨_, rfl⟩
         replace H : (if y173.length + y167.length < 8796093022208 then (some (y173 ++ y167)) else (none)) = some r := by first | (rw [hy173]; with_reducible exact H) | (have H2_ := (Option.bind_some _ _).symm.trans H; rw [hy173]; with_reducible exact H2_) | (have H2_ := (Option.bind_some _ _).symm.trans H; with_reducible exact H2_) | with_reducible exact H | (rw [hy173]; exact H) | exact H
         have Ny173 := aM hy173; clear hy173
         by_cases c29 : y173.length + y167.length < 8796093022208
         · rw [if_pos c29] at H; have LMc29 := aM c29; clear c29
           obtain ⟨y176, hy176⟩ : ∃ y_ : List ByteArray, y_ = (y173 ++ y167) := ⟨_, rfl⟩
           replace H : (some y176) = some r := by first | (rw [hy176]; with_reducible exact H) | (have H2_ := (Option.bind_some _ _).symm.trans H; rw [hy176]; with_reducible exact H2_) | (have H2_ := (Option.bind_some _ _).symm.trans H; with_reducible exact H2_) | with_reducible exact H | (rw [hy176]; exact H) | exact H
           have Ny176 := aM hy176; clear hy176
           obtain rfl := Option.some.inj H
           obtain ⟨Ao30, co30, eo30⟩ := Kd.R_slice HO_0.out
           subst eo30
           go_wp2_with (first | ((with_reducible refine gate_dst (N := 34) rfl ?_); refine Kd.R_lit Kd.string _ 9 ?hg (N := 34) ?hd (xs := ([] : List ByteArray)) (inner := []) (ok := fun _ => True) (okp := fun _ => True) ?hr ?hp (fun _ hk => hk) trivial (Below.refl _ _) (Nat.le_refl _) (by simp) ?_; (case hd => rfl); (case hg => rfl); (case hr => first | (go_simp; done) | (go_simp; rfl)); (case hp => exact (Reps.none _ _)); intro v161 w31 ho32 hb hg_ hnew_; clear hg_ hnew_; (first | rw [← Ny160.out] at ho32 | (simp only [Int.reduceToNat] at ho32; rw [← Ny160.out] at ho32)); have n0_ := aM (Kd.R_elder' (by (with_reducible repeat (first | apply Ra | apply Rn | apply Rd)); exact HO_0.out) (Kd.R_base ho32) hb); have n1_ := aM (Kd.R_lower (Kd.R_new' (Kd.R_newM (M := fun k_ => (P0_ k_ ∨ w.heap.size ≤ k_)) ho32 (by first | exact HK.out.1 | exact (show Kept w _ (fun k_ => P0_ k_) from by repeat (with_reducible first | exact HK.out | apply Kept.alloc | apply Kept.drewN | apply Kept.drew)).1) (fun k_ h_ => .inr h_)) (Kd.R_lt (by (with_reducible repeat (first | apply Ra | apply Rn | apply Rd)); exact HO_0.out))) (below_size (by repeat (with_reducible first | exact HB.out | apply bA | apply bN | apply bD)))); have n2_ := aM (Kept.below (S := (fun k_ => P0_ k_)) (by repeat (with_reducible first | exact HK.out | apply Kept.alloc | apply Kept.drewN | apply Kept.drew)) hb); have n3_ := aM (below_step (by repeat (with_reducible first | exact HB.out | apply bA | apply bN | apply bD)) hb); clear HO_0 HK HB; have HO_0 := n0_; have HO162 := n1_; have HK := n2_; have HB := n3_; clear n0_ n1_ n2_ n3_ hb ho32; have q33 : (x5_1 : Int) ≤ ((l0.length : Int) : Int) := oD (by first | with_reducible assumption | assumption); obtain ⟨i033, hi033, _, hsz33, _⟩ := info_parts info9; have hroom33 : l0.length ≤ co30 := (Kd.R_reads' HO_0.out).2.1; have hC33 : Kd.C Kd.string _ Ao30 l0.length l0 := (Kd.R_reads' HO_0.out).2.2; have q033 : (0 : Int) ≤ (x5_1 : Int) := oD (by first | with_reducible assumption | assumption); have hcut33 := cut_from (P := Try.prog) 24 9 .i64 Try.underlying24 hi033 1 hsz33 Ao30 l0.length co30 x5_1 q033 q33; have hr33 := Kd.C_drop (m := (x5_1 : Int).toNat) (c := co30) hC33 (by omega) hroom33; obtain ⟨A33, hA33⟩ : ∃ A1, A1 = (if co30 = (x5_1 : Int).toNat then Ao30 else (Ao30 : Option Addr).map (·.add ((x5_1 : Int).toNat * 1))) := ⟨_, rfl⟩; obtain ⟨c33, hc33⟩ : ∃ c1, c1 = co30 - (x5_1 : Int).toNat := ⟨_, rfl⟩; have hy33 : y163.length = l0.length - (x5_1 : Int).toNat := (by rw [Ny163.out, List.length_drop] <;> omega); rw [show (l0).drop (x5_1 : Int).toNat = y163 from Ny163.out.symm] at hr33; replace hr33 : Kd.C Kd.string _ A33 y163.length y163 := (by rw [hA33]; exact hr33); rw [← hy33, ← hA33, ← hc33] at hcut33; have HR166 := aM hr33; have HC166 := aM (show y163.length ≤ c33 from by rw [hy33, hc33]; exact Nat.sub_le_sub_right hroom33 _); clear hr33 hC33 hroom33 hi033 hsz33 hc33; have KY33 := aM hy33; have KA33 := aM hA33; clear hy33 hA33; have KL33 := aM (show (x5_1 : Int).toNat ≤ l0.length from by omega); replace q33 := eq_true q33) | ((with_reducible refine gate_builtin (b := .append) (xs := #[.tmp 34, .tmp 37]) rfl ?_); at_builtin; refine Kd.R_append_rows Kd.string (w0 := w0) w0.heap.size rfl (.tmp 34) (.tmp 37) 24 9 (.string ⟨#[]⟩) 16 rfl Try.underlying24 info9 rfl (by decide) (by omega) v161 y160 y163 _ _ _ (fun k_ => (P0_ k_ ∨ w.heap.size ≤ k_) ∧ some k_ ≠ (.slice Ao30 l0.length co30 : Value).ownBlock) (fun _ => False) rfl rfl ?aO ?aR (fun _ _ h => h) (fun _ h => h.elim) ?aF ?aB ?aS ?aL ?_; (case aR => repeat (first | exact (by repeat (first | (with_reducible exact HR166.out) | (with_reducible first | refine Ca ?_ _ | refine Cn ?_ _ | refine Cd ?_) | exact HR166.out)) | (with_reducible first | refine Ca ?_ _ | refine Cn ?_ _ | refine Cd ?_))); (case aB => exact (by repeat (with_reducible first | exact HB.out | apply bA | apply bN | apply bD))); (case aF => exact (fun k_ hk => ⟨(.inr (Nat.le_trans (by first | exact HK.out.1 | exact (show Kept w _ (fun k_ => P0_ k_) from by repeat (with_reducible first | exact HK.out | apply Kept.alloc | apply Kept.drewN | apply Kept.drew)).1) hk)), Kd.fresh' (Kd.R_lt (by (with_reducible repeat (first | apply Ra | apply Rn | apply Rd)); exact HO_0.out)) k_ hk⟩)); (case aO => exact (by (with_reducible repeat (first | apply Ra | apply Rn | apply Rd)); exact Kd.R_mono HO162.out (fun _ hk => ⟨hk.1.1, hk.2⟩))); (case aS => exact (below_size (by repeat (with_reducible first | exact HB.out | apply bA | apply bN | apply bD)))); (case aL => have := LMc26.out; omega); intro v168 w34 ho hb hg hat; rw [← Ny167.out] at ho; have n0_ := aM (Kd.R_after (ok := (fun k_ => (P0_ k_ ∨ w.heap.size ≤ k_))) (by (with_reducible repeat (first | apply Ra | apply Rn | apply Rd)); exact HO_0.out) hg hat); have n1_ := aM (hb); have n2_ := aM (Kept.of_grown (S := (fun k_ => P0_ k_)) hg (by repeat (with_reducible first | exact HK.out | apply Kept.alloc | apply Kept.drewN | apply Kept.drew)) (fun k_ e_ => (HO162.out.1 k_ e_).1.1)); have n3_ := aM ((show Kd.C Kd.string w34 A33 y163.length y163 from by rw [Ny163.out, KA33.out]; exact Kd.C_drop (m := (x5_1 : Int).toNat) (c := co30) ((Kd.R_reads' (Kd.R_after (ok := (fun k_ => (P0_ k_ ∨ w.heap.size ≤ k_))) (by (with_reducible repeat (first | apply Ra | apply Rn | apply Rd)); exact HO_0.out) hg hat)).2.2) KL33.out ((Kd.R_reads' (Kd.R_after (ok := (fun k_ => (P0_ k_ ∨ w.heap.size ≤ k_))) (by (with_reducible repeat (first | apply Ra | apply Rn | apply Rd)); exact HO_0.out) hg hat)).2.1))); have n4_ := aM (ho); clear HO_0 HB HK HR166 HO162; have HO_0 := n0_; have HB := n1_; have HK := n2_; have HR166 := n3_; have HO169 := n4_; clear n0_ n1_ n2_ n3_ n4_ ho hb hg hat; have q35 : (x5_1 : Int) ≤ ((l0.length : Int) : Int) := oD (by first | with_reducible assumption | assumption); obtain ⟨i035, hi035, _, hsz35, _⟩ := info_parts info9; have hcut35 := cut_to (P := Try.prog) 24 9 .i64 Try.underlying24 hi035 Ao30 l0.length co30 x5_1 (oD (by first | with_reducible assumption | assumption)) q35 (Kd.R_reads' HO_0.out).2.1; have hr35 := Kd.R_take (m := (x5_1 : Int).toNat) HO_0.out (by omega); have hy35 : y170.length = (x5_1 : Int).toNat := (by rw [Ny170.out, List.length_take]; omega); rw [← Ny170.out] at hr35; rw [← hy35] at hr35 hcut35; clear hy35 hi035 hsz35 HO_0; have HO172 := aM hr35; clear hr35; replace q35 := eq_true q35) | ((with_reducible refine gate_builtin (b := .append) (xs := #[.tmp 41, .tmp 43]) rfl ?_); at_builtin; refine Kd.R_append Kd.string (w0 := w0) w0.heap.size rfl (.tmp 41) (.tmp 43) 24 9 (.string ⟨#[]⟩) 16 rfl Try.underlying24 info9 rfl (by decide) (by omega) (.slice Ao30 y170.length co30) y170 a1 [.string a1] (fun k_ => (P0_ k_ ∨ w.heap.size ≤ k_) ∧ some k_ ≠ (v168 : Value).ownBlock) (fun _ => False) rfl rfl ?aP (fun _ hk => hk.elim) ?aF ?aO ?aB ?aS ?aL ?_; (case aP => exact rfl); (case aB => exact (by repeat (with_reducible first | exact HB.out | apply bA | apply bN | apply bD))); (case aF => exact (fun k_ hk => ⟨(.inr (Nat.le_trans (by first | exact HK.out.1 | exact (show Kept w _ (fun k_ => P0_ k_) from by repeat (with_reducible first | exact HK.out | apply Kept.alloc | apply Kept.drewN | apply Kept.drew)).1) hk)), Kd.fresh' (Kd.R_lt (by (with_reducible repeat (first | apply Ra | apply Rn | apply Rd)); first | exact HO169.out | exact Kd.R_mono HO169.out (fun k_ hk_ => ⟨hk_.1, fun e_ => hk_.2 (e_.trans own_len_)⟩))) k_ hk⟩)); (case aO => exact (by (with_reducible repeat (first | apply Ra | apply Rn | apply Rd)); first | exact HO172.out | exact Kd.R_mono HO172.out (fun k_ hk_ => ⟨hk_.1, fun e_ => hk_.2 (e_.trans own_len_)⟩))); (case aS => exact (below_size (by repeat (with_reducible first | exact HB.out | apply bA | apply bN | apply bD)))); (case aL => have := LMc28.out; omega); intro v174 w36 ho hb hg hat; rw [← Ny173.out] at ho; have n0_ := aM (Kd.R_after (ok := (fun k_ => (P0_ k_ ∨ w.heap.size ≤ k_))) (by (with_reducible repeat (first | apply Ra | apply Rn | apply Rd)); first | exact HO169.out | exact Kd.R_mono HO169.out (fun k_ hk_ => ⟨hk_.1, fun e_ => hk_.2 (e_.trans own_len_)⟩)) hg hat); have n1_ := aM (hb); have n2_ := aM (Kept.of_grown (S := (fun k_ => P0_ k_)) hg (by repeat (with_reducible first | exact HK.out | apply Kept.alloc | apply Kept.drewN | apply Kept.drew)) (fun k_ e_ => (HO172.out.1 k_ e_).1)); have n3_ := aM (ho); clear HO169 HB HK HO172; have HO169 := n0_; have HB := n1_; have HK := n2_; have HO175 := n3_; clear n0_ n1_ n2_ n3_ ho hb hg hat; obtain ⟨Ao38, co38, eo38⟩ := Kd.R_slice HO169.out; subst eo38) | ((with_reducible refine gate_builtin (b := .append) (xs := #[.tmp 44, .tmp 45]) rfl ?_); at_builtin; refine Kd.R_append_rows Kd.string (w0 := w0) w0.heap.size rfl (.tmp 44) (.tmp 45) 24 9 (.string ⟨#[]⟩) 16 rfl Try.underlying24 info9 rfl (by decide) (by omega) v174 y173 y167 _ _ _ (fun k_ => (P0_ k_ ∨ w.heap.size ≤ k_) ∧ some k_ ≠ (.slice Ao38 y167.length co38 : Value).ownBlock) (fun _ => False) rfl rfl ?aO ?aR (fun _ _ h => h) (fun _ h => h.elim) ?aF ?aB ?aS ?aL ?_; (case aR => repeat (first | exact (Kd.R_reads' HO169.out).2.2 | (with_reducible first | refine Ca ?_ _ | refine Cn ?_ _ | refine Cd ?_))); (case aB => exact (by repeat (with_reducible first | exact HB.out | apply bA | apply bN | apply bD))); (case aF => exact (fun k_ hk => ⟨(.inr (Nat.le_trans (by first | exact HK.out.1 | exact (show Kept w _ (fun k_ => P0_ k_) from by repeat (with_reducible first | exact HK.out | apply Kept.alloc | apply Kept.drewN | apply Kept.drew)).1) hk)), Kd.fresh' (Kd.R_lt (by (with_reducible repeat (first | apply Ra | apply Rn | apply Rd)); first | exact HO169.out | exact Kd.R_mono HO169.out (fun k_ hk_ => ⟨hk_.1, fun e_ => hk_.2 (e_.trans own_len_)⟩))) k_ hk⟩)); (case aO => exact (by (with_reducible repeat (first | apply Ra | apply Rn | apply Rd)); first | exact HO175.out | exact Kd.R_mono HO175.out (fun k_ hk_ => ⟨hk_.1, fun e_ => hk_.2 (e_.trans own_len_)⟩))); (case aS => exact (below_size (by repeat (with_reducible first | exact HB.out | apply bA | apply bN | apply bD)))); (case aL => have := LMc29.out; omega); intro v177 w37 ho hb hg hat; rw [← Ny176.out] at ho; have n0_ := aM (Kd.R_after (ok := (fun k_ => (P0_ k_ ∨ w.heap.size ≤ k_))) (by (with_reducible repeat (first | apply Ra | apply Rn | apply Rd)); first | exact HO169.out | exact Kd.R_mono HO169.out (fun k_ hk_ => ⟨hk_.1, fun e_ => hk_.2 (e_.trans own_len_)⟩)) hg hat); have n1_ := aM (hb); have n2_ := aM (Kept.of_grown (S := (fun k_ => P0_ k_)) hg (by repeat (with_reducible first | exact HK.out | apply Kept.alloc | apply Kept.drewN | apply Kept.drew)) (fun k_ e_ => (HO175.out.1 k_ e_).1)); have n3_ := aM (ho); clear HO169 HB HK HO175; have HO169 := n0_; have HB := n1_; have HK := n2_; have HO178 := n3_; clear n0_ n1_ n2_ n3_ ho hb hg hat))
           go_ret
           exact ⟨_, by first | rfl | (simp [*, errW_none, errW_some] <;> rfl), by (with_reducible repeat (first | apply Ra | apply Rn | apply Rd)); exact Kd.R_mono HO178.out (fun _ hk => hk.1), by repeat (with_reducible first | exact HB.out | apply bA | apply bN | apply bD), by repeat (with_reducible first | exact HK.out | apply Kept.alloc | apply Kept.drewN | apply Kept.drew)⟩
         rw [if_neg c29] at H
         exact absurd H (by simp)
       rw [if_neg c28] at H
       exact absurd H (by simp)
     rw [if_neg c26] at H
     exact absurd H (by simp)
   rw [if_neg c25] at H
   exact absurd H (by simp)
 rw [if_neg c24] at H
 exact absurd H (by simp)
mutual
def spec_GraphLeaf.l0 : Nat → List (S52) → List ByteArray → Int → Option (List ByteArray)
  | 0, _, _, _ => none
  | k + 1, x0, x3, x4 => if x4 < (x0.length : Int) then ((spec_KeepOk.f k x0).bind fun t874 => (spec_GraphLeaf.j1 k x0 x3 x4 t874)) else (spec_GraphLeaf.j1 k x0 x3 x4 false)
def spec_GraphLeaf.j1 : Nat → List (S52) → List ByteArray → Int → Bool → Option (List ByteArray)
  | 0, _, _, _, _ => none
  | k + 1, x0, x3, x4, x13 => if x13 = true then (if 0 ≤ x4 then (if x4 < (x0.length : Int) then ((spec_l2Refs.f k ((rd_T52 x0 x4).f2)).bind fun t876 => (if (t876.length : Int) = 0 then ((spec_l2Put.f k x3 ((rd_T52 x0 x4).f0)).bind fun t880 => (spec_GraphLeaf.l0 k x0 t880 (wrap64 (x4 + 1)))) else (spec_GraphLeaf.l0 k x0 x3 (wrap64 (x4 + 1))))) else (none)) else (none)) else (some x3)
end
def spec_GraphLeaf.f (k : Nat) (l0 : List (S52)) : Option (List ByteArray) := spec_GraphLeaf.l0 k l0 (([] : List ByteArray)) 0
set_option maxHeartbeats 8000000 in
set_option maxRecDepth 100000 in
theorem spec_GraphLeaf.calls (k : Nat) (A0 : Option Addr) (c0 : Nat) (l0 : List (S52)) (r : List ByteArray) (w : World) (hr0 : Kd.C k52 w A0 l0.length l0) (hc0 : l0.length ≤ c0) (h : spec_GraphLeaf.f k l0 = some r) :
    Calls Try.prog 40 #[.slice A0 l0.length c0] w fun e w' => ∃ v0_ : Value, e = .returned (v0_) ∧ Kd.R Kd.string 9 w' w.heap.size (fun _ => True) v0_ r ∧ Below w.heap.size w w' := by
 have HR0 := aM hr0; have HC0 := aM hc0; clear hr0 hc0
 have HB := aM (Below.refl w.heap.size w)
 have H : (spec_GraphLeaf.l0 k l0 (([] : List ByteArray)) 0) = some r := h
 clear h
 obtain ⟨y871, hy871⟩ : ∃ y_ : List ByteArray, y_ = (([] : List ByteArray)) := ⟨_, rfl⟩
 replace H : (spec_GraphLeaf.l0 k l0 y871 0) = some r := by first | (rw [hy871]; with_reducible exact H) | (have H2_ := (Option.bind_some _ _).symm.trans H; rw [hy871]; with_reducible exact H2_) | (have H2_ := (Option.bind_some _ _).symm.trans H; with_reducible exact H2_) | with_reducible exact H | (rw [hy871]; exact H) | exact H
 have Ny871 := aM hy871; clear hy871
 have H' := aM H
 clear H
 go_enter Try.func40, Try.ntmps40
 go_wp2_with (first | ((with_reducible refine gate_dst (N := 5) rfl ?_); refine Kd.R_lit Kd.string _ 9 ?hg (N := 5) ?hd (xs := ([] : List ByteArray)) (inner := []) (ok := fun _ => True) (okp := fun _ => True) ?hr ?hp (fun _ hk => hk) trivial (Below.refl _ _) (Nat.le_refl _) (by simp) ?_; (case hd => rfl); (case hg => rfl); (case hr => first | (go_simp; done) | (go_simp; rfl)); (case hp => exact (Reps.none _ _)); intro v872 w2 ho3 hb hg_ hnew_; clear hg_ hnew_; (first | rw [← Ny871.out] at ho3 | (simp only [Int.reduceToNat] at ho3; rw [← Ny871.out] at ho3)); have n0_ := aM (Kd.R_lower ho3 (below_size (by repeat (with_reducible first | exact HB.out | apply bA | apply bN | apply bD)))); have n1_ := aM (below_step (by repeat (with_reducible first | exact HB.out | apply bA | apply bN | apply bD)) hb); clear HB; have HO873 := n0_; have HB := n1_; clear n0_ n1_ hb ho3))
 go_loopg [3, 4] k (fun kq v3 v4 w' => ∃ (x3_1 : List ByteArray) (x4_1 : Int), v4 = .int .i64 x4_1 ∧ Aside0 (spec_GraphLeaf.l0 kq l0 x3_1 x4_1 = some r) ∧ Aside0 (kq ≤ k) ∧ Aside0 (Kd.R Kd.string 9 w' w.heap.size (fun _ => True) v3 x3_1) ∧ Aside0 (Below w.heap.size w w'))
 case atStart => exact ⟨(y871), (0), (by first | rfl | (simp; done) | (simp [*]; done)), H', ⟨Nat.le_refl _⟩, ⟨by (with_reducible repeat (first | apply Ra | apply Rn | apply Rd)); exact HO873.out⟩, ⟨by repeat (with_reducible first | exact HB.out | apply bA | apply bN | apply bD)⟩⟩
 clear H'
 try clear p2
 obtain ⟨x3_1, x4_1, rfl, HA, HK1, HO_3, HB⟩ := hrel
 obtain _ | k1 := gk
 · exact absurd HA.out (by simp [spec_GraphLeaf.l0])
 have H := HA.out
 clear HA
 simp only [spec_GraphLeaf.l0] at H
 have HC4 := aM H; clear H
 go_upto_region 3 with (fail)
 go_cut [13] (fun v13 wc => ∃ (kq : Nat) (x13_3 : Bool), v13 = .bool x13_3 ∧ Aside0 (spec_GraphLeaf.j1 kq l0 x3_1 x4_1 x13_3 = some r) ∧ Aside0 (kq ≤ k1) ∧ Aside0 (Kd.R Kd.string 9 wc w.heap.size (fun _ => True) u3 x3_1) ∧ Aside0 (Below w.heap.size w wc))
 case first =>
  have H := HC4.out
  clear HC4
  by_cases c5 : x4_1 < (l0.length : Int)
  · rw [if_pos c5] at H
    have c5b0 : decide (x4_1 < (l0.length : Int)) = true := decide_eq_true c5
    clear c5
    (first | rw [c5b0] | (simp only [i64_w, i32_w]; rw [c5b0]) | (have cn_ := c5b0; simp only [bne] at cn_; rw [cn_]; clear cn_) | skip)
    replace H := Option.bind_eq_some_iff.mp H
    obtain ⟨t874, A60, H⟩ := H
    replace H : (spec_GraphLeaf.j1 k1 l0 x3_1 x4_1 t874) = some r := H
    have A6 := aM A60; clear A60
    have H' := aM H
    clear H
    go_wp2_with (first | (go_at_call 30; (with_reducible refine (spec_KeepOk.calls k1 _ _ l0 t874 _ ?side1 ?side2 A6.out).mono ?_); (case side1 => repeat (first | exact (Kd.C_below HR0.out HB.out) | (with_reducible first | refine Ca ?_ _ | refine Cn ?_ _ | refine Cd ?_))); (case side2 => exact HC0.out); rintro e w7 ⟨rfl, hb⟩; have n0_ := aM (Kd.R_below (by (with_reducible repeat (first | apply Ra | apply Rn | apply Rd)); exact HO_3.out) hb); have n1_ := aM (below_step (by repeat (with_reducible first | exact HB.out | apply bA | apply bN | apply bD)) hb); clear HO_3 HB; have HO_3 := n0_; have HB := n1_; clear n0_ n1_))
    go_meet
    case rel => exact ⟨_, (t874), (by first | rfl | (simp; done) | (simp [*]; done)), H', ⟨by have := HK1.out; first | omega | exact Nat.le_refl _⟩, ⟨by (with_reducible repeat (first | apply Ra | apply Rn | apply Rd)); exact HO_3.out⟩, ⟨by repeat (with_reducible first | exact HB.out | apply bA | apply bN | apply bD)⟩⟩
  rw [if_neg c5] at H
  have c5b0 : decide (x4_1 < (l0.length : Int)) = false := decide_eq_false c5
  clear c5
  (first | rw [c5b0] | (simp only [i64_w, i32_w]; rw [c5b0]) | (have cn_ := c5b0; simp only [bne] at cn_; rw [cn_]; clear cn_) | skip)
  have H' := aM H
  clear H
  go_wp2
  go_meet
  case rel => exact ⟨_, (false), (by first | rfl | (simp; done) | (simp [*]; done)), H', ⟨by have := HK1.out; first | omega | exact Nat.le_refl _⟩, ⟨by (with_reducible repeat (first | apply Ra | apply Rn | apply Rd)); exact HO_3.out⟩, ⟨by repeat (with_reducible first | exact HB.out | apply bA | apply bN | apply bD)⟩⟩
 clear HC4; try clear p2; try clear c4; try clear c5; try clear c5b0; try clear p2
 obtain ⟨kq, x13_3, rfl, HA, HJ3, HO_3, HB⟩ := hcut
 obtain _ | kj3 := kq
 · exact absurd HA.out (by simp [spec_GraphLeaf.j1])
 have H := HA.out
 clear HA
 simp only [spec_GraphLeaf.j1] at H
 by_cases c8 : x13_3 = true
 · subst c8
   have H1 : (if 0 ≤ x4_1 then (if x4_1 < (l0.length : Int) then ((spec_l2Refs.f kj3 ((rd_T52 l0 x4_1).f2)).bind fun t876 => (if (t876.length : Int) = 0 then ((spec_l2Put.f kj3 x3_1 ((rd_T52 l0 x4_1).f0)).bind fun t880 => (spec_GraphLeaf.l0 kj3 l0 t880 (wrap64 (x4_1 + 1)))) else (spec_GraphLeaf.l0 kj3 l0 x3_1 (wrap64 (x4_1 + 1))))) else (none)) else (none)) = some r := by rw [if_pos rfl] at H; exact H
   clear H
   have H := H1
   clear H1
   by_cases c9 : 0 ≤ x4_1
   · rw [if_pos c9] at H
     have c9b0 : decide (0 ≤ x4_1) = true := decide_eq_true c9
     clear c9
     by_cases c10 : x4_1 < (l0.length : Int)
     · rw [if_pos c10] at H
       have c10b0 : decide (x4_1 < (l0.length : Int)) = true := decide_eq_true c10
       clear c10
       replace H := Option.bind_eq_some_iff.mp H
       obtain ⟨t876, A110, H⟩ := H
       replace H : (if (t876.length : Int) = 0 then ((spec_l2Put.f kj3 x3_1 ((rd_T52 l0 x4_1).f0)).bind fun t880 => (spec_GraphLeaf.l0 kj3 l0 t880 (wrap64 (x4_1 + 1)))) else (spec_GraphLeaf.l0 kj3 l0 x3_1 (wrap64 (x4_1 + 1)))) = some r := H
       have A11 := aM A110; clear A110
       by_cases c12 : (t876.length : Int) = 0
       · rw [if_pos c12] at H
         have c12b0 : ((t876.length : Int) == 0) = true := beq_iff_eq.mpr c12
         have c12b1 : ((t876.length : Int) != 0) = false := bne_eq_false_iff_eq.mpr c12
         clear c12
         replace H := Option.bind_eq_some_iff.mp H
         obtain ⟨t880, A130, H⟩ := H
         replace H : (spec_GraphLeaf.l0 kj3 l0 t880 (wrap64 (x4_1 + 1))) = some r := H
         have A13 := aM A130; clear A130
         have H' := aM H
         clear H
         have p875 : 0 ≤ (x4_1 : Int) := oD (by first | with_reducible assumption | assumption)
         have q875 : x4_1 < (l0.length : Int) := oD (by first | with_reducible assumption | assumption)
         obtain ⟨ad875, A875_2, c875_2, e875, hx875_0, hx875_1, hx875_2, hl875_2, hi875_2⟩ := at_T52 HR0.out x4_1 p875 q875
         cases e875
         replace hx875_0 := (HB.out.cell (World.block_lt_of_cell? w _ hx875_0)).trans hx875_0
         replace hx875_1 := (HB.out.cell (World.block_lt_of_cell? w _ hx875_1)).trans hx875_1
         replace hx875_2 := (HB.out.cell (World.block_lt_of_cell? w _ hx875_2)).trans hx875_2
         have HR875_2 := aM hi875_2; have HC875_2 := aM hl875_2; clear hi875_2 hl875_2; replace p875 := eq_true p875; replace q875 := eq_true q875
         go_wp2_with (first | ((with_reducible refine gate_callee (f := 73) rfl ?_); refine goesL_ (some 21) rfl rfl Try.func73 (by kernel_rfl) rfl #[.slice A875_2 ((rd_T52 l0 x4_1).f2).length c875_2] rfl (by (try simp only [List.map_toArray, List.map_cons, List.map_nil]); first | done | rfl) ?_; (with_reducible refine (spec_l2Refs.calls kj3 _ _ ((rd_T52 l0 x4_1).f2) t876 _ ?side1 ?side2 A11.out).mono ?_); (case side1 => repeat (first | exact (Kd.C_below HR875_2.out HB.out) | (with_reducible first | refine Ca ?_ _ | refine Cn ?_ _ | refine Cd ?_))); (case side2 => exact HC875_2.out); rintro e w14 ⟨v877, rfl, ho0, hb⟩; refine ⟨_, rfl, ?_⟩; have n0_ := aM (Kd.R_elder' (by (with_reducible repeat (first | apply Ra | apply Rn | apply Rd)); exact HO_3.out) (Kd.R_base ho0) hb); have n1_ := aM (Kd.R_lower (Kd.R_new' ho0 (Kd.R_lt (by (with_reducible repeat (first | apply Ra | apply Rn | apply Rd)); exact HO_3.out))) (below_size (by repeat (with_reducible first | exact HB.out | apply bA | apply bN | apply bD)))); have n2_ := aM (below_step (by repeat (with_reducible first | exact HB.out | apply bA | apply bN | apply bD)) hb); clear HO_3 HB; have HO_3 := n0_; have HO878 := n1_; have HB := n2_; clear n0_ n1_ n2_; (try clear ho0); obtain ⟨Ao15, co15, eo15⟩ := Kd.R_slice HO878.out; subst eo15; have p879 : 0 ≤ (x4_1 : Int) := oD (by first | with_reducible assumption | assumption); have q879 : x4_1 < (l0.length : Int) := oD (by first | with_reducible assumption | assumption); obtain ⟨ad879, A879_2, c879_2, e879, hx879_0, hx879_1, hx879_2, hl879_2, hi879_2⟩ := at_T52 HR0.out x4_1 p879 q879; obtain rfl : ad875 = ad879 := (by injection e879); replace hx879_0 := (HB.out.cell (World.block_lt_of_cell? w _ hx879_0)).trans hx879_0; replace hx879_1 := (HB.out.cell (World.block_lt_of_cell? w _ hx879_1)).trans hx879_1; replace hx879_2 := (HB.out.cell (World.block_lt_of_cell? w _ hx879_2)).trans hx879_2; have HR879_2 := aM hi879_2; have HC879_2 := aM hl879_2; clear hi879_2 hl879_2; replace p879 := eq_true p879; replace q879 := eq_true q879; obtain ⟨Ao16, co16, eo16⟩ := Kd.R_slice HO_3.out; subst eo16) | ((with_reducible refine gate_callee (f := 84) rfl ?_); refine goesL_ (some 30) rfl rfl Try.func84 (by kernel_rfl) rfl #[.slice Ao16 x3_1.length co16, .string ((rd_T52 l0 x4_1).f0)] rfl (by (try simp only [List.map_toArray, List.map_cons, List.map_nil]); first | done | rfl) ?_; (with_reducible refine (spec_l2Put.calls kj3 (fun k_ => some k_ = (.slice Ao16 x3_1.length co16 : Value).ownBlock) (.slice Ao16 x3_1.length co16) x3_1 ((rd_T52 l0 x4_1).f0) t880 w _ ?side1 ?side2 A13.out).mono ?_); (case side1 => repeat (with_reducible first | exact HB.out | apply bA | apply bN | apply bD)); (case side2 => exact Kd.R_tight rfl HO_3.out); rintro e w17 ⟨v881, rfl, ho0, hb, hkp⟩; refine ⟨_, rfl, ?_⟩; have n0_ := aM (Kd.R_mono (ok' := fun k_ => some k_ ≠ (v881 : Value).ownBlock) (Kd.R_keptB (HO878.out) hkp (fun k_ hk_ hs_ => (hk_.2) hs_)) (fun k_ hk_ => fun e_ => Or.elim (ho0.1 k_ e_.symm) (fun hs_ => hk_.2.1 hs_) (fun hn_ => Nat.not_le.2 hk_.2.2 hn_))); have n1_ := aM (Kd.R_mono (ok' := fun k_ => some k_ ≠ (.slice Ao15 t876.length co15 : Value).ownBlock) ho0 (fun k_ hk_ => Or.elim hk_ (fun hs_ => fun e_ => (((HO878.out).1 k_ e_.symm).2) hs_) (fun hn_ => (Kd.fresh' (Kd.R_lt (by (with_reducible repeat (first | apply Ra | apply Rn | apply Rd)); exact HO878.out)) k_ hn_)))); have n2_ := aM (hb); clear HO878 HB HO_3; have HO878 := n0_; have HO882 := n1_; have HB := n2_; clear n0_ n1_ n2_; (try clear hkp); (try clear ho0)))
         go_roundg kj3
         case measure => have := HK1.out; have := HJ3.out; omega
         case rel => exact ⟨(t880), (wrap64 (x4_1 + 1)), (by first | rfl | (simp; done) | (simp [*]; done)), H', ⟨by have := HK1.out; have := HJ3.out; omega⟩, ⟨by (with_reducible repeat (first | apply Ra | apply Rn | apply Rd)); exact Kd.R_mono HO882.out (fun _ hk => trivial)⟩, ⟨by repeat (with_reducible first | exact HB.out | apply bA | apply bN | apply bD)⟩⟩
       rw [if_neg c12] at H
       have c12b0 : ((t876.length : Int) == 0) = false := beq_eq_false_iff_ne.mpr c12
       have c12b1 : ((t876.length : Int) != 0) = true := bne_iff_ne.mpr c12
       have c12b2 : ¬ (t876 = []) := fun h_ => c12 (by rw [h_]; rfl)
       have H' := aM H
       clear H
       have p875 : 0 ≤ (x4_1 : Int) := oD (by first | with_reducible assumption | assumption)
       have q875 : x4_1 < (l0.length : Int) := oD (by first | with_reducible assumption | assumption)
       obtain ⟨ad875, A875_2, c875_2, e875, hx875_0, hx875_1, hx875_2, hl875_2, hi875_2⟩ := at_T52 HR0.out x4_1 p875 q875
       cases e875
       replace hx875_0 := (HB.out.cell (World.block_lt_of_cell? w _ hx875_0)).trans hx875_0
       replace hx875_1 := (HB.out.cell (World.block_lt_of_cell? w _ hx875_1)).trans hx875_1
       replace hx875_2 := (HB.out.cell (World.block_lt_of_cell? w _ hx875_2)).trans hx875_2
       have HR875_2 := aM hi875_2; have HC875_2 := aM hl875_2; clear hi875_2 hl875_2; replace p875 := eq_true p875; replace q875 := eq_true q875
       go_wp2_with (first | ((with_reducible refine gate_callee (f := 73) rfl ?_); refine goesL_ (some 21) rfl rfl Try.func73 (by kernel_rfl) rfl #[.slice A875_2 ((rd_T52 l0 x4_1).f2).length c875_2] rfl (by (try simp only [List.map_toArray, List.map_cons, List.map_nil]); first | done | rfl) ?_; (with_reducible refine (spec_l2Refs.calls kj3 _ _ ((rd_T52 l0 x4_1).f2) t876 _ ?side1 ?side2 A11.out).mono ?_); (case side1 => repeat (first | exact (Kd.C_below HR875_2.out HB.out) | (with_reducible first | refine Ca ?_ _ | refine Cn ?_ _ | refine Cd ?_))); (case side2 => exact HC875_2.out); rintro e w18 ⟨v877, rfl, ho0, hb⟩; refine ⟨_, rfl, ?_⟩; have n0_ := aM (Kd.R_elder' (by (with_reducible repeat (first | apply Ra | apply Rn | apply Rd)); exact HO_3.out) (Kd.R_base ho0) hb); have n1_ := aM (Kd.R_lower (Kd.R_new' ho0 (Kd.R_lt (by (with_reducible repeat (first | apply Ra | apply Rn | apply Rd)); exact HO_3.out))) (below_size (by repeat (with_reducible first | exact HB.out | apply bA | apply bN | apply bD)))); have n2_ := aM (below_step (by repeat (with_reducible first | exact HB.out | apply bA | apply bN | apply bD)) hb); clear HO_3 HB; have HO_3 := n0_; have HO878 := n1_; have HB := n2_; clear n0_ n1_ n2_; (try clear ho0); obtain ⟨Ao19, co19, eo19⟩ := Kd.R_slice HO878.out; subst eo19))
       go_roundg kj3
       case measure => have := HK1.out; have := HJ3.out; omega
       case rel => exact ⟨(x3_1), (wrap64 (x4_1 + 1)), (by first | rfl | (simp; done) | (simp [*]; done)), H', ⟨by have := HK1.out; have := HJ3.out; omega⟩, ⟨by (with_reducible repeat (first | apply Ra | apply Rn | apply Rd)); exact Kd.R_mono HO_3.out (fun _ hk => trivial)⟩, ⟨by repeat (with_reducible first | exact HB.out | apply bA | apply bN | apply bD)⟩⟩
     rw [if_neg c10] at H
     exact absurd H (by simp)
   rw [if_neg c9] at H
   exact absurd H (by simp)
 replace c8 := Bool.eq_false_iff.mpr c8
 subst c8
 have H1 : (some x3_1) = some r := by rw [if_neg (show ¬ (false = true) by decide)] at H; exact H
 clear H
 have H := H1
 clear H1
 obtain rfl := Option.some.inj H
 go_wp2
 go_ret
 exact ⟨_, by first | rfl | (simp [*, errW_none, errW_some] <;> rfl), by (with_reducible repeat (first | apply Ra | apply Rn | apply Rd)); exact HO_3.out, by repeat (with_reducible first | exact HB.out | apply bA | apply bN | apply bD)⟩
end Go.Proofs.Ytppmalfpggkpdaa.P
namespace Go.Proofs
open Go.RowKit Go.Shelf Go.Sort
shelf_lay Lays.n190 Nm 190 at Try as Try.laysSort
shelf_lay Lays.n194 Nm 194 at Try as Try.laysCompact
end Go.Proofs
namespace Go.Proofs.Ytppmalfpggkpdaa.L
open Go.RowKit Go.Sort Go.Proofs.YtppmalfpggkpdaaW.PrintWords Go.Proofs.YtppmalfpggkpdaaW.PrintLast Go.Proofs.YtppmalfpggkpdaaW.PrintMore Go.Proofs.Ytppmalfpggkpdaa.P
def bytesL (l : List ByteArray) : List (List UInt8) := l.map (·.data.toList)
def textsL (l : List (List UInt8)) : List ByteArray := l.map fun b => ⟨b.toArray⟩
theorem bytes_texts (l : List (List UInt8)) : bytesL (textsL l) = l := by
  simp only [bytesL, textsL, List.map_map]
  exact (List.map_congr_left (fun x _ => by simp)).trans (List.map_id l)
theorem encs_texts (l : List (List UInt8)) : encs Value.string (textsL l) = l.map encStr := by simp [encs, textsL]
theorem encs_bytes (l : List ByteArray) : encs Value.string l = (bytesL l).map encStr := by
  unfold encs bytesL
  rw [Lib.map_encStr]
def sortV (l : List (List UInt8)) : List (List UInt8) := l.mergeSort fun x y => decide (x ≤ y)
def orderedV (l : List ByteArray) : List ByteArray := textsL (Lib.compact (sortV (bytesL l)))
theorem sort_row (e : TypeId) (base g cap : Nat) (l : List (List UInt8)) (w : World) (hO : w.ownsRow base e 1 (.slice (some ⟨g, 0, none⟩) l.length cap) l.length (l.map encStr)) (hl : l.length < 4611686018427387904) :
    Calls Try.prog 156 #[.slice (some ⟨g, 0, none⟩) l.length cap] w fun e1 w' => e1 = .returned (.tuple #[]) ∧ w'.ownsRow base e 1 (.slice (some ⟨g, 0, none⟩) l.length cap) l.length ((sortV l).map encStr) ∧ w.grownBy w' (some g) := by
  obtain ⟨g', cap', hv, hbg, hgl, hnc, hcm, hlen, hH⟩ := Lib.holds_of_ownsRow hO (by simp)
  injection hv with hv1 _ hv2
  injection hv1 with hv1
  injection hv1 with hv1 _ _
  subst hv1 hv2
  refine (calls_of_every_depth fun D => AnyS.slices_Sort_string_alone Try.laysSort D g 0 cap l w hH hgl hl).mono ?_
  rintro e1 w' ⟨rfl, n, os, rfl⟩
  rcases hO.2 with h | ⟨g2, cap2, cur, hv, hg, hh, r1, r2, r3, r4⟩
  · exact absurd h.1 (by simp)
  · injection hv with hv1 _ hv2
    injection hv1 with hv1
    injection hv1 with hv1 _ _
    subst hv1 hv2
    exact ⟨rfl, ownsRow_sorted (ss := l) (ts := sortV l) (List.length_mergeSort l) hbg hh r1 r2 r3, grownBy_sorted _⟩
theorem compact_row (e : TypeId) (base g cap : Nat) (l : List (List UInt8)) (w : World) (hO : w.ownsRow base e 1 (.slice (some ⟨g, 0, none⟩) l.length cap) l.length (l.map encStr)) (hl : l.length ≤ 4611686018427387904) :
    Calls Try.prog 157 #[.slice (some ⟨g, 0, none⟩) l.length cap] w fun e1 w' => e1 = .returned (.slice (some ⟨g, 0, none⟩) (Lib.compact l).length cap) ∧ w'.ownsRow base e 1 (.slice (some ⟨g, 0, none⟩) (Lib.compact l).length cap) (Lib.compact l).length ((Lib.compact l).map encStr) ∧ w.grownBy w' (some g) := by
  obtain ⟨g', cap', hv, hbg, hgl, hnc, hcm, hlen, hH⟩ := Lib.holds_of_ownsRow hO (by simp)
  injection hv with hv1 _ hv2
  injection hv1 with hv1
  injection hv1 with hv1 _ _
  subst hv1 hv2
  refine (calls_of_every_depth fun D => AnyS.slices_Compact_string_in Try.laysCompact D g 0 cap l w hH (by omega) hnc).mono ?_
  rintro e1 w' ⟨rfl, q, rfl⟩
  have hc := Lib.compact_length_le l
  have ho := Lib.ownsRow_putRow (q := q) (ys := Lib.compact l ++ List.replicate (l.length - (Lib.compact l).length) []) hO (by simp; omega) hc
  rw [List.take_left'  rfl] at ho
  refine ⟨rfl, ho, ?_⟩
  have := grownBy_sorted (w := w) (g := g) (n := q) (os := #[]) (Lib.compact l ++ List.replicate (l.length - (Lib.compact l).length) []).toArray
  rwa [grow_empty] at this
theorem sort_nil (w : World) : Calls Try.prog 156 #[.slice none 0 0] w fun e w' => e = .returned (.tuple #[]) ∧ w' = w :=
  calls_of_every_depth fun D => AnyS.slices_Sort_string_none_alone Try.laysSort D none 0 w
theorem compact_nil (w : World) : Calls Try.prog 157 #[.slice none 0 0] w fun e w' => e = .returned (.slice none 0 0) ∧ w' = w :=
  calls_of_every_depth fun D => AnyS.slices_Compact_string_empty_in Try.laysCompact D none 0 w
theorem reads_texts {e : TypeId} {base : Nat} {A : Option Addr} {cap : Nat} {cs : List (List UInt8)} {w : World} {h1 : ∀ x : ByteArray, (Value.string x).oneCell' = true} (h : w.ownsRow base e 1 (.slice A cs.length cap) cs.length (cs.map encStr)) : (Kd.scalar Value.string h1).C w A cs.length (textsL cs) := by
  have hlen : (textsL cs).length = cs.length := by simp [textsL]
  rw [← encs_texts] at h
  obtain ⟨A', c', hv, _, hc⟩ := Kd.R_reads (Kd.R_of_own (h1 := h1) (ok := fun _ => True) (by rw [hlen]; exact h) (fun _ _ => trivial))
  injection hv with hv
  subst hv
  rwa [hlen] at hc
end Go.Proofs.Ytppmalfpggkpdaa.L
namespace Go.Proofs.Ytppmalfpggkpdaa.P
open Go.RowKit Go.Proofs.YtppmalfpggkpdaaW.PrintWords Go.Proofs.YtppmalfpggkpdaaW.PrintLast Go.Proofs.YtppmalfpggkpdaaW.PrintMore
attribute [local go_sem] max2_int min2_int max_two min_two max_three min_three max_four min_four
open Go.Proofs.Ytppmalfpggkpdaa.L in
def impl_ordered.f (l0 : List ByteArray) : Option (List ByteArray) := if l0.length ≤ 8796093022208 then some (orderedV l0) else none
open Go.Proofs.Ytppmalfpggkpdaa.L in
set_option maxHeartbeats 1000000 in
set_option maxRecDepth 100000 in
theorem impl_ordered.calls (P0_ : Nat → Prop) (u9000_ : Value) (l0 : List ByteArray) (r : List ByteArray) (w0 w : World) (hB : Below w0.heap.size w0 w) (ho0 : Kd.R Kd.string 9 w w0.heap.size P0_ u9000_ l0) (h : impl_ordered.f l0 = some r) :
    Calls Try.prog 118 #[u9000_] w fun e w' => ∃ v0_ : Value, e = .returned (v0_) ∧ Kd.R Kd.string 9 w' w0.heap.size (fun k_ => (P0_ k_ ∨ w.heap.size ≤ k_)) v0_ r ∧ Below w0.heap.size w0 w' ∧ Kept w w' (fun k_ => P0_ k_) := by
 unfold impl_ordered.f at h
 by_cases hl : l0.length ≤ 8796093022208
 case neg => rw [if_neg hl] at h; exact absurd h (by simp)
 rw [if_pos hl] at h
 obtain rfl := Option.some.inj h
 clear h
 have hok := ho0.1
 have hO := Kd.own_of_R ho0
 obtain ⟨A9, c9, e9⟩ := Kd.R_slice ho0
 clear ho0
 by_cases hv : u9000_ = .slice none 0 0
 · subst hv
   have hl0 : l0 = [] := by
     injection e9 with _ e9 _
     exact List.length_eq_zero_iff.mp e9.symm
   clear e9; subst hl0
   have e0 : orderedV [] = [] := by simp only [orderedV, bytesL, sortV, List.map_nil, List.mergeSort_nil]; rfl
   rw [e0]
   have C1 := aM (fun W : World => sort_nil W)
   have C2 := aM (fun W : World => compact_nil W)
   have HB := aM hB; clear hB hO hok hl
   go_enter Try.func118, Try.ntmps118
   go_wp2_with (first | (go_at_call 156; refine (C1.out _).mono ?_; rintro e w1 ⟨rfl, rfl⟩) | (go_at_call 157; refine (C2.out _).mono ?_; rintro e w2 ⟨rfl, rfl⟩))
   go_ret
   exact ⟨_, rfl, Kd.R_nil _ _ _ _ _, HB.out, Kept.refl _ _⟩
 rw [encs_bytes, show l0.length = (bytesL l0).length by simp [bytesL]] at hO
 obtain ⟨g, cap, rfl, hbg, hgl, hnc, hcm, hlen, hH⟩ := Lib.holds_of_ownsRow hO hv
 clear hH hv
 have hlb : (bytesL l0).length ≤ 8796093022208 := by simpa [bytesL] using hl
 have hP : P0_ g := hok g rfl
 have C1 := aM (sort_row 9 w0.heap.size g cap (bytesL l0) w hO (by omega))
 have hls : (sortV (bytesL l0)).length = (bytesL l0).length := List.length_mergeSort _
 have C2 := aM (fun (W : World) (hW : W.ownsRow w0.heap.size 9 1 (.slice (some ⟨g, 0, none⟩) (bytesL l0).length cap) (bytesL l0).length ((sortV (bytesL l0)).map encStr)) =>
   (by rw [← hls]; exact compact_row 9 w0.heap.size g cap (sortV (bytesL l0)) W (by rw [hls]; exact hW) (by omega) :
     Calls Try.prog 157 #[.slice (some ⟨g, 0, none⟩) (bytesL l0).length cap] W fun e1 w' => e1 = .returned (.slice (some ⟨g, 0, none⟩) (Lib.compact (sortV (bytesL l0))).length cap) ∧ w'.ownsRow w0.heap.size 9 1 (.slice (some ⟨g, 0, none⟩) (Lib.compact (sortV (bytesL l0))).length cap) (Lib.compact (sortV (bytesL l0))).length ((Lib.compact (sortV (bytesL l0))).map encStr) ∧ W.grownBy w' (some g)))
 have hcl := Lib.compact_length_le (sortV (bytesL l0))
 have e1 : orderedV l0 = textsL (Lib.compact (sortV (bytesL l0))) := rfl
 rw [e1]
 have hcn : (Lib.compact (sortV (bytesL l0))).length ≤ 8796093022208 := by omega
 clear e9 e1 hcl hls hlb hl hlen hnc hcm hO hok
 generalize Lib.compact (sortV (bytesL l0)) = cs at *
 generalize sortV (bytesL l0) = ss at *
 generalize (bytesL l0).length = n at *
 have HB := aM hB
 have HG := aM (And.intro hbg (And.intro hgl (And.intro hP hcn)))
 clear hB hbg hgl hP hcn
 go_enter Try.func118, Try.ntmps118
 go_wp2_with (first
   | (go_at_call 156; refine C1.out.mono ?_; rintro e w1 ⟨rfl, ho1, hg1⟩; have HO1 := aM ho1; have HG1 := aM hg1; clear ho1 hg1)
   | (go_at_call 157; refine (C2.out _ HO1.out).mono ?_; rintro e w2 ⟨rfl, ho2, hg2⟩; have HO2 := aM ho2; have HG2 := aM hg2; have HS1 := aM HG1.out.size; have HS2 := aM HG2.out.size; have HB2 := aM (Below.grown (Below.grown HB.out HG1.out (by have := HB.out.size; omega) (fun k hk => by cases hk; exact HG.out.1)) HG2.out (by have := HB.out.size; have := HS1.out; omega) (fun k hk => by cases hk; exact HG.out.1)); clear ho2 hg2)
   | ((with_reducible refine gate_builtin (b := .append) rfl ?_); at_builtin; refine Kd.R_append_row Value.string ByteArray.empty (h1 := fun _ => rfl) (w0 := w0) w0.heap.size rfl _ _ _ 9 (.string ⟨#[]⟩) 16 rfl Try.underlying24 info9 rfl (by decide) (.slice none 0 0) [] (textsL cs) (some ⟨g, 0, none⟩) cs.length cap (fun k_ => P0_ k_ ∨ w.heap.size ≤ k_) rfl rfl ?aF ?aO ?aR ?aB ?aS ?aL ?_; (case aF => intro k hk; have := HS1.out; have := HS2.out; exact .inr (by omega)); (case aO => exact Kd.R_nil _ _ _ _ _); (case aR => exact reads_texts HO2.out); (case aB => exact HB2.out); (case aS => have := HB2.out.size; omega); (case aL => have := HG.out.2.2.2; simp only [List.length_nil]; omega); intro v1 w3 hR hB3 hg3 hat; have HR3 := aM hR; have HB3 := aM hB3; have HG3 := aM hg3; clear hR hB3 hg3 hat))
 go_ret
 exact ⟨_, rfl, HR3.out, HB3.out, Kept.of_grown HG3.out (Kept.of_grown HG2.out (Kept.of_grown HG1.out (Kept.refl _ _) (fun k hk => .inl (by cases hk; exact HG.out.2.2.1))) (fun k hk => .inl (by cases hk; exact HG.out.2.2.1))) (fun k hk => by simp [Value.ownBlock] at hk)⟩
open Go.Proofs.Ytppmalfpggkpdaa.L in
set_option maxHeartbeats 4000000 in
set_option maxRecDepth 100000 in
theorem idxFun_calls (A0 : Option Addr) (c0 : Nat) (l0 : List S52) (lb : Array Value) (p : S52 → Bool) (w : World) (hr0 : Kd.C k52 w A0 l0.length l0) (hc0 : l0.length ≤ c0)
    (hp : ∀ (W : World) (x : S52) (A2 : Option Addr) (c2 : Nat), Below w.heap.size w W → x ∈ l0 → x.f2.length ≤ c2 → Kd.C k110 W A2 x.f2.length x.f2 → Calls Try.prog 142 ((#[.agg #[.string x.f0, .bool x.f1, .slice A2 x.f2.length c2]] : Array Value) ++ lb) W fun e w' => e = .returned (.bool (p x)) ∧ Below W.heap.size W w') :
    Calls Try.prog 141 #[.slice A0 l0.length c0, .func (.func 142) #[] lb] w fun e w' => e = .returned (.int .i64 (idxFrom p l0 0)) ∧ Below w.heap.size w w' := by
  have HR0 := aM hr0
  have HN : l0.length ≤ 9223372036854775807 := hr0.2.1
  have HPP := aM hp
  clear hr0 hp
  go_enter Try.func141, Try.ntmps141
  go_wp2
  go_loopg [5, 8] l0.length (fun gg _ s8 wr => ∃ kk : Nat, s8 = .int .i64 kk ∧ Aside0 (kk ≤ l0.length) ∧ Aside0 (l0.length - kk ≤ gg) ∧ Aside0 (Below w.heap.size w wr) ∧ Aside0 (∀ i, i < kk → p (l0.getD i z52) = false))
  case atStart => exact ⟨0, rfl, ⟨Nat.zero_le _⟩, ⟨by omega⟩, ⟨Below.refl _ w⟩, ⟨fun i hi => absurd hi (Nat.not_lt_zero _)⟩⟩
  case round =>
    obtain ⟨kk, rfl, HK, HG, HB, HP⟩ := hrel
    by_cases hlt : kk < l0.length
    · obtain ⟨ad, A2, c2, e, hx0, hx1, hx2, hl2, hi2⟩ := at_T52 HR0.out kk (by omega) (by omega)
      cases e
      have hy0 := pw_cell_below HB.out hx0
      have hy1 := pw_cell_below HB.out hx1
      have hy2 := pw_cell_below HB.out hx2
      simp only [Int.toNat_natCast] at hy0 hy1 hy2
      have hcall := HPP.out wr (rd_T52 l0 (kk : Int)) A2 c2 HB.out (by show l0.getD (kk : Int).toNat z52 ∈ l0; rw [Int.toNat_natCast]; exact getD_mem hlt) hl2 (Kd.C_below hi2 HB.out)
      clear hx0 hx1 hx2 hl2 hi2
      have hlb : decide (kk < l0.length) = true := decide_eq_true hlt
      have hli : decide ((kk : Int) < (l0.length : Int)) = true := decide_eq_true (by omega)
      have hq2 : p (rd_T52 l0 (kk : Int)) = p (l0.getD kk z52) := by show p (l0.getD (kk : Int).toNat z52) = _; rw [Int.toNat_natCast]
      rw [hq2] at hcall
      clear hq2
      cases hq : p (l0.getD kk z52) with
      | true =>
        rw [hq] at hcall
        have HQ := aM hq
        clear hq
        go_wp2_with (go_at_call 142; refine hcall.mono ?_; rintro e w' ⟨rfl, hb'⟩)
        go_ret
        refine ⟨?_, below_then HB.out HB.out.size hb'⟩
        rw [idxFrom_hit _ z52 l0 0 kk hlt HP.out HQ.out]
        simp
      | false =>
        rw [hq] at hcall
        have HQ := aM hq
        clear hq
        go_wp2_with (go_at_call 142; refine hcall.mono ?_; rintro e w' ⟨rfl, hb'⟩)
        go_roundg (l0.length - (kk + 1))
        case measure => have := HG.out; omega
        case rel =>
          refine ⟨kk + 1, by go_num, ⟨by omega⟩, ⟨Nat.le_refl _⟩, ⟨below_then HB.out HB.out.size hb'⟩, ⟨fun i hi => ?_⟩⟩
          by_cases e : i = kk
          · subst e
            exact HQ.out
          · exact HP.out i (by omega)
    · have hlb : decide (kk < l0.length) = false := decide_eq_false hlt
      have hli : decide ((kk : Int) < (l0.length : Int)) = false := decide_eq_false (by omega)
      go_wp2
      go_ret
      refine ⟨?_, HB.out⟩
      rw [idxFrom_miss _ z52 l0 0 (fun i hi => HP.out i (by have := HK.out; omega))]
      rfl
open Go.Proofs.Ytppmalfpggkpdaa.L in
def impl_find.f (l0 : List S52) (a1 : ByteArray) : Option Int := some (idxFrom (fun x => x.f0.toList == a1.toList) l0 0)
set_option maxHeartbeats 1000000 in
theorem find1_calls (s : ByteArray) (b : Bool) (A : Option Addr) (n c : Nat) (B : Nat) (name : ByteArray) (w : World) (hB : w.cell? ⟨B, 0, none⟩ = some (.string name)) (hlt : B < w.heap.size) :
    Calls Try.prog 142 #[.agg #[.string s, .bool b, .slice A n c], .pointer (some ⟨B, 0, none⟩)] w fun e w' => e = .returned (.bool (s.toList == name.toList)) ∧ Below w.heap.size w w' := by
  go_enter Try.func142, Try.ntmps142
  go_wp2
  go_ret
  exact ⟨rfl, (Below.refl _ _).alloc (Nat.le_refl _) _⟩
open Go.Proofs.Ytppmalfpggkpdaa.L in
set_option maxHeartbeats 2000000 in
theorem impl_find.calls (A0 : Option Addr) (c0 : Nat) (l0 : List S52) (a1 : ByteArray) (r : Int) (w : World) (hr0 : Kd.C k52 w A0 l0.length l0) (hc0 : l0.length ≤ c0) (h : impl_find.f l0 a1 = some r) :
    Calls Try.prog 82 #[.slice A0 l0.length c0, .string a1] w fun e w' => e = .returned (.int .i64 r) ∧ Below w.heap.size w w' := by
 have hcell : ∀ W : World, Below (w.alloc (.cells #[.string a1] 9)).heap.size (w.alloc (.cells #[.string a1] 9)) W → W.cell? ⟨w.heap.size, 0, none⟩ = some (.string a1) := fun W hb =>
   (hb.cell (p := ⟨w.heap.size, 0, none⟩) (by simp)).trans ((blk_cell (blk_new w _) 0).trans rfl)
 have HC := aM (idxFun_calls A0 c0 l0 #[.pointer (some ⟨w.heap.size, 0, none⟩)] (fun x => x.f0.toList == a1.toList) (w.alloc (.cells #[.string a1] 9)) (Kd.C_below hr0 (below_alloc (Below.refl _ _) _)) hc0
   (fun W x A2 c2 hb _ _ _ => find1_calls x.f0 x.f1 A2 x.f2.length c2 w.heap.size a1 W (hcell W hb) (Nat.lt_of_lt_of_le (by simp) hb.size)))
 clear hr0 hcell
 obtain rfl := Option.some.inj h
 clear h
 go_enter Try.func82, Try.ntmps82
 go_wp2_with (go_at_call 141; refine HC.out.mono ?_; rintro e w' ⟨rfl, hb'⟩)
 go_ret
 exact ⟨rfl, below_then (below_alloc (Below.refl _ _) _) (below_size (below_alloc (Below.refl _ _) _)) hb'⟩
def impl_funsOk.l0 : Nat → List (S52) → List (S52) → Int → Int → Option (Bool)
  | 0, _, _, _, _ => none
  | k + 1, x0, x5, x6, x7 => if x7 < x6 then (if 0 ≤ x7 then (if x7 < (x5.length : Int) then ((impl_FunOk.f ((rd_T52 x5 x7).f0) ((rd_T52 x5 x7).f1) ((rd_T52 x5 x7).f2)).bind fun t267 => (if t267 = true then ((impl_find.f x0 ((rd_T52 x5 x7).f0)).bind fun t268 => (if t268 = x7 then (impl_funsOk.l0 k x0 x5 x6 (wrap64 (x7 + 1))) else (some false))) else (some false))) else (none)) else (none)) else (some true)
def impl_funsOk.f (k : Nat) (l0 : List (S52)) : Option (Bool) := impl_funsOk.l0 k l0 l0 (l0.length : Int) 0
set_option maxHeartbeats 8000000 in
set_option maxRecDepth 100000 in
theorem impl_funsOk.calls (k : Nat) (A0 : Option Addr) (c0 : Nat) (l0 : List (S52)) (r : Bool) (w : World) (hr0 : Kd.C k52 w A0 l0.length l0) (hc0 : l0.length ≤ c0) (h : impl_funsOk.f k l0 = some r) :
    Calls Try.prog 76 #[.slice A0 l0.length c0] w fun e w' => e = .returned (.bool r) ∧ Below w.heap.size w w' := by
 have hu52 := Try.underlying52
 have HR0 := aM hr0; have HC0 := aM hc0; clear hr0 hc0
 have HB := aM (Below.refl w.heap.size w)
 have H : (impl_funsOk.l0 k l0 l0 (l0.length : Int) 0) = some r := h
 clear h
 have H' := aM H
 clear H
 go_enter Try.func76, Try.ntmps76
 go_wp2
 go_loopg [7] k (fun kq v7 w' => ∃ (x7_1 : Int), v7 = .int .i64 x7_1 ∧ Aside0 (impl_funsOk.l0 kq l0 l0 (l0.length : Int) x7_1 = some r) ∧ Aside0 (kq ≤ k) ∧ Aside0 (Below w.heap.size w w'))
 case atStart => exact ⟨(0), (by first | rfl | (simp; done) | (simp [*]; done)), H', ⟨Nat.le_refl _⟩, ⟨by repeat (with_reducible first | exact HB.out | apply bA | apply bN | apply bD)⟩⟩
 clear H'
 obtain ⟨x7_1, rfl, HA, HK1, HB⟩ := hrel
 obtain _ | k1 := gk
 · exact absurd HA.out (by simp [impl_funsOk.l0])
 have H := HA.out
 clear HA
 simp only [impl_funsOk.l0] at H
 by_cases c2 : x7_1 < (l0.length : Int)
 · rw [if_pos c2] at H
   have c2b0 : decide (x7_1 < (l0.length : Int)) = true := decide_eq_true c2
   clear c2
   by_cases c3 : 0 ≤ x7_1
   · rw [if_pos c3] at H
     have c3b0 : decide (0 ≤ x7_1) = true := decide_eq_true c3
     clear c3
     by_cases c4 : x7_1 < (l0.length : Int)
     · rw [if_pos c4] at H
       have c4b0 : decide (x7_1 < (l0.length : Int)) = true := decide_eq_true c4
       clear c4
       replace H := Option.bind_eq_some_iff.mp H
       obtain ⟨t267, A50, H⟩ := H
       replace H : (if t267 = true then ((impl_find.f l0 ((rd_T52 l0 x7_1).f0)).bind fun t268 => (if t268 = x7_1 then (impl_funsOk.l0 k1 l0 l0 (l0.length : Int) (wrap64 (x7_1 + 1))) else (some false))) else (some false)) = some r := H
       have A5 := aM A50; clear A50
       by_cases c6 : t267 = true
       · subst c6
         have H1 : ((impl_find.f l0 ((rd_T52 l0 x7_1).f0)).bind fun t268 => (if t268 = x7_1 then (impl_funsOk.l0 k1 l0 l0 (l0.length : Int) (wrap64 (x7_1 + 1))) else (some false))) = some r := by rw [if_pos rfl] at H; exact H
         clear H
         have H := H1
         clear H1
         replace H := Option.bind_eq_some_iff.mp H
         obtain ⟨t268, A70, H⟩ := H
         replace H : (if t268 = x7_1 then (impl_funsOk.l0 k1 l0 l0 (l0.length : Int) (wrap64 (x7_1 + 1))) else (some false)) = some r := H
         have A7 := aM A70; clear A70
         by_cases c8 : t268 = x7_1
         · rw [if_pos c8] at H
           have c8b0 : (t268 == x7_1) = true := beq_iff_eq.mpr c8
           have c8b1 : (t268 != x7_1) = false := bne_eq_false_iff_eq.mpr c8
           clear c8
           have H' := aM H
           clear H
           have p265 : 0 ≤ (x7_1 : Int) := oD (by first | with_reducible assumption | assumption)
           have q265 : x7_1 < (l0.length : Int) := oD (by first | with_reducible assumption | assumption)
           obtain ⟨ad265, A265_2, c265_2, e265, hx265_0, hx265_1, hx265_2, hl265_2, hi265_2⟩ := at_T52 HR0.out x7_1 p265 q265
           cases e265
           replace hx265_0 := (HB.out.cell (World.block_lt_of_cell? w _ hx265_0)).trans hx265_0
           replace hx265_1 := (HB.out.cell (World.block_lt_of_cell? w _ hx265_1)).trans hx265_1
           replace hx265_2 := (HB.out.cell (World.block_lt_of_cell? w _ hx265_2)).trans hx265_2
           have HR265_2 := aM hi265_2; have HC265_2 := aM hl265_2; clear hi265_2 hl265_2; replace p265 := eq_true p265; replace q265 := eq_true q265
           go_wp2_with (first | ((with_reducible refine gate_dst (N := 4) rfl ?_); refine box_event ?hg (N := 4) ?hd (cs := #[.string (⟨#[]⟩ : ByteArray), .bool false, .slice none 0 0]) (t := 52) ?hr ?_; (case hd => rfl); (case hg => rfl); (case hr => first | (go_simp; done) | (go_simp; rfl)); intro gb266 hg w9 hbox hb; have n0_ := aM (below_step (by repeat (with_reducible first | exact HB.out | apply bA | apply bN | apply bD)) hb); have n1_ := aM (hbox); have n2_ := aM ((by rw [hg]; exact (below_size (by repeat (with_reducible first | exact HB.out | apply bA | apply bN | apply bD))) : w.heap.size ≤ gb266)); have n3_ := aM ((by rw [hg]; exact (below_size (by repeat (with_reducible first | exact HB.out | apply bA | apply bN | apply bD))) : w.heap.size ≤ gb266)); clear HB; have HB := n0_; have BK266 := n1_; have GW266 := n2_; have GE266 := n3_; clear n0_ n1_ n2_ n3_ hb hbox hg; have hcz10_0 : w9.cell? ⟨gb266, 0, none⟩ = some (.string (⟨#[]⟩ : ByteArray)) := (blk_cell BK266.out 0).trans rfl; have hcz10_1 : w9.cell? ⟨gb266, 1, none⟩ = some (.bool false) := (blk_cell BK266.out 1).trans rfl; have hcz10_2 : w9.cell? ⟨gb266, 2, none⟩ = some (.slice none 0 0) := (blk_cell BK266.out 2).trans rfl; have hfz10_0 := blk_frozen BK266.out 0; have hfz10_1 := blk_frozen BK266.out 1; have hfz10_2 := blk_frozen BK266.out 2) | ((with_reducible refine gate_callee (f := 80) rfl ?_); refine goesL_ (some 13) rfl rfl Try.func80 (by kernel_rfl) rfl #[.agg #[.string ((rd_T52 l0 x7_1).f0), .bool ((rd_T52 l0 x7_1).f1), .slice A265_2 ((rd_T52 l0 x7_1).f2).length c265_2]] rfl (by (try simp only [List.map_toArray, List.map_cons, List.map_nil]); first | done | rfl) ?_; (with_reducible refine (impl_FunOk.calls ((rd_T52 l0 x7_1).f0) ((rd_T52 l0 x7_1).f1) _ _ ((rd_T52 l0 x7_1).f2) true _ ?side1 ?side2 A5.out).mono ?_); (case side1 => exact Kd.C_below HR265_2.out (by repeat (with_reducible first | exact HB.out | apply bA | apply bN | apply bD | refine below_set ?_ GE266.out))); (case side2 => exact HC265_2.out); rintro e w11 ⟨rfl, hb⟩; refine ⟨_, rfl, ?_⟩; have n0_ := aM (blk_below (g := gb266) (o := .cells #[.string ((rd_T52 l0 x7_1).f0), .bool ((rd_T52 l0 x7_1).f1), .slice A265_2 ((rd_T52 l0 x7_1).f2).length c265_2] 52 (0, 0)) (by refine blk_put (cs := #[.string ((rd_T52 l0 x7_1).f0), .bool ((rd_T52 l0 x7_1).f1), .slice none 0 0]) ?_ 2 _ rfl; refine blk_put (cs := #[.string ((rd_T52 l0 x7_1).f0), .bool false, .slice none 0 0]) ?_ 1 _ rfl; refine blk_put (cs := #[.string (⟨#[]⟩ : ByteArray), .bool false, .slice none 0 0]) ?_ 0 _ rfl; exact BK266.out) hb); have n1_ := aM (below_step (by repeat (with_reducible first | exact HB.out | apply bA | apply bN | apply bD | refine below_set ?_ GE266.out)) hb); clear BK266 HB; have BK266 := n0_; have HB := n1_; clear n0_ n1_; have hcz12_0 : w11.cell? ⟨gb266, 0, none⟩ = some (.string ((rd_T52 l0 x7_1).f0)) := (blk_cell BK266.out 0).trans rfl; have hcz12_1 : w11.cell? ⟨gb266, 1, none⟩ = some (.bool ((rd_T52 l0 x7_1).f1)) := (blk_cell BK266.out 1).trans rfl; have hcz12_2 : w11.cell? ⟨gb266, 2, none⟩ = some (.slice A265_2 ((rd_T52 l0 x7_1).f2).length c265_2) := (blk_cell BK266.out 2).trans rfl; have hfz12_0 := blk_frozen BK266.out 0; have hfz12_1 := blk_frozen BK266.out 1; have hfz12_2 := blk_frozen BK266.out 2) | (go_at_call 82; (with_reducible refine (impl_find.calls _ _ l0 ((rd_T52 l0 x7_1).f0) t268 _ ?side1 ?side2 A7.out).mono ?_); (case side1 => repeat (first | exact (Kd.C_below HR0.out HB.out) | (with_reducible first | refine Ca ?_ _ | refine Cn ?_ _ | refine Cd ?_))); (case side2 => exact HC0.out); rintro e w13 ⟨rfl, hb⟩; have n0_ := aM (blk_below (g := gb266) (o := .cells #[.string ((rd_T52 l0 x7_1).f0), .bool ((rd_T52 l0 x7_1).f1), .slice A265_2 ((rd_T52 l0 x7_1).f2).length c265_2] 52 (0, 0)) (by exact BK266.out) hb); have n1_ := aM (below_step (by repeat (with_reducible first | exact HB.out | apply bA | apply bN | apply bD | refine below_set ?_ GE266.out)) hb); clear BK266 HB; have BK266 := n0_; have HB := n1_; clear n0_ n1_))
           go_roundg k1
           case measure => have := HK1.out; omega
           case rel => exact ⟨(wrap64 (x7_1 + 1)), (by first | rfl | (simp; done) | (simp [*]; done)), H', ⟨by have := HK1.out; omega⟩, ⟨by repeat (with_reducible first | exact HB.out | apply bA | apply bN | apply bD | refine below_set ?_ GE266.out)⟩⟩
         rw [if_neg c8] at H
         have c8b0 : (t268 == x7_1) = false := beq_eq_false_iff_ne.mpr c8
         have c8b1 : (t268 != x7_1) = true := bne_iff_ne.mpr c8
         obtain rfl := Option.some.inj H
         have p265 : 0 ≤ (x7_1 : Int) := oD (by first | with_reducible assumption | assumption)
         have q265 : x7_1 < (l0.length : Int) := oD (by first | with_reducible assumption | assumption)
         obtain ⟨ad265, A265_2, c265_2, e265, hx265_0, hx265_1, hx265_2, hl265_2, hi265_2⟩ := at_T52 HR0.out x7_1 p265 q265
         cases e265
         replace hx265_0 := (HB.out.cell (World.block_lt_of_cell? w _ hx265_0)).trans hx265_0
         replace hx265_1 := (HB.out.cell (World.block_lt_of_cell? w _ hx265_1)).trans hx265_1
         replace hx265_2 := (HB.out.cell (World.block_lt_of_cell? w _ hx265_2)).trans hx265_2
         have HR265_2 := aM hi265_2; have HC265_2 := aM hl265_2; clear hi265_2 hl265_2; replace p265 := eq_true p265; replace q265 := eq_true q265
         go_wp2_with (first | ((with_reducible refine gate_dst (N := 4) rfl ?_); refine box_event ?hg (N := 4) ?hd (cs := #[.string (⟨#[]⟩ : ByteArray), .bool false, .slice none 0 0]) (t := 52) ?hr ?_; (case hd => rfl); (case hg => rfl); (case hr => first | (go_simp; done) | (go_simp; rfl)); intro gb266 hg w14 hbox hb; have n0_ := aM (below_step (by repeat (with_reducible first | exact HB.out | apply bA | apply bN | apply bD)) hb); have n1_ := aM (hbox); have n2_ := aM ((by rw [hg]; exact (below_size (by repeat (with_reducible first | exact HB.out | apply bA | apply bN | apply bD))) : w.heap.size ≤ gb266)); have n3_ := aM ((by rw [hg]; exact (below_size (by repeat (with_reducible first | exact HB.out | apply bA | apply bN | apply bD))) : w.heap.size ≤ gb266)); clear HB; have HB := n0_; have BK266 := n1_; have GW266 := n2_; have GE266 := n3_; clear n0_ n1_ n2_ n3_ hb hbox hg; have hcz15_0 : w14.cell? ⟨gb266, 0, none⟩ = some (.string (⟨#[]⟩ : ByteArray)) := (blk_cell BK266.out 0).trans rfl; have hcz15_1 : w14.cell? ⟨gb266, 1, none⟩ = some (.bool false) := (blk_cell BK266.out 1).trans rfl; have hcz15_2 : w14.cell? ⟨gb266, 2, none⟩ = some (.slice none 0 0) := (blk_cell BK266.out 2).trans rfl; have hfz15_0 := blk_frozen BK266.out 0; have hfz15_1 := blk_frozen BK266.out 1; have hfz15_2 := blk_frozen BK266.out 2) | ((with_reducible refine gate_callee (f := 80) rfl ?_); refine goesL_ (some 13) rfl rfl Try.func80 (by kernel_rfl) rfl #[.agg #[.string ((rd_T52 l0 x7_1).f0), .bool ((rd_T52 l0 x7_1).f1), .slice A265_2 ((rd_T52 l0 x7_1).f2).length c265_2]] rfl (by (try simp only [List.map_toArray, List.map_cons, List.map_nil]); first | done | rfl) ?_; (with_reducible refine (impl_FunOk.calls ((rd_T52 l0 x7_1).f0) ((rd_T52 l0 x7_1).f1) _ _ ((rd_T52 l0 x7_1).f2) true _ ?side1 ?side2 A5.out).mono ?_); (case side1 => exact Kd.C_below HR265_2.out (by repeat (with_reducible first | exact HB.out | apply bA | apply bN | apply bD | refine below_set ?_ GE266.out))); (case side2 => exact HC265_2.out); rintro e w16 ⟨rfl, hb⟩; refine ⟨_, rfl, ?_⟩; have n0_ := aM (blk_below (g := gb266) (o := .cells #[.string ((rd_T52 l0 x7_1).f0), .bool ((rd_T52 l0 x7_1).f1), .slice A265_2 ((rd_T52 l0 x7_1).f2).length c265_2] 52 (0, 0)) (by refine blk_put (cs := #[.string ((rd_T52 l0 x7_1).f0), .bool ((rd_T52 l0 x7_1).f1), .slice none 0 0]) ?_ 2 _ rfl; refine blk_put (cs := #[.string ((rd_T52 l0 x7_1).f0), .bool false, .slice none 0 0]) ?_ 1 _ rfl; refine blk_put (cs := #[.string (⟨#[]⟩ : ByteArray), .bool false, .slice none 0 0]) ?_ 0 _ rfl; exact BK266.out) hb); have n1_ := aM (below_step (by repeat (with_reducible first | exact HB.out | apply bA | apply bN | apply bD | refine below_set ?_ GE266.out)) hb); clear BK266 HB; have BK266 := n0_; have HB := n1_; clear n0_ n1_; have hcz17_0 : w16.cell? ⟨gb266, 0, none⟩ = some (.string ((rd_T52 l0 x7_1).f0)) := (blk_cell BK266.out 0).trans rfl; have hcz17_1 : w16.cell? ⟨gb266, 1, none⟩ = some (.bool ((rd_T52 l0 x7_1).f1)) := (blk_cell BK266.out 1).trans rfl; have hcz17_2 : w16.cell? ⟨gb266, 2, none⟩ = some (.slice A265_2 ((rd_T52 l0 x7_1).f2).length c265_2) := (blk_cell BK266.out 2).trans rfl; have hfz17_0 := blk_frozen BK266.out 0; have hfz17_1 := blk_frozen BK266.out 1; have hfz17_2 := blk_frozen BK266.out 2) | (go_at_call 82; (with_reducible refine (impl_find.calls _ _ l0 ((rd_T52 l0 x7_1).f0) t268 _ ?side1 ?side2 A7.out).mono ?_); (case side1 => repeat (first | exact (Kd.C_below HR0.out HB.out) | (with_reducible first | refine Ca ?_ _ | refine Cn ?_ _ | refine Cd ?_))); (case side2 => exact HC0.out); rintro e w18 ⟨rfl, hb⟩; have n0_ := aM (blk_below (g := gb266) (o := .cells #[.string ((rd_T52 l0 x7_1).f0), .bool ((rd_T52 l0 x7_1).f1), .slice A265_2 ((rd_T52 l0 x7_1).f2).length c265_2] 52 (0, 0)) (by exact BK266.out) hb); have n1_ := aM (below_step (by repeat (with_reducible first | exact HB.out | apply bA | apply bN | apply bD | refine below_set ?_ GE266.out)) hb); clear BK266 HB; have BK266 := n0_; have HB := n1_; clear n0_ n1_))
         go_ret
         exact ⟨by first | rfl | (simp [*, errW_none, errW_some] <;> rfl), by repeat (with_reducible first | exact HB.out | apply bA | apply bN | apply bD | refine below_set ?_ GE266.out)⟩
       replace c6 := Bool.eq_false_iff.mpr c6
       subst c6
       have H1 : (some false) = some r := by rw [if_neg (show ¬ (false = true) by decide)] at H; exact H
       clear H
       have H := H1
       clear H1
       obtain rfl := Option.some.inj H
       have p265 : 0 ≤ (x7_1 : Int) := oD (by first | with_reducible assumption | assumption)
       have q265 : x7_1 < (l0.length : Int) := oD (by first | with_reducible assumption | assumption)
       obtain ⟨ad265, A265_2, c265_2, e265, hx265_0, hx265_1, hx265_2, hl265_2, hi265_2⟩ := at_T52 HR0.out x7_1 p265 q265
       cases e265
       replace hx265_0 := (HB.out.cell (World.block_lt_of_cell? w _ hx265_0)).trans hx265_0
       replace hx265_1 := (HB.out.cell (World.block_lt_of_cell? w _ hx265_1)).trans hx265_1
       replace hx265_2 := (HB.out.cell (World.block_lt_of_cell? w _ hx265_2)).trans hx265_2
       have HR265_2 := aM hi265_2; have HC265_2 := aM hl265_2; clear hi265_2 hl265_2; replace p265 := eq_true p265; replace q265 := eq_true q265
       go_wp2_with (first | ((with_reducible refine gate_dst (N := 4) rfl ?_); refine box_event ?hg (N := 4) ?hd (cs := #[.string (⟨#[]⟩ : ByteArray), .bool false, .slice none 0 0]) (t := 52) ?hr ?_; (case hd => rfl); (case hg => rfl); (case hr => first | (go_simp; done) | (go_simp; rfl)); intro gb266 hg w19 hbox hb; have n0_ := aM (below_step (by repeat (with_reducible first | exact HB.out | apply bA | apply bN | apply bD)) hb); have n1_ := aM (hbox); have n2_ := aM ((by rw [hg]; exact (below_size (by repeat (with_reducible first | exact HB.out | apply bA | apply bN | apply bD))) : w.heap.size ≤ gb266)); have n3_ := aM ((by rw [hg]; exact (below_size (by repeat (with_reducible first | exact HB.out | apply bA | apply bN | apply bD))) : w.heap.size ≤ gb266)); clear HB; have HB := n0_; have BK266 := n1_; have GW266 := n2_; have GE266 := n3_; clear n0_ n1_ n2_ n3_ hb hbox hg; have hcz20_0 : w19.cell? ⟨gb266, 0, none⟩ = some (.string (⟨#[]⟩ : ByteArray)) := (blk_cell BK266.out 0).trans rfl; have hcz20_1 : w19.cell? ⟨gb266, 1, none⟩ = some (.bool false) := (blk_cell BK266.out 1).trans rfl; have hcz20_2 : w19.cell? ⟨gb266, 2, none⟩ = some (.slice none 0 0) := (blk_cell BK266.out 2).trans rfl; have hfz20_0 := blk_frozen BK266.out 0; have hfz20_1 := blk_frozen BK266.out 1; have hfz20_2 := blk_frozen BK266.out 2) | ((with_reducible refine gate_callee (f := 80) rfl ?_); refine goesL_ (some 13) rfl rfl Try.func80 (by kernel_rfl) rfl #[.agg #[.string ((rd_T52 l0 x7_1).f0), .bool ((rd_T52 l0 x7_1).f1), .slice A265_2 ((rd_T52 l0 x7_1).f2).length c265_2]] rfl (by (try simp only [List.map_toArray, List.map_cons, List.map_nil]); first | done | rfl) ?_; (with_reducible refine (impl_FunOk.calls ((rd_T52 l0 x7_1).f0) ((rd_T52 l0 x7_1).f1) _ _ ((rd_T52 l0 x7_1).f2) false _ ?side1 ?side2 A5.out).mono ?_); (case side1 => exact Kd.C_below HR265_2.out (by repeat (with_reducible first | exact HB.out | apply bA | apply bN | apply bD | refine below_set ?_ GE266.out))); (case side2 => exact HC265_2.out); rintro e w21 ⟨rfl, hb⟩; refine ⟨_, rfl, ?_⟩; have n0_ := aM (blk_below (g := gb266) (o := .cells #[.string ((rd_T52 l0 x7_1).f0), .bool ((rd_T52 l0 x7_1).f1), .slice A265_2 ((rd_T52 l0 x7_1).f2).length c265_2] 52 (0, 0)) (by refine blk_put (cs := #[.string ((rd_T52 l0 x7_1).f0), .bool ((rd_T52 l0 x7_1).f1), .slice none 0 0]) ?_ 2 _ rfl; refine blk_put (cs := #[.string ((rd_T52 l0 x7_1).f0), .bool false, .slice none 0 0]) ?_ 1 _ rfl; refine blk_put (cs := #[.string (⟨#[]⟩ : ByteArray), .bool false, .slice none 0 0]) ?_ 0 _ rfl; exact BK266.out) hb); have n1_ := aM (below_step (by repeat (with_reducible first | exact HB.out | apply bA | apply bN | apply bD | refine below_set ?_ GE266.out)) hb); clear BK266 HB; have BK266 := n0_; have HB := n1_; clear n0_ n1_))
       go_ret
       exact ⟨by first | rfl | (simp [*, errW_none, errW_some] <;> rfl), by repeat (with_reducible first | exact HB.out | apply bA | apply bN | apply bD | refine below_set ?_ GE266.out)⟩
     rw [if_neg c4] at H
     exact absurd H (by simp)
   rw [if_neg c3] at H
   exact absurd H (by simp)
 rw [if_neg c2] at H
 have c2b0 : decide (x7_1 < (l0.length : Int)) = false := decide_eq_false c2
 clear c2
 obtain rfl := Option.some.inj H
 go_wp2
 go_ret
 exact ⟨by first | rfl | (simp [*, errW_none, errW_some] <;> rfl), by repeat (with_reducible first | exact HB.out | apply bA | apply bN | apply bD)⟩
mutual
def impl_lacking.l0 : Nat → List (S52) → List ByteArray → List (S52) → Int → Int → Option (List ByteArray)
  | 0, _, _, _, _, _ => none
  | k + 1, x0, x3, x8, x9, x10 => if x10 < x9 then (if 0 ≤ x10 then (if x10 < (x8.length : Int) then ((impl_Fun_refs.f k ((rd_T52 x8 x10).f0) ((rd_T52 x8 x10).f1) ((rd_T52 x8 x10).f2)).bind fun t414 => (impl_lacking.l1 k x0 x3 x8 x9 x10 t414 (t414.length : Int) 0)) else (none)) else (none)) else ((impl_ordered.f x3).bind fun t409 => (some t409))
def impl_lacking.l1 : Nat → List (S52) → List ByteArray → List (S52) → Int → Int → List ByteArray → Int → Int → Option (List ByteArray)
  | 0, _, _, _, _, _, _, _, _ => none
  | k + 1, x0, x3, x8, x9, x10, x15, x16, x17 => if x17 < x16 then (if 0 ≤ x17 then (if x17 < (x15.length : Int) then ((impl_find.f x0 (rdOf ByteArray.empty x15 x17)).bind fun t418 => (if t418 < 0 then (if x3.length < 8796093022208 then (impl_lacking.l1 k x0 (x3 ++ [rdOf ByteArray.empty x15 x17]) x8 x9 x10 x15 x16 (wrap64 (x17 + 1))) else (none)) else (impl_lacking.l1 k x0 x3 x8 x9 x10 x15 x16 (wrap64 (x17 + 1))))) else (none)) else (none)) else (impl_lacking.l0 k x0 x3 x8 x9 (wrap64 (x10 + 1)))
end
def impl_lacking.f (k : Nat) (l0 : List (S52)) : Option (List ByteArray) := impl_lacking.l0 k l0 ([] : List ByteArray) l0 (l0.length : Int) 0
set_option maxHeartbeats 8000000 in
set_option maxRecDepth 100000 in
theorem impl_lacking.calls (k : Nat) (A0 : Option Addr) (c0 : Nat) (l0 : List (S52)) (r : List ByteArray) (w : World) (hr0 : Kd.C k52 w A0 l0.length l0) (hc0 : l0.length ≤ c0) (h : impl_lacking.f k l0 = some r) :
    Calls Try.prog 60 #[.slice A0 l0.length c0] w fun e w' => ∃ v0_ : Value, e = .returned (v0_) ∧ Kd.R Kd.string 9 w' w.heap.size (fun _ => True) v0_ r ∧ Below w.heap.size w w' := by
 have hu52 := Try.underlying52
 have HR0 := aM hr0; have HC0 := aM hc0; clear hr0 hc0
 have HB := aM (Below.refl w.heap.size w)
 have H : (impl_lacking.l0 k l0 ([] : List ByteArray) l0 (l0.length : Int) 0) = some r := h
 clear h
 have H' := aM H
 clear H
 go_enter Try.func60, Try.ntmps60
 go_wp2
 go_loopg [3, 10] k (fun kq v3 v10 w' => ∃ (x3_1 : List ByteArray) (x10_1 : Int), v10 = .int .i64 x10_1 ∧ Aside0 (impl_lacking.l0 kq l0 x3_1 l0 (l0.length : Int) x10_1 = some r) ∧ Aside0 (kq ≤ k) ∧ Aside0 (Kd.R Kd.string 9 w' w.heap.size (fun _ => True) v3 x3_1) ∧ Aside0 (Below w.heap.size w w'))
 case atStart => exact ⟨(([] : List ByteArray)), (0), (by first | rfl | (simp; done) | (simp [*]; done)), H', ⟨Nat.le_refl _⟩, ⟨by first | exact Kd.R_nil _ _ _ _ _ | exact Kd.N_nil _ _ _ _ _ | exact Kd.V_nil _ _ _ _ _ | exact Kd.Q_nil _ _ _ _ _ | exact Kd.S_nil _ _ _ _ _⟩, ⟨by repeat (with_reducible first | exact HB.out | apply bA | apply bN | apply bD)⟩⟩
 clear H'
 obtain ⟨x3_1, x10_1, rfl, HA, HK1, HO_3, HB⟩ := hrel
 obtain _ | k1 := gk
 · exact absurd HA.out (by simp [impl_lacking.l0])
 have H := HA.out
 clear HA
 simp only [impl_lacking.l0] at H
 by_cases c2 : x10_1 < (l0.length : Int)
 · rw [if_pos c2] at H
   have c2b0 : decide (x10_1 < (l0.length : Int)) = true := decide_eq_true c2
   clear c2
   by_cases c3 : 0 ≤ x10_1
   · rw [if_pos c3] at H
     have c3b0 : decide (0 ≤ x10_1) = true := decide_eq_true c3
     clear c3
     by_cases c4 : x10_1 < (l0.length : Int)
     · rw [if_pos c4] at H
       have c4b0 : decide (x10_1 < (l0.length : Int)) = true := decide_eq_true c4
       clear c4
       replace H := Option.bind_eq_some_iff.mp H
       obtain ⟨t414, A50, H⟩ := H
       replace H : (impl_lacking.l1 k1 l0 x3_1 l0 (l0.length : Int) x10_1 t414 (t414.length : Int) 0) = some r := H
       have A5 := aM A50; clear A50
       have H' := aM H
       clear H
       have p412 : 0 ≤ (x10_1 : Int) := oD (by first | with_reducible assumption | assumption)
       have q412 : x10_1 < (l0.length : Int) := oD (by first | with_reducible assumption | assumption)
       obtain ⟨ad412, A412_2, c412_2, e412, hx412_0, hx412_1, hx412_2, hl412_2, hi412_2⟩ := at_T52 HR0.out x10_1 p412 q412
       cases e412
       replace hx412_0 := (HB.out.cell (World.block_lt_of_cell? w _ hx412_0)).trans hx412_0
       replace hx412_1 := (HB.out.cell (World.block_lt_of_cell? w _ hx412_1)).trans hx412_1
       replace hx412_2 := (HB.out.cell (World.block_lt_of_cell? w _ hx412_2)).trans hx412_2
       have HR412_2 := aM hi412_2; have HC412_2 := aM hl412_2; clear hi412_2 hl412_2; replace p412 := eq_true p412; replace q412 := eq_true q412
       go_wp2_with (first | ((with_reducible refine gate_dst (N := 5) rfl ?_); refine box_event ?hg (N := 5) ?hd (cs := #[.string (⟨#[]⟩ : ByteArray), .bool false, .slice none 0 0]) (t := 52) ?hr ?_; (case hd => rfl); (case hg => rfl); (case hr => first | (go_simp; done) | (go_simp; rfl)); intro gb413 hg w6 hbox hb; have n0_ := aM (Kd.R_below (by (with_reducible repeat (first | apply Ra | apply Rn | apply Rd)); exact HO_3.out) hb); have n1_ := aM (below_step (by repeat (with_reducible first | exact HB.out | apply bA | apply bN | apply bD)) hb); have n2_ := aM (hbox); have n3_ := aM ((by rw [hg]; exact (below_size (by repeat (with_reducible first | exact HB.out | apply bA | apply bN | apply bD))) : w.heap.size ≤ gb413)); have n4_ := aM ((by rw [hg]; exact (below_size (by repeat (with_reducible first | exact HB.out | apply bA | apply bN | apply bD))) : w.heap.size ≤ gb413)); clear HO_3 HB; have HO_3 := n0_; have HB := n1_; have BK413 := n2_; have GW413 := n3_; have GE413 := n4_; clear n0_ n1_ n2_ n3_ n4_ hb hbox hg; have hcz7_0 : w6.cell? ⟨gb413, 0, none⟩ = some (.string (⟨#[]⟩ : ByteArray)) := (blk_cell BK413.out 0).trans rfl; have hcz7_1 : w6.cell? ⟨gb413, 1, none⟩ = some (.bool false) := (blk_cell BK413.out 1).trans rfl; have hcz7_2 : w6.cell? ⟨gb413, 2, none⟩ = some (.slice none 0 0) := (blk_cell BK413.out 2).trans rfl; have hfz7_0 := blk_frozen BK413.out 0; have hfz7_1 := blk_frozen BK413.out 1; have hfz7_2 := blk_frozen BK413.out 2) | ((with_reducible refine gate_callee (f := 81) rfl ?_); refine goesL_ (some 15) rfl rfl Try.func81 (by kernel_rfl) rfl #[.agg #[.string ((rd_T52 l0 x10_1).f0), .bool ((rd_T52 l0 x10_1).f1), .slice A412_2 ((rd_T52 l0 x10_1).f2).length c412_2]] rfl (by (try simp only [List.map_toArray, List.map_cons, List.map_nil]); first | done | rfl) ?_; (with_reducible refine (impl_Fun_refs.calls k1 ((rd_T52 l0 x10_1).f0) ((rd_T52 l0 x10_1).f1) _ _ ((rd_T52 l0 x10_1).f2) t414 _ ?side1 ?side2 A5.out).mono ?_); (case side1 => exact Kd.C_below HR412_2.out (by repeat (with_reducible first | exact HB.out | apply bA | apply bN | apply bD | refine below_set ?_ GE413.out))); (case side2 => exact HC412_2.out); rintro e w8 ⟨v415, rfl, ho0, hb⟩; refine ⟨_, rfl, ?_⟩; have n0_ := aM (Kd.R_elder' (by (with_reducible repeat (first | apply Ra | apply Rn | apply Rd)); exact (Kd.R_mono (Kd.R_far (p := ⟨gb413, 2, none⟩) (Kd.R_far (p := ⟨gb413, 1, none⟩) (Kd.R_far (p := ⟨gb413, 0, none⟩) (Kd.R_types HO_3.out BK413.out (by decide)) (fun _ hk => hk.2) (.string ((rd_T52 l0 x10_1).f0))) (fun _ hk => hk.2) (.bool ((rd_T52 l0 x10_1).f1))) (fun _ hk => hk.2) (.slice A412_2 ((rd_T52 l0 x10_1).f2).length c412_2)) (fun _ h_ => h_.1))) (Kd.R_base ho0) hb); have n1_ := aM (Kd.R_lower (Kd.R_new' ho0 (Kd.R_lt (by (with_reducible repeat (first | apply Ra | apply Rn | apply Rd)); exact (Kd.R_mono (Kd.R_far (p := ⟨gb413, 2, none⟩) (Kd.R_far (p := ⟨gb413, 1, none⟩) (Kd.R_far (p := ⟨gb413, 0, none⟩) (Kd.R_types HO_3.out BK413.out (by decide)) (fun _ hk => hk.2) (.string ((rd_T52 l0 x10_1).f0))) (fun _ hk => hk.2) (.bool ((rd_T52 l0 x10_1).f1))) (fun _ hk => hk.2) (.slice A412_2 ((rd_T52 l0 x10_1).f2).length c412_2)) (fun _ h_ => h_.1))))) (below_size (by repeat (with_reducible first | exact HB.out | apply bA | apply bN | apply bD | refine below_set ?_ GE413.out)))); have n2_ := aM (blk_below (g := gb413) (o := .cells #[.string ((rd_T52 l0 x10_1).f0), .bool ((rd_T52 l0 x10_1).f1), .slice A412_2 ((rd_T52 l0 x10_1).f2).length c412_2] 52 (0, 0)) (by refine blk_put (cs := #[.string ((rd_T52 l0 x10_1).f0), .bool ((rd_T52 l0 x10_1).f1), .slice none 0 0]) ?_ 2 _ rfl; refine blk_put (cs := #[.string ((rd_T52 l0 x10_1).f0), .bool false, .slice none 0 0]) ?_ 1 _ rfl; refine blk_put (cs := #[.string (⟨#[]⟩ : ByteArray), .bool false, .slice none 0 0]) ?_ 0 _ rfl; exact BK413.out) hb); have n3_ := aM (below_step (by repeat (with_reducible first | exact HB.out | apply bA | apply bN | apply bD | refine below_set ?_ GE413.out)) hb); clear HO_3 BK413 HB; have HO_3 := n0_; have HO416 := n1_; have BK413 := n2_; have HB := n3_; clear n0_ n1_ n2_ n3_; (try clear ho0); obtain ⟨Ao9, co9, eo9⟩ := Kd.R_slice HO416.out; subst eo9))
       go_loopg [3, 17] k1 (fun kq v3 v17 w' => ∃ (x3_2 : List ByteArray) (x17_2 : Int), v17 = .int .i64 x17_2 ∧ Aside0 (impl_lacking.l1 kq l0 x3_2 l0 (l0.length : Int) x10_1 t414 (t414.length : Int) x17_2 = some r) ∧ Aside0 (kq ≤ k1) ∧ Aside0 (Kd.R Kd.string 9 w' w.heap.size (fun k_ => some k_ ≠ ((.slice Ao9 t414.length co9) : Value).ownBlock) v3 x3_2) ∧ Aside0 (Kd.R Kd.string 9 w' w.heap.size (fun k_ => some k_ ≠ (v3 : Value).ownBlock) (.slice Ao9 t414.length co9) t414) ∧ Aside0 (w'.heap[gb413]? = some (.cells #[.string ((rd_T52 l0 x10_1).f0), .bool ((rd_T52 l0 x10_1).f1), (.slice A412_2 ((rd_T52 l0 x10_1).f2).length c412_2)] 52 (0, 0))) ∧ Aside0 (Below w.heap.size w w'))
       case atStart => exact ⟨(x3_1), (0), (by first | rfl | (simp; done) | (simp [*]; done)), H', ⟨Nat.le_refl _⟩, ⟨by (with_reducible repeat (first | apply Ra | apply Rn | apply Rd)); exact Kd.R_mono HO_3.out (fun _ hk => hk.2)⟩, ⟨by (with_reducible repeat (first | apply Ra | apply Rn | apply Rd)); exact Kd.R_mono HO416.out (fun _ hk => hk.2)⟩, ⟨by exact BK413.out⟩, ⟨by repeat (with_reducible first | exact HB.out | apply bA | apply bN | apply bD | refine below_set ?_ GE413.out)⟩⟩
       clear H'
       try clear c2; try clear c2b0; try clear p2; try clear c3; try clear c3b0; try clear c4; try clear c4b0; try clear p4; try clear q4; try clear hx4; try clear c6; try clear c8; try clear hcz7_0; try clear hcz7_1; try clear hcz7_2; try clear hfz7_0; try clear hfz7_1; try clear hfz7_2; try clear hx412_0; try clear hx412_1; try clear hx412_2; try clear p412; try clear q412
       obtain ⟨x3_2, x17_2, rfl, HA, HK2, HO_3, HO_15, BK413, HB⟩ := hrel
       obtain _ | k2 := gk
       · exact absurd HA.out (by simp [impl_lacking.l1])
       have H := HA.out
       clear HA
       simp only [impl_lacking.l1] at H
       by_cases c10 : x17_2 < (t414.length : Int)
       · rw [if_pos c10] at H
         have c10b0 : decide (x17_2 < (t414.length : Int)) = true := decide_eq_true c10
         clear c10
         by_cases c11 : 0 ≤ x17_2
         · rw [if_pos c11] at H
           have c11b0 : decide (0 ≤ x17_2) = true := decide_eq_true c11
           clear c11
           by_cases c12 : x17_2 < (t414.length : Int)
           · rw [if_pos c12] at H
             have c12b0 : decide (x17_2 < (t414.length : Int)) = true := decide_eq_true c12
             clear c12
             replace H := Option.bind_eq_some_iff.mp H
             obtain ⟨t418, A130, H⟩ := H
             replace H : (if t418 < 0 then (if x3_2.length < 8796093022208 then (impl_lacking.l1 k2 l0 (x3_2 ++ [rdOf ByteArray.empty t414 x17_2]) l0 (l0.length : Int) x10_1 t414 (t414.length : Int) (wrap64 (x17_2 + 1))) else (none)) else (impl_lacking.l1 k2 l0 x3_2 l0 (l0.length : Int) x10_1 t414 (t414.length : Int) (wrap64 (x17_2 + 1)))) = some r := H
             have A13 := aM A130; clear A130
             by_cases c14 : t418 < 0
             · rw [if_pos c14] at H
               have c14b0 : decide (t418 < 0) = true := decide_eq_true c14
               clear c14
               by_cases c15 : x3_2.length < 8796093022208
               · rw [if_pos c15] at H; have LMc15 := aM c15; clear c15
                 obtain ⟨y419, hy419⟩ : ∃ y_ : List ByteArray, y_ = (x3_2 ++ [rdOf ByteArray.empty t414 x17_2]) := ⟨_, rfl⟩
                 replace H : (impl_lacking.l1 k2 l0 y419 l0 (l0.length : Int) x10_1 t414 (t414.length : Int) (wrap64 (x17_2 + 1))) = some r := by first | (rw [hy419]; with_reducible exact H) | (have H2_ := (Option.bind_some _ _).symm.trans H; rw [hy419]; with_reducible exact H2_) | (have H2_ := (Option.bind_some _ _).symm.trans H; with_reducible exact H2_) | with_reducible exact H | (rw [hy419]; exact H) | exact H
                 have Ny419 := aM hy419; clear hy419
                 have H' := aM H
                 clear H
                 have p417 : 0 ≤ (x17_2 : Int) := oD (by first | with_reducible assumption | assumption)
                 have q417 : x17_2 < (t414.length : Int) := oD (by first | with_reducible assumption | assumption)
                 obtain ⟨ad417, e417, hx417_0⟩ := Kd.at_string (Kd.R_reads' HO_15.out).2.2 x17_2 p417 q417
                 cases e417
                 replace p417 := eq_true p417; replace q417 := eq_true q417
                 go_wp2_with (first | ((with_reducible refine gate_callee (f := 82) rfl ?_); refine goesL_ (some 23) rfl rfl Try.func82 (by kernel_rfl) rfl #[.slice (some ad412) l0.length c0, .string (rdOf ByteArray.empty t414 x17_2)] rfl (by (try simp only [List.map_toArray, List.map_cons, List.map_nil]); first | done | rfl) ?_; (with_reducible refine (impl_find.calls _ _ l0 (rdOf ByteArray.empty t414 x17_2) t418 _ ?side1 ?side2 A13.out).mono ?_); (case side1 => repeat (first | exact (Kd.C_below HR0.out HB.out) | (with_reducible first | refine Ca ?_ _ | refine Cn ?_ _ | refine Cd ?_))); (case side2 => exact HC0.out); rintro e w16 ⟨rfl, hb⟩; refine ⟨_, rfl, ?_⟩; have n0_ := aM (Kd.R_below (by (with_reducible repeat (first | apply Ra | apply Rn | apply Rd)); exact HO_3.out) hb); have n1_ := aM (Kd.R_below (by (with_reducible repeat (first | apply Ra | apply Rn | apply Rd)); exact HO_15.out) hb); have n2_ := aM (blk_below (g := gb413) (o := .cells #[.string ((rd_T52 l0 x10_1).f0), .bool ((rd_T52 l0 x10_1).f1), .slice A412_2 ((rd_T52 l0 x10_1).f2).length c412_2] 52 (0, 0)) (by exact BK413.out) hb); have n3_ := aM (below_step (by repeat (with_reducible first | exact HB.out | apply bA | apply bN | apply bD | refine below_set ?_ GE413.out)) hb); clear HO_3 HO_15 BK413 HB; have HO_3 := n0_; have HO_15 := n1_; have BK413 := n2_; have HB := n3_; clear n0_ n1_ n2_ n3_) | ((with_reducible refine gate_builtin (b := .append) (xs := #[.tmp 25, .tmp 27]) rfl ?_); at_builtin; refine Kd.R_append Kd.string (w0 := w) w.heap.size rfl (.tmp 25) (.tmp 27) 24 9 (.string ⟨#[]⟩) 16 rfl Try.underlying24 info9 rfl (by decide) (by omega) u3 x3_2 (rdOf ByteArray.empty t414 x17_2) [.string (rdOf ByteArray.empty t414 x17_2)] (fun k_ => some k_ ≠ (.slice (some ad417) t414.length co9 : Value).ownBlock) (fun _ => False) rfl rfl ?aP (fun _ hk => hk.elim) ?aF ?aO ?aB ?aS ?aL ?_; (case aP => exact rfl); (case aB => exact (by repeat (with_reducible first | exact HB.out | apply bA | apply bN | apply bD | refine below_set ?_ GE413.out))); (case aF => exact (fun k_ hk => Kd.fresh' (Kd.R_lt (by (with_reducible repeat (first | apply Ra | apply Rn | apply Rd)); exact HO_15.out)) k_ hk)); (case aO => exact (by (with_reducible repeat (first | apply Ra | apply Rn | apply Rd)); exact HO_3.out)); (case aS => exact (below_size (by repeat (with_reducible first | exact HB.out | apply bA | apply bN | apply bD | refine below_set ?_ GE413.out)))); (case aL => have := LMc15.out; omega); intro v420 w17 ho hb hg hat; rw [← Ny419.out] at ho; have n0_ := aM (Kd.R_after (ok := (fun _ => True)) (by (with_reducible repeat (first | apply Ra | apply Rn | apply Rd)); exact Kd.R_mono HO_15.out (fun _ hk => ⟨trivial, hk⟩)) hg hat); have n1_ := aM (blk_grown (g := gb413) (o := .cells #[.string ((rd_T52 l0 x10_1).f0), .bool ((rd_T52 l0 x10_1).f1), .slice A412_2 ((rd_T52 l0 x10_1).f2).length c412_2] 52 (0, 0)) (by exact BK413.out) hg (Kd.R_ne HO_3.out BK413.out (by decide))); have n2_ := aM (hb); have n3_ := aM (ho); clear HO_15 BK413 HB HO_3; have HO_15 := n0_; have BK413 := n1_; have HB := n2_; have HO421 := n3_; clear n0_ n1_ n2_ n3_ ho hb hg hat))
                 go_roundg k2
                 case measure => have := HK1.out; have := HK2.out; omega
                 case rel => exact ⟨(y419), (wrap64 (x17_2 + 1)), (by first | rfl | (simp; done) | (simp [*]; done)), H', ⟨by have := HK1.out; have := HK2.out; omega⟩, ⟨by (with_reducible repeat (first | apply Ra | apply Rn | apply Rd)); exact HO421.out⟩, ⟨by (with_reducible repeat (first | apply Ra | apply Rn | apply Rd)); exact Kd.R_mono HO_15.out (fun _ hk => hk.2)⟩, ⟨by exact BK413.out⟩, ⟨by repeat (with_reducible first | exact HB.out | apply bA | apply bN | apply bD | refine below_set ?_ GE413.out)⟩⟩
               rw [if_neg c15] at H
               exact absurd H (by simp)
             rw [if_neg c14] at H
             have c14b0 : decide (t418 < 0) = false := decide_eq_false c14
             clear c14
             have H' := aM H
             clear H
             have p417 : 0 ≤ (x17_2 : Int) := oD (by first | with_reducible assumption | assumption)
             have q417 : x17_2 < (t414.length : Int) := oD (by first | with_reducible assumption | assumption)
             obtain ⟨ad417, e417, hx417_0⟩ := Kd.at_string (Kd.R_reads' HO_15.out).2.2 x17_2 p417 q417
             cases e417
             replace p417 := eq_true p417; replace q417 := eq_true q417
             go_wp2_with (first | ((with_reducible refine gate_callee (f := 82) rfl ?_); refine goesL_ (some 23) rfl rfl Try.func82 (by kernel_rfl) rfl #[.slice (some ad412) l0.length c0, .string (rdOf ByteArray.empty t414 x17_2)] rfl (by (try simp only [List.map_toArray, List.map_cons, List.map_nil]); first | done | rfl) ?_; (with_reducible refine (impl_find.calls _ _ l0 (rdOf ByteArray.empty t414 x17_2) t418 _ ?side1 ?side2 A13.out).mono ?_); (case side1 => repeat (first | exact (Kd.C_below HR0.out HB.out) | (with_reducible first | refine Ca ?_ _ | refine Cn ?_ _ | refine Cd ?_))); (case side2 => exact HC0.out); rintro e w18 ⟨rfl, hb⟩; refine ⟨_, rfl, ?_⟩; have n0_ := aM (Kd.R_below (by (with_reducible repeat (first | apply Ra | apply Rn | apply Rd)); exact HO_3.out) hb); have n1_ := aM (Kd.R_below (by (with_reducible repeat (first | apply Ra | apply Rn | apply Rd)); exact HO_15.out) hb); have n2_ := aM (blk_below (g := gb413) (o := .cells #[.string ((rd_T52 l0 x10_1).f0), .bool ((rd_T52 l0 x10_1).f1), .slice A412_2 ((rd_T52 l0 x10_1).f2).length c412_2] 52 (0, 0)) (by exact BK413.out) hb); have n3_ := aM (below_step (by repeat (with_reducible first | exact HB.out | apply bA | apply bN | apply bD | refine below_set ?_ GE413.out)) hb); clear HO_3 HO_15 BK413 HB; have HO_3 := n0_; have HO_15 := n1_; have BK413 := n2_; have HB := n3_; clear n0_ n1_ n2_ n3_))
             go_roundg k2
             case measure => have := HK1.out; have := HK2.out; omega
             case rel => exact ⟨(x3_2), (wrap64 (x17_2 + 1)), (by first | rfl | (simp; done) | (simp [*]; done)), H', ⟨by have := HK1.out; have := HK2.out; omega⟩, ⟨by (with_reducible repeat (first | apply Ra | apply Rn | apply Rd)); exact HO_3.out⟩, ⟨by (with_reducible repeat (first | apply Ra | apply Rn | apply Rd)); exact HO_15.out⟩, ⟨by exact BK413.out⟩, ⟨by repeat (with_reducible first | exact HB.out | apply bA | apply bN | apply bD | refine below_set ?_ GE413.out)⟩⟩
           rw [if_neg c12] at H
           exact absurd H (by simp)
         rw [if_neg c11] at H
         exact absurd H (by simp)
       rw [if_neg c10] at H
       have c10b0 : decide (x17_2 < (t414.length : Int)) = false := decide_eq_false c10
       clear c10
       have H' := aM H
       clear H
       go_wp2
       go_roundg k2
       case measure => have := HK1.out; have := HK2.out; omega
       case rel => exact ⟨(x3_2), (wrap64 (x10_1 + 1)), (by first | rfl | (simp; done) | (simp [*]; done)), H', ⟨by have := HK1.out; have := HK2.out; omega⟩, ⟨by (with_reducible repeat (first | apply Ra | apply Rn | apply Rd)); exact Kd.R_mono HO_3.out (fun _ hk => trivial)⟩, ⟨by repeat (with_reducible first | exact HB.out | apply bA | apply bN | apply bD | refine below_set ?_ GE413.out)⟩⟩
     rw [if_neg c4] at H
     exact absurd H (by simp)
   rw [if_neg c3] at H
   exact absurd H (by simp)
 rw [if_neg c2] at H
 have c2b0 : decide (x10_1 < (l0.length : Int)) = false := decide_eq_false c2
 clear c2
 replace H := Option.bind_eq_some_iff.mp H
 obtain ⟨t409, A190, H⟩ := H
 replace H : (some t409) = some r := H
 have A19 := aM A190; clear A190
 obtain rfl := Option.some.inj H
 obtain ⟨Ao20, co20, eo20⟩ := Kd.R_slice HO_3.out
 subst eo20
 go_wp2_with (first | ((with_reducible refine gate_callee (f := 118) rfl ?_); refine goesL_ (some 32) rfl rfl Try.func118 (by kernel_rfl) rfl #[.slice Ao20 x3_1.length co20] rfl (by (try simp only [List.map_toArray, List.map_cons, List.map_nil]); first | done | rfl) ?_; (with_reducible refine (impl_ordered.calls (fun k_ => some k_ = (.slice Ao20 x3_1.length co20 : Value).ownBlock) (.slice Ao20 x3_1.length co20) x3_1 t409 w _ ?side1 ?side2 A19.out).mono ?_); (case side1 => repeat (with_reducible first | exact HB.out | apply bA | apply bN | apply bD)); (case side2 => exact Kd.R_tight rfl HO_3.out); rintro e w21 ⟨v410, rfl, ho0, hb, hkp⟩; refine ⟨_, rfl, ?_⟩; have n0_ := aM (Kd.R_mono (ok' := fun k_ => True) ho0 (fun k_ hk_ => trivial)); have n1_ := aM (hb); clear HB HO_3; have HO411 := n0_; have HB := n1_; clear n0_ n1_; (try clear hkp); (try clear ho0)))
 go_ret
 exact ⟨_, by first | rfl | (simp [*, errW_none, errW_some] <;> rfl), by (with_reducible repeat (first | apply Ra | apply Rn | apply Rd)); exact HO411.out, by repeat (with_reducible first | exact HB.out | apply bA | apply bN | apply bD)⟩
def impl_KeepOk.f (k : Nat) (l0 : List (S52)) : Option (Bool) := (impl_in.f (l0.length : Int) 1 40).bind fun t758 => (if t758 = true then ((impl_funsOk.f k l0).bind fun t759 => (if t759 = true then ((impl_lacking.f k l0).bind fun t760 => (some ((t760.length : Int) == 0))) else (some false))) else (some false))
set_option maxHeartbeats 8000000 in
set_option maxRecDepth 100000 in
theorem impl_KeepOk.calls (k : Nat) (A0 : Option Addr) (c0 : Nat) (l0 : List (S52)) (r : Bool) (w : World) (hr0 : Kd.C k52 w A0 l0.length l0) (hc0 : l0.length ≤ c0) (h : impl_KeepOk.f k l0 = some r) :
    Calls Try.prog 32 #[.slice A0 l0.length c0] w fun e w' => e = .returned (.bool r) ∧ Below w.heap.size w w' := by
 have HR0 := aM hr0; have HC0 := aM hc0; clear hr0 hc0
 have HB := aM (Below.refl w.heap.size w)
 have H : ((impl_in.f (l0.length : Int) 1 40).bind fun t758 => (if t758 = true then ((impl_funsOk.f k l0).bind fun t759 => (if t759 = true then ((impl_lacking.f k l0).bind fun t760 => (some ((t760.length : Int) == 0))) else (some false))) else (some false))) = some r := h
 clear h
 replace H := Option.bind_eq_some_iff.mp H
 obtain ⟨t758, A20, H⟩ := H
 replace H : (if t758 = true then ((impl_funsOk.f k l0).bind fun t759 => (if t759 = true then ((impl_lacking.f k l0).bind fun t760 => (some ((t760.length : Int) == 0))) else (some false))) else (some false)) = some r := H
 have A2 := aM A20; clear A20
 by_cases c3 : t758 = true
 · subst c3
   have H1 : ((impl_funsOk.f k l0).bind fun t759 => (if t759 = true then ((impl_lacking.f k l0).bind fun t760 => (some ((t760.length : Int) == 0))) else (some false))) = some r := by rw [if_pos rfl] at H; exact H
   clear H
   have H := H1
   clear H1
   replace H := Option.bind_eq_some_iff.mp H
   obtain ⟨t759, A40, H⟩ := H
   replace H : (if t759 = true then ((impl_lacking.f k l0).bind fun t760 => (some ((t760.length : Int) == 0))) else (some false)) = some r := H
   have A4 := aM A40; clear A40
   by_cases c5 : t759 = true
   · subst c5
     have H1 : ((impl_lacking.f k l0).bind fun t760 => (some ((t760.length : Int) == 0))) = some r := by rw [if_pos rfl] at H; exact H
     clear H
     have H := H1
     clear H1
     replace H := Option.bind_eq_some_iff.mp H
     obtain ⟨t760, A60, H⟩ := H
     replace H : (some ((t760.length : Int) == 0)) = some r := H
     have A6 := aM A60; clear A60
     obtain rfl := Option.some.inj H
     go_enter Try.func32, Try.ntmps32
     go_wp2_with (first | ((with_reducible refine gate_callee (f := 75) rfl ?_); refine goesL_ (some 5) rfl rfl Try.func75 (by kernel_rfl) rfl #[.int .i64 (l0.length : Int), .int .i64 1, .int .i64 40] rfl (by (try simp only [List.map_toArray, List.map_cons, List.map_nil]); first | done | rfl) ?_; (with_reducible refine (impl_in.calls (l0.length : Int) 1 40 true _ A2.out).mono ?_); rintro e w' ⟨rfl, ⟨nd, rfl⟩⟩; refine ⟨_, rfl, ?_⟩) | (go_at_call 76; (with_reducible refine (impl_funsOk.calls k _ _ l0 true _ ?side1 ?side2 A4.out).mono ?_); (case side1 => repeat (first | exact HR0.out | (with_reducible first | refine Ca ?_ _ | refine Cn ?_ _ | refine Cd ?_))); (case side2 => exact HC0.out); rintro e w7 ⟨rfl, hb⟩; have n0_ := aM (below_step (by repeat (with_reducible first | exact HB.out | apply bA | apply bN | apply bD)) hb); clear HB; have HB := n0_; clear n0_) | (go_at_call 60; (with_reducible refine (impl_lacking.calls k _ _ l0 t760 _ ?side1 ?side2 A6.out).mono ?_); (case side1 => repeat (first | exact (Kd.C_below HR0.out HB.out) | (with_reducible first | refine Ca ?_ _ | refine Cn ?_ _ | refine Cd ?_))); (case side2 => exact HC0.out); rintro e w8 ⟨v761, rfl, ho0, hb⟩; have n0_ := aM (Kd.R_lower ho0 (below_size (by repeat (with_reducible first | exact HB.out | apply bA | apply bN | apply bD)))); have n1_ := aM (below_step (by repeat (with_reducible first | exact HB.out | apply bA | apply bN | apply bD)) hb); clear HB; have HO762 := n0_; have HB := n1_; clear n0_ n1_; (try clear ho0); obtain ⟨Ao9, co9, eo9⟩ := Kd.R_slice HO762.out; subst eo9))
     go_ret
     exact ⟨by first | rfl | (simp [*, errW_none, errW_some] <;> rfl), by repeat (with_reducible first | exact HB.out | apply bA | apply bN | apply bD)⟩
   replace c5 := Bool.eq_false_iff.mpr c5
   subst c5
   have H1 : (some false) = some r := by rw [if_neg (show ¬ (false = true) by decide)] at H; exact H
   clear H
   have H := H1
   clear H1
   obtain rfl := Option.some.inj H
   go_enter Try.func32, Try.ntmps32
   go_wp2_with (first | ((with_reducible refine gate_callee (f := 75) rfl ?_); refine goesL_ (some 5) rfl rfl Try.func75 (by kernel_rfl) rfl #[.int .i64 (l0.length : Int), .int .i64 1, .int .i64 40] rfl (by (try simp only [List.map_toArray, List.map_cons, List.map_nil]); first | done | rfl) ?_; (with_reducible refine (impl_in.calls (l0.length : Int) 1 40 true _ A2.out).mono ?_); rintro e w' ⟨rfl, ⟨nd, rfl⟩⟩; refine ⟨_, rfl, ?_⟩) | (go_at_call 76; (with_reducible refine (impl_funsOk.calls k _ _ l0 false _ ?side1 ?side2 A4.out).mono ?_); (case side1 => repeat (first | exact HR0.out | (with_reducible first | refine Ca ?_ _ | refine Cn ?_ _ | refine Cd ?_))); (case side2 => exact HC0.out); rintro e w10 ⟨rfl, hb⟩; have n0_ := aM (below_step (by repeat (with_reducible first | exact HB.out | apply bA | apply bN | apply bD)) hb); clear HB; have HB := n0_; clear n0_))
   go_ret
   exact ⟨by first | rfl | (simp [*, errW_none, errW_some] <;> rfl), by repeat (with_reducible first | exact HB.out | apply bA | apply bN | apply bD)⟩
 replace c3 := Bool.eq_false_iff.mpr c3
 subst c3
 have H1 : (some false) = some r := by rw [if_neg (show ¬ (false = true) by decide)] at H; exact H
 clear H
 have H := H1
 clear H1
 obtain rfl := Option.some.inj H
 go_enter Try.func32, Try.ntmps32
 go_wp2_with (first | ((with_reducible refine gate_callee (f := 75) rfl ?_); refine goesL_ (some 5) rfl rfl Try.func75 (by kernel_rfl) rfl #[.int .i64 (l0.length : Int), .int .i64 1, .int .i64 40] rfl (by (try simp only [List.map_toArray, List.map_cons, List.map_nil]); first | done | rfl) ?_; (with_reducible refine (impl_in.calls (l0.length : Int) 1 40 false _ A2.out).mono ?_); rintro e w' ⟨rfl, ⟨nd, rfl⟩⟩; refine ⟨_, rfl, ?_⟩))
 go_ret
 exact ⟨by first | rfl | (simp [*, errW_none, errW_some] <;> rfl), by repeat (with_reducible first | exact HB.out | apply bA | apply bN | apply bD)⟩
end Go.Proofs.Ytppmalfpggkpdaa.P
namespace Go.Proofs.Ytppmalfpggkpdaa.L
open Go.RowKit Go.Proofs.YtppmalfpggkpdaaW.PrintWords Go.Proofs.YtppmalfpggkpdaaW.PrintLast Go.Proofs.YtppmalfpggkpdaaW.PrintMore Go.Proofs.Ytppmalfpggkpdaa.P
def runS {α σ β : Type} (f : Nat → α → σ → σ ⊕ β) (E : σ → β) : List α → Nat → σ → β
  | [], _, s => E s
  | x :: l, i, s => match f i x s with
    | .inl s' => runS f E l (i + 1) s'
    | .inr r => r
theorem loop_run {α σ β : Type} (f : Nat → α → σ → σ ⊕ β) (E : Nat → σ → β) (I : Nat → σ → Prop) (d : α) (l : List α) (hn : l.length ≤ 9223372036854775806) (L : Nat → σ → Int → β) (K : Nat)
    (hS : ∀ (k i : Nat) (s : σ), K ≤ k → i < l.length → I i s → L (k + 1) s (i : Int) = match f i (l.getD i d) s with | .inl s' => L k s' (wrap64 ((i : Int) + 1)) | .inr r => r)
    (hI : ∀ (i : Nat) (s s' : σ), i < l.length → I i s → f i (l.getD i d) s = .inl s' → I (i + 1) s')
    (hE : ∀ (k : Nat) (s : σ), K ≤ k → I l.length s → L (k + 1) s (l.length : Int) = E k s) (k : Nat) (hk : K + l.length < k) (s : σ) (h0 : I 0 s) : L k s 0 = runS f (E (k - l.length - 1)) l 0 s := by
  have key : ∀ (n k i : Nat) (s : σ), i + n = l.length → K + n < k → I i s → L k s (i : Int) = runS f (E (k - n - 1)) (l.drop i) i s := by
    intro n
    induction n with
    | zero =>
      intro k i s hi hk hs
      obtain ⟨k, rfl, _⟩ := succ_of hk
      have : i = l.length := by omega
      subst this
      rw [hE k s (by omega) hs, List.drop_length]
      rfl
    | succ n ih =>
      intro k i s hi hk hs
      obtain ⟨k, rfl, _⟩ := succ_of hk
      rw [hS k i s (by omega) (by omega) hs, drop_getD l d i (by omega)]
      simp only [runS]
      cases hf : f i (l.getD i d) s with
      | inr r => rfl
      | inl s' =>
        simp only
        rw [wrap_id (by omega) (by omega)]
        have h2 := ih k (i + 1) s' (by omega) (by omega) (hI i s s' (by omega) hs hf)
        rw [show k + 1 - (n + 1) - 1 = k - n - 1 by omega, ← h2]
        rfl
  have h := key l.length k 0 s (by omega) hk h0
  simpa using h
theorem loop_var {α σ β : Type} (f : Nat → α → σ → σ ⊕ β) (E : σ → β) (I : Nat → σ → Prop) (d : α) (l : List α) (hn : l.length ≤ 9223372036854775806) (L : Nat → σ → Int → β) (K c : Nat)
    (hS : ∀ (k i : Nat) (s : σ), K ≤ k → i < l.length → I i s → match f i (l.getD i d) s with
      | .inl s' => I (i + 1) s' ∧ ∃ k', k ≤ k' + c ∧ L (k + 1) s (i : Int) = L k' s' (wrap64 ((i : Int) + 1))
      | .inr r => L (k + 1) s (i : Int) = r)
    (hE : ∀ (k : Nat) (s : σ), K ≤ k → I l.length s → L (k + 1) s (l.length : Int) = E s) (k : Nat) (hk : K + l.length * (c + 1) < k) (s : σ) (h0 : I 0 s) : L k s 0 = runS f E l 0 s := by
  have key : ∀ (n k i : Nat) (s : σ), i + n = l.length → K + n * (c + 1) < k → I i s → L k s (i : Int) = runS f E (l.drop i) i s := by
    intro n
    induction n with
    | zero =>
      intro k i s hi hk hs
      obtain ⟨k, rfl, _⟩ := succ_of hk
      have : i = l.length := by omega
      subst this
      rw [hE k s (by omega) hs, List.drop_length]
      rfl
    | succ n ih =>
      intro k i s hi hk hs
      rw [Nat.succ_mul] at hk
      obtain ⟨k, rfl, _⟩ := succ_of hk
      have h := hS k i s (by omega) (by omega) hs
      rw [drop_getD l d i (by omega)]
      simp only [runS]
      cases hf : f i (l.getD i d) s with
      | inr r => rw [hf] at h; exact h
      | inl s' =>
        rw [hf] at h
        obtain ⟨h1, k', h2, h3⟩ := h
        simp only
        rw [h3, wrap_id (by omega) (by omega)]
        have h4 := ih k' (i + 1) s' (by omega) (by omega) h1
        rw [← h4]
        rfl
  have h := key l.length k 0 s (by omega) hk h0
  simpa using h
end Go.Proofs.Ytppmalfpggkpdaa.L
namespace Go.Proofs.Ytppmalfpggkpdaa.P
open Go.RowKit Go.Proofs.YtppmalfpggkpdaaW.PrintWords Go.Proofs.YtppmalfpggkpdaaW.PrintLast Go.Proofs.YtppmalfpggkpdaaW.PrintMore
attribute [local go_sem] max2_int min2_int max_two min_two max_three min_three max_four min_four
def impl_UnitOk.f (k : Nat) (l0 : List (S52)) : Option (Bool) := if (l0.length : Int) ≤ 5 then ((impl_funsOk.f k l0).bind fun t269 => (some t269)) else (some false)
def impl_UnitFind.f (k : Nat) (l0 : List (S52)) (a1 : ByteArray) : Option (Int) := (impl_UnitOk.f k l0).bind fun t808 => (if t808 = true then ((impl_find.f l0 a1).bind fun t809 => (some t809)) else (some (-1)))
end Go.Proofs.Ytppmalfpggkpdaa.P
