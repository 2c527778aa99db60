-- put together by squash.py
import Derived.Test.YtpckkkcaffhhnaaSqFnPickWants3
import Derived.Test.YtpckkkcaffhhnaaSqFnPickWants5
import Derived.Test.YtpckkkcaffhhnaaSqFnPickWants6
import Derived.Test.YtpckkkcaffhhnaaSqFnPickWants11
import Derived.Test.YtpckkkcaffhhnaaSqFnPickWants4
import Derived.Lib.RowBridge
import Derived.Sort.Walk0
set_option linter.unusedVariables false
set_option linter.unusedSimpArgs false

namespace Go.Proofs.Ytpckkkcaffhhnaa.P
open Go.RowKit Go.Proofs.YtpckkkcaffhhnaaW.PrintWords Go.Proofs.YtpckkkcaffhhnaaW.PrintLast Go.Proofs.YtpckkkcaffhhnaaW.PrintMore
attribute [local go_sem] max2_int min2_int max_two min_two max_three min_three max_four min_four
theorem less_leq : ∀ a b : List UInt8, (Op.bytesLess a b || a == b) = !(Op.bytesLess b a)
  | [], [] => rfl
  | [], _ :: _ => rfl
  | _ :: _, [] => rfl
  | a :: x, b :: y => by
    have ih := less_leq x y
    simp only [Op.bytesLess, List.cons_beq_cons]
    by_cases h1 : a < b
    · have h2 : ¬ b < a := fun h => absurd (UInt8.lt_trans h1 h) (UInt8.lt_irrefl a)
      have h3 : (b == a) = false := by rw [beq_eq_false_iff_ne]; rintro rfl; exact UInt8.lt_irrefl _ h1
      simp [h1, h2, h3]
    · by_cases h2 : b < a
      · have h3 : (a == b) = false := by rw [beq_eq_false_iff_ne]; rintro rfl; exact h1 h2
        simp [h1, h2, h3]
      · have h3 : a = b := UInt8.le_antisymm (UInt8.not_lt.mp h2) (UInt8.not_lt.mp h1)
        subst h3
        simp only [h1, decide_false, Bool.false_or, beq_self_eq_true, Bool.true_and]
        exact ih
theorem leq_string (t : TypeId) (a b : ByteArray) : binOp .leq t (.string a) (.string b) = pure (.bool !(Op.bytesLess b.toList a.toList)) := by
  rw [← less_leq]; simp [binOp, Op.stringOp]
attribute [local go_sem] leq_string
mutual
def laws_FnPickWants.j0 : Nat → List Int → Option (Bool)
  | 0, _ => none
  | k + 1, x0 => (spec_DrawPickWants.f k x0).bind fun t937 => ((impl_PickWants.f k t937).bind fun t940 => ((spec_PickWants.f k t937).bind fun t943 => ((spec_DrawPickSame.f k x0).bind fun bt946 => (if (t940.length : Int) = (t943.length : Int) then ((impl_PickSame.f bt946.1 bt946.2).bind fun t952 => ((spec_PickSame.f k bt946.1 bt946.2).bind fun t953 => (if (t952 != t953) = true then (laws_FnPickWants.j1 k t937 t940 t943 true) else ((impl_PickSame.f t937 t937).bind fun t954 => (laws_FnPickWants.j1 k t937 t940 t943 (!t954)))))) else (laws_FnPickWants.j1 k t937 t940 t943 true)))))
def laws_FnPickWants.j1 : Nat → List (List (S30)) → List ByteArray → List ByteArray → Bool → Option (Bool)
  | 0, _, _, _, _ => none
  | k + 1, x3, x4, x5, x45 => if x45 = true then (some false) else (laws_FnPickWants.j2 k x3 x4 x5)
def laws_FnPickWants.j2 : Nat → List (List (S30)) → List ByteArray → List ByteArray → Option (Bool)
  | 0, _, _, _ => none
  | k + 1, x3, x4, x5 => laws_FnPickWants.l0 k x3 x4 x5 0
def laws_FnPickWants.l0 : Nat → List (List (S30)) → List ByteArray → List ByteArray → Int → Option (Bool)
  | 0, _, _, _, _ => none
  | k + 1, x3, x4, x5, x8 => if x8 < (x4.length : Int) then (laws_FnPickWants.j4 k x3 x4 x5 x8) else (if (x3.length : Int) = 1 then (if 0 < (x3.length : Int) then ((impl_UnitWants.f k (rd_L13 x3 0)).bind fun t964 => (some ((x4.length : Int) == (t964.length : Int)))) else (none)) else (some true))
def laws_FnPickWants.j4 : Nat → List (List (S30)) → List ByteArray → List ByteArray → Int → Option (Bool)
  | 0, _, _, _, _ => none
  | k + 1, x3, x4, x5, x8 => if 0 ≤ x8 then (if x8 < (x4.length : Int) then ((impl_PickAt.f k x3 (rdOf ByteArray.empty x4 x8)).bind fun bt956 => (if bt956.2.2 = true then (laws_FnPickWants.j5 k x3 x4 x5 x8 true) else (if x8 < (x5.length : Int) then (if (rdOf ByteArray.empty x4 x8).toList = (rdOf ByteArray.empty x5 x8).toList then (if x8 > 0 then (if 0 ≤ (wrap64 (x8 - 1)) then (if (wrap64 (x8 - 1)) < (x4.length : Int) then (laws_FnPickWants.j5 k x3 x4 x5 x8 (!(Op.bytesLess ((rdOf ByteArray.empty x4 (wrap64 (x8 - 1))).toList) ((rdOf ByteArray.empty x4 x8).toList)))) else (none)) else (none)) else (laws_FnPickWants.j5 k x3 x4 x5 x8 false)) else (laws_FnPickWants.j5 k x3 x4 x5 x8 true)) else (none)))) else (none)) else (none)
def laws_FnPickWants.j5 : Nat → List (List (S30)) → List ByteArray → List ByteArray → Int → Bool → Option (Bool)
  | 0, _, _, _, _, _ => none
  | k + 1, x3, x4, x5, x8, x89 => if x89 = true then (some false) else (laws_FnPickWants.l0 k x3 x4 x5 (wrap64 (x8 + 1)))
end
def laws_FnPickWants.f (k : Nat) (l0 : List Int) : Option (Bool) := if (l0.length : Int) > 1048576 then (some true) else (laws_FnPickWants.j0 k l0)
set_option maxHeartbeats 8000000 in
set_option maxRecDepth 100000 in
theorem laws_FnPickWants.calls (k : Nat) (A0 : Option Addr) (c0 : Nat) (l0 : List Int) (r : Bool) (w : World) (hr0 : Kd.C (Kd.int .u8) w A0 l0.length l0) (hc0 : l0.length ≤ c0) (h : laws_FnPickWants.f k l0 = some r) :
    Calls Try.prog 10 #[.slice A0 l0.length c0] w fun e w' => e = .returned (.bool r) ∧ Below w.heap.size w w' := by
 have HR0 := aM hr0; have HC0 := aM hc0; clear hr0 hc0
 have HB := aM (Below.refl w.heap.size w)
 have H : (if (l0.length : Int) > 1048576 then (some true) else (laws_FnPickWants.j0 k l0)) = some r := h
 clear h; have HC2 := aM H; clear H
 go_enter Try.func10, Try.ntmps10
 go_upto_if 14 with (fail)
 skip
 go_cut [] (fun wc => ∃ (kq : Nat), Aside0 (laws_FnPickWants.j0 kq l0 = some r) ∧ Aside0 (kq ≤ k) ∧ Aside0 (Below w.heap.size w wc))
 case first =>
  have H := HC2.out
  clear HC2
  by_cases c3 : (l0.length : Int) > 1048576
  · rw [if_pos c3] at H
    have c3b0 : decide (1048576 < (l0.length : Int)) = true := decide_eq_true c3
    have c3b1 : decide (1048576 < l0.length) = true := decide_eq_true (by omega)
    clear c3
    (first | rw [c3b0] | (simp only [i64_w, i32_w]; rw [c3b0]) | (have cn_ := c3b0; simp only [bne] at cn_; rw [cn_]; clear cn_) | skip)
    obtain rfl := Option.some.inj H
    go_wp2
    skip
    go_ret
    exact ⟨by first | rfl | (simp [*, errW_none, errW_some] <;> rfl), by repeat (with_reducible first | exact HB.out | apply bA | apply bN | apply bD)⟩
  rw [if_neg c3] at H
  have c3b0 : decide (1048576 < (l0.length : Int)) = false := decide_eq_false c3
  have c3b1 : decide (1048576 < l0.length) = false := decide_eq_false (by omega)
  clear c3
  (first | rw [c3b0] | (simp only [i64_w, i32_w]; rw [c3b0]) | (have cn_ := c3b0; simp only [bne] at cn_; rw [cn_]; clear cn_) | skip)
  have H' := aM H
  clear H
  go_wp2
  skip
  go_meet
  case rel => exact ⟨_, H', ⟨by first | omega | exact Nat.le_refl _⟩, ⟨by repeat (with_reducible first | exact HB.out | apply bA | apply bN | apply bD)⟩⟩
 clear HC2; try clear c1; try clear p2; try clear c3; try clear c3b0; try clear c3b1
 obtain ⟨kq, HA, HJ1, HB⟩ := hcut
 obtain _ | kj1 := kq
 · exact absurd HA.out (by simp [laws_FnPickWants.j0])
 have H := HA.out
 clear HA
 simp only [laws_FnPickWants.j0] at H
 replace H := Option.bind_eq_some_iff.mp H
 obtain ⟨t937, A40, H⟩ := H
 replace H : ((impl_PickWants.f kj1 t937).bind fun t940 => ((spec_PickWants.f kj1 t937).bind fun t943 => ((spec_DrawPickSame.f kj1 l0).bind fun bt946 => (if (t940.length : Int) = (t943.length : Int) then ((impl_PickSame.f bt946.1 bt946.2).bind fun t952 => ((spec_PickSame.f kj1 bt946.1 bt946.2).bind fun t953 => (if (t952 != t953) = true then (laws_FnPickWants.j1 kj1 t937 t940 t943 true) else ((impl_PickSame.f t937 t937).bind fun t954 => (laws_FnPickWants.j1 kj1 t937 t940 t943 (!t954)))))) else (laws_FnPickWants.j1 kj1 t937 t940 t943 true))))) = some r := H
 have A4 := aM A40; clear A40
 replace H := Option.bind_eq_some_iff.mp H
 obtain ⟨t940, A50, H⟩ := H
 replace H : ((spec_PickWants.f kj1 t937).bind fun t943 => ((spec_DrawPickSame.f kj1 l0).bind fun bt946 => (if (t940.length : Int) = (t943.length : Int) then ((impl_PickSame.f bt946.1 bt946.2).bind fun t952 => ((spec_PickSame.f kj1 bt946.1 bt946.2).bind fun t953 => (if (t952 != t953) = true then (laws_FnPickWants.j1 kj1 t937 t940 t943 true) else ((impl_PickSame.f t937 t937).bind fun t954 => (laws_FnPickWants.j1 kj1 t937 t940 t943 (!t954)))))) else (laws_FnPickWants.j1 kj1 t937 t940 t943 true)))) = some r := H
 have A5 := aM A50; clear A50
 replace H := Option.bind_eq_some_iff.mp H
 obtain ⟨t943, A60, H⟩ := H
 replace H : ((spec_DrawPickSame.f kj1 l0).bind fun bt946 => (if (t940.length : Int) = (t943.length : Int) then ((impl_PickSame.f bt946.1 bt946.2).bind fun t952 => ((spec_PickSame.f kj1 bt946.1 bt946.2).bind fun t953 => (if (t952 != t953) = true then (laws_FnPickWants.j1 kj1 t937 t940 t943 true) else ((impl_PickSame.f t937 t937).bind fun t954 => (laws_FnPickWants.j1 kj1 t937 t940 t943 (!t954)))))) else (laws_FnPickWants.j1 kj1 t937 t940 t943 true))) = some r := H
 have A6 := aM A60; clear A60
 replace H := Option.bind_eq_some_iff.mp H
 obtain ⟨⟨t946, t949⟩, A70, H⟩ := H
 replace H : (if (t940.length : Int) = (t943.length : Int) then ((impl_PickSame.f t946 t949).bind fun t952 => ((spec_PickSame.f kj1 t946 t949).bind fun t953 => (if (t952 != t953) = true then (laws_FnPickWants.j1 kj1 t937 t940 t943 true) else ((impl_PickSame.f t937 t937).bind fun t954 => (laws_FnPickWants.j1 kj1 t937 t940 t943 (!t954)))))) else (laws_FnPickWants.j1 kj1 t937 t940 t943 true)) = some r := H
 have A7 := aM A70; clear A70; have HC8 := aM H; clear H
 go_upto_region 7 with (first | (go_at_call 39; (with_reducible refine (spec_DrawPickWants.calls kj1 _ _ l0 t937 _ ?side1 ?side2 A4.out).mono ?_); (case side1 => repeat (first | exact (Kd.C_below HR0.out HB.out) | (with_reducible first | refine Ca ?_ _ | refine Cn ?_ _ | refine Cd ?_))); (case side2 => exact HC0.out); rintro e w9 ⟨v938, rfl, ho0, hb⟩; have n0_ := aM (Kd.N_lower (Kd.N_mono (ok' := fun k_ => True) ho0 (fun k_ hk_ => trivial)) (below_size (by repeat (with_reducible first | exact HB.out | apply bA | apply bN | apply bD)))); have n1_ := aM (below_step (by repeat (with_reducible first | exact HB.out | apply bA | apply bN | apply bD)) hb); clear HB; have HO939 := n0_; have HB := n1_; clear n0_ n1_; (try clear ho0); obtain ⟨Ao10, co10, eo10⟩ := Kd.N_slice HO939.out; subst eo10) | (go_at_call 40; (with_reducible refine (impl_PickWants.calls kj1 _ _ t937 t940 _ ?side1 ?side2 A5.out).mono ?_); (case side1 => repeat (first | exact (Kd.N_reads' HO939.out).2.2 | (with_reducible first | refine Ca ?_ _ | refine Cn ?_ _ | refine Cd ?_))); (case side2 => exact (Kd.N_reads' HO939.out).2.1); rintro e w11 ⟨v941, rfl, ho0, hb⟩; have n0_ := aM (Kd.N_elder' (by (with_reducible repeat (first | apply Na | apply Nn | apply Nd)); exact HO939.out) (Kd.R_base ho0) hb); have n1_ := aM (Kd.R_lower ho0 (below_size (by repeat (with_reducible first | exact HB.out | apply bA | apply bN | apply bD)))); have n2_ := aM (below_step (by repeat (with_reducible first | exact HB.out | apply bA | apply bN | apply bD)) hb); clear HO939 HB; have HO939 := n0_; have HO942 := n1_; have HB := n2_; clear n0_ n1_ n2_; (try clear ho0)) | (go_at_call 41; (with_reducible refine (spec_PickWants.calls kj1 _ _ t937 t943 _ ?side1 ?side2 A6.out).mono ?_); (case side1 => repeat (first | exact (Kd.N_reads' HO939.out).2.2 | (with_reducible first | refine Ca ?_ _ | refine Cn ?_ _ | refine Cd ?_))); (case side2 => exact (Kd.N_reads' HO939.out).2.1); rintro e w12 ⟨v944, rfl, ho0, hb⟩; have n0_ := aM (Kd.N_elder' (by (with_reducible repeat (first | apply Na | apply Nn | apply Nd)); exact HO939.out) (Kd.R_base ho0) hb); have n1_ := aM (Kd.R_elder' (by (with_reducible repeat (first | apply Ra | apply Rn | apply Rd)); exact HO942.out) (Kd.R_base ho0) hb); have n2_ := aM (Kd.R_lower (Kd.R_new' ho0 (Kd.R_lt (by (with_reducible repeat (first | apply Ra | apply Rn | apply Rd)); exact HO942.out))) (below_size (by repeat (with_reducible first | exact HB.out | apply bA | apply bN | apply bD)))); have n3_ := aM (below_step (by repeat (with_reducible first | exact HB.out | apply bA | apply bN | apply bD)) hb); clear HO939 HO942 HB; have HO939 := n0_; have HO942 := n1_; have HO945 := n2_; have HB := n3_; clear n0_ n1_ n2_ n3_; (try clear ho0)) | (go_at_call 42; (with_reducible refine (spec_DrawPickSame.calls kj1 _ _ l0 t946 t949 _ ?side1 ?side2 A7.out).mono ?_); (case side1 => repeat (first | exact (Kd.C_below HR0.out HB.out) | (with_reducible first | refine Ca ?_ _ | refine Cn ?_ _ | refine Cd ?_))); (case side2 => exact HC0.out); rintro e w13 ⟨v947, v950, rfl, ho0, ho1, hb⟩; have n0_ := aM (Kd.N_elder' (by (with_reducible repeat (first | apply Na | apply Nn | apply Nd)); exact HO939.out) (Kd.N_base ho0) hb); have n1_ := aM (Kd.R_below (by (with_reducible repeat (first | apply Ra | apply Rn | apply Rd)); exact HO942.out) hb); have n2_ := aM (Kd.R_below (by (with_reducible repeat (first | apply Ra | apply Rn | apply Rd)); exact HO945.out) hb); have n3_ := aM (Kd.N_lower (Kd.N_mono (ok' := fun k_ => some k_ ≠ (.slice Ao10 t937.length co10 : Value).ownBlock ∧ some k_ ≠ (v941 : Value).ownBlock ∧ some k_ ≠ (v944 : Value).ownBlock) ho0 (fun k_ hk_ => ⟨(Kd.fresh' (Kd.N_lt (by (with_reducible repeat (first | apply Na | apply Nn | apply Nd)); exact HO939.out)) k_ hk_), (Kd.fresh' (Kd.R_lt (by (with_reducible repeat (first | apply Ra | apply Rn | apply Rd)); exact HO942.out)) k_ hk_), (Kd.fresh' (Kd.R_lt (by (with_reducible repeat (first | apply Ra | apply Rn | apply Rd)); exact HO945.out)) k_ hk_)⟩)) (below_size (by repeat (with_reducible first | exact HB.out | apply bA | apply bN | apply bD)))); have n4_ := aM (Kd.V_lower (Kd.V_mono (ok' := fun k_ => some k_ ≠ (v947 : Value).ownBlock ∧ some k_ ≠ (.slice Ao10 t937.length co10 : Value).ownBlock ∧ some k_ ≠ (v941 : Value).ownBlock ∧ some k_ ≠ (v944 : Value).ownBlock) ho1 (fun k_ hk_ => ⟨hk_.2, (Kd.fresh' (Kd.N_lt (by (with_reducible repeat (first | apply Na | apply Nn | apply Nd)); exact HO939.out)) k_ hk_.1), (Kd.fresh' (Kd.R_lt (by (with_reducible repeat (first | apply Ra | apply Rn | apply Rd)); exact HO942.out)) k_ hk_.1), (Kd.fresh' (Kd.R_lt (by (with_reducible repeat (first | apply Ra | apply Rn | apply Rd)); exact HO945.out)) k_ hk_.1)⟩)) (below_size (by repeat (with_reducible first | exact HB.out | apply bA | apply bN | apply bD)))); have n5_ := aM (below_step (by repeat (with_reducible first | exact HB.out | apply bA | apply bN | apply bD)) hb); clear HO939 HO942 HO945 HB; have HO939 := n0_; have HO942 := n1_; have HO945 := n2_; have HO948 := n3_; have HO951 := n4_; have HB := n5_; clear n0_ n1_ n2_ n3_ n4_ n5_; (try clear ho0); (try clear ho1)))
 skip
 (try simp only [Act.put, List.setIfInBounds_toArray, List.set_cons_zero, List.set_cons_succ])
 go_cut [45] (fun v45 wc => ∃ (kq : Nat) (x45_7 : Bool), v45 = .bool x45_7 ∧ Aside0 (laws_FnPickWants.j1 kq t937 t940 t943 x45_7 = some r) ∧ Aside0 (kq ≤ kj1) ∧ Aside0 (Kd.N (Kd.slice 30 k30) 23 wc w.heap.size (fun k_ => some k_ ≠ (v941 : Value).ownBlock ∧ some k_ ≠ (v944 : Value).ownBlock) (.slice Ao10 t937.length co10) t937) ∧ Aside0 (Kd.R Kd.string 9 wc w.heap.size (fun k_ => some k_ ≠ (v944 : Value).ownBlock) v941 t940) ∧ Aside0 (Kd.R Kd.string 9 wc w.heap.size (fun k_ => some k_ ≠ (v941 : Value).ownBlock) v944 t943) ∧ Aside0 (Below w.heap.size w wc))
 case first =>
  have H := HC8.out
  clear HC8
  by_cases c14 : (t940.length : Int) = (t943.length : Int)
  · rw [if_pos c14] at H
    have c14b0 : ((t940.length : Int) == (t943.length : Int)) = true := beq_iff_eq.mpr c14
    have c14b1 : ((t940.length : Int) != (t943.length : Int)) = false := bne_eq_false_iff_eq.mpr c14
    have c14b2 : (t940.length == t943.length) = true := by first | simpa using c14 | (simp at c14 ⊢; omega)
    clear c14
    (first | rw [c14b0] | (simp only [i64_w, i32_w]; rw [c14b0]) | (have cn_ := c14b0; simp only [bne] at cn_; rw [cn_]; clear cn_) | skip)
    replace H := Option.bind_eq_some_iff.mp H
    obtain ⟨t952, A150, H⟩ := H
    replace H : ((spec_PickSame.f kj1 t946 t949).bind fun t953 => (if (t952 != t953) = true then (laws_FnPickWants.j1 kj1 t937 t940 t943 true) else ((impl_PickSame.f t937 t937).bind fun t954 => (laws_FnPickWants.j1 kj1 t937 t940 t943 (!t954))))) = some r := H
    have A15 := aM A150; clear A150
    replace H := Option.bind_eq_some_iff.mp H
    obtain ⟨t953, A160, H⟩ := H
    replace H : (if (t952 != t953) = true then (laws_FnPickWants.j1 kj1 t937 t940 t943 true) else ((impl_PickSame.f t937 t937).bind fun t954 => (laws_FnPickWants.j1 kj1 t937 t940 t943 (!t954)))) = some r := H
    have A16 := aM A160; clear A160
    by_cases c17 : (t952 != t953) = true
    · rw [if_pos c17] at H
      have c17b0 : (t952 != t953) = true := c17
      (try (have c17b1 : decide (t952 = t953) = false := by simpa using c17))
      (try (have c17b2 : (t952 == t953) = false := by simpa using c17))
      (try (have c17b3 : ¬ (t952 = t953) := by simpa using c17))
      clear c17
      have H' := aM H
      clear H
      obtain ⟨Ao18, co18, eo18⟩ := Kd.R_slice HO942.out
      subst eo18
      obtain ⟨Ao19, co19, eo19⟩ := Kd.R_slice HO945.out
      subst eo19
      obtain ⟨Ao20, co20, eo20⟩ := Kd.N_slice HO948.out
      subst eo20
      obtain ⟨Ao21, co21, eo21⟩ := Kd.V_slice HO951.out
      subst eo21
      go_wp2_with (first | (go_at_call 43; (with_reducible refine (impl_PickSame.calls _ _ t946 _ _ t949 t952 _ ?side1 ?side2 ?side3 ?side4 A15.out).mono ?_); (case side1 => repeat (first | exact (Kd.N_reads' HO948.out).2.2 | (with_reducible first | refine Ca ?_ _ | refine Cn ?_ _ | refine Cd ?_))); (case side2 => exact (Kd.N_reads' HO948.out).2.1); (case side3 => repeat (first | exact (Kd.V_reads' HO951.out).2.2 | (with_reducible first | refine Ca ?_ _ | refine Cn ?_ _ | refine Cd ?_))); (case side4 => exact (Kd.V_reads' HO951.out).2.1); rintro e w22 ⟨rfl, hb⟩; have n0_ := aM (Kd.N_below (by (with_reducible repeat (first | apply Na | apply Nn | apply Nd)); exact HO939.out) hb); have n1_ := aM (Kd.R_below (by (with_reducible repeat (first | apply Ra | apply Rn | apply Rd)); exact HO942.out) hb); have n2_ := aM (Kd.R_below (by (with_reducible repeat (first | apply Ra | apply Rn | apply Rd)); exact HO945.out) hb); have n3_ := aM (Kd.N_below (by (with_reducible repeat (first | apply Na | apply Nn | apply Nd)); exact HO948.out) hb); have n4_ := aM (Kd.V_below (by (with_reducible repeat (first | apply Va | apply Vn | apply Vd)); exact HO951.out) hb); have n5_ := aM (below_step (by repeat (with_reducible first | exact HB.out | apply bA | apply bN | apply bD)) hb); clear HO939 HO942 HO945 HO948 HO951 HB; have HO939 := n0_; have HO942 := n1_; have HO945 := n2_; have HO948 := n3_; have HO951 := n4_; have HB := n5_; clear n0_ n1_ n2_ n3_ n4_ n5_) | (go_at_call 44; (with_reducible refine (spec_PickSame.calls kj1 _ _ t946 _ _ t949 t953 _ ?side1 ?side2 ?side3 ?side4 A16.out).mono ?_); (case side1 => repeat (first | exact (Kd.N_reads' HO948.out).2.2 | (with_reducible first | refine Ca ?_ _ | refine Cn ?_ _ | refine Cd ?_))); (case side2 => exact (Kd.N_reads' HO948.out).2.1); (case side3 => repeat (first | exact (Kd.V_reads' HO951.out).2.2 | (with_reducible first | refine Ca ?_ _ | refine Cn ?_ _ | refine Cd ?_))); (case side4 => exact (Kd.V_reads' HO951.out).2.1); rintro e w23 ⟨rfl, hb⟩; have n0_ := aM (Kd.N_below (by (with_reducible repeat (first | apply Na | apply Nn | apply Nd)); exact HO939.out) hb); have n1_ := aM (Kd.R_below (by (with_reducible repeat (first | apply Ra | apply Rn | apply Rd)); exact HO942.out) hb); have n2_ := aM (Kd.R_below (by (with_reducible repeat (first | apply Ra | apply Rn | apply Rd)); exact HO945.out) hb); have n3_ := aM (Kd.N_below (by (with_reducible repeat (first | apply Na | apply Nn | apply Nd)); exact HO948.out) hb); have n4_ := aM (Kd.V_below (by (with_reducible repeat (first | apply Va | apply Vn | apply Vd)); exact HO951.out) hb); have n5_ := aM (below_step (by repeat (with_reducible first | exact HB.out | apply bA | apply bN | apply bD)) hb); clear HO939 HO942 HO945 HO948 HO951 HB; have HO939 := n0_; have HO942 := n1_; have HO945 := n2_; have HO948 := n3_; have HO951 := n4_; have HB := n5_; clear n0_ n1_ n2_ n3_ n4_ n5_))
      skip
      go_meet
      case rel => exact ⟨_, (true), (by first | rfl | (simp; done) | (simp [*]; done)), H', ⟨by have := HJ1.out; first | omega | exact Nat.le_refl _⟩, ⟨by (with_reducible repeat (first | apply Na | apply Nn | apply Nd)); exact Kd.N_mono HO939.out (fun _ hk => ⟨hk.1.1.2, hk.1.2⟩)⟩, ⟨by (with_reducible repeat (first | apply Ra | apply Rn | apply Rd)); exact Kd.R_mono HO942.out (fun _ hk => hk.2)⟩, ⟨by (with_reducible repeat (first | apply Ra | apply Rn | apply Rd)); exact Kd.R_mono HO945.out (fun _ hk => hk.2)⟩, ⟨by repeat (with_reducible first | exact HB.out | apply bA | apply bN | apply bD)⟩⟩
    rw [if_neg c17] at H
    have c17b0 : (t952 != t953) = false := by simpa using c17
    (try (have c17b1 : decide (t952 = t953) = true := by simpa using c17))
    (try (have c17b2 : (t952 == t953) = true := by simpa using c17))
    clear c17
    replace H := Option.bind_eq_some_iff.mp H
    obtain ⟨t954, A240, H⟩ := H
    replace H : (laws_FnPickWants.j1 kj1 t937 t940 t943 (!t954)) = some r := H
    have A24 := aM A240; clear A240
    have H' := aM H
    clear H
    obtain ⟨Ao25, co25, eo25⟩ := Kd.R_slice HO942.out
    subst eo25
    obtain ⟨Ao26, co26, eo26⟩ := Kd.R_slice HO945.out
    subst eo26
    obtain ⟨Ao27, co27, eo27⟩ := Kd.N_slice HO948.out
    subst eo27
    obtain ⟨Ao28, co28, eo28⟩ := Kd.V_slice HO951.out
    subst eo28
    go_wp2_with (first | (go_at_call 43; (with_reducible refine (impl_PickSame.calls _ _ t946 _ _ t949 t952 _ ?side1 ?side2 ?side3 ?side4 A15.out).mono ?_); (case side1 => repeat (first | exact (Kd.N_reads' HO948.out).2.2 | (with_reducible first | refine Ca ?_ _ | refine Cn ?_ _ | refine Cd ?_))); (case side2 => exact (Kd.N_reads' HO948.out).2.1); (case side3 => repeat (first | exact (Kd.V_reads' HO951.out).2.2 | (with_reducible first | refine Ca ?_ _ | refine Cn ?_ _ | refine Cd ?_))); (case side4 => exact (Kd.V_reads' HO951.out).2.1); rintro e w29 ⟨rfl, hb⟩; have n0_ := aM (Kd.N_below (by (with_reducible repeat (first | apply Na | apply Nn | apply Nd)); exact HO939.out) hb); have n1_ := aM (Kd.R_below (by (with_reducible repeat (first | apply Ra | apply Rn | apply Rd)); exact HO942.out) hb); have n2_ := aM (Kd.R_below (by (with_reducible repeat (first | apply Ra | apply Rn | apply Rd)); exact HO945.out) hb); have n3_ := aM (Kd.N_below (by (with_reducible repeat (first | apply Na | apply Nn | apply Nd)); exact HO948.out) hb); have n4_ := aM (Kd.V_below (by (with_reducible repeat (first | apply Va | apply Vn | apply Vd)); exact HO951.out) hb); have n5_ := aM (below_step (by repeat (with_reducible first | exact HB.out | apply bA | apply bN | apply bD)) hb); clear HO939 HO942 HO945 HO948 HO951 HB; have HO939 := n0_; have HO942 := n1_; have HO945 := n2_; have HO948 := n3_; have HO951 := n4_; have HB := n5_; clear n0_ n1_ n2_ n3_ n4_ n5_) | (go_at_call 44; (with_reducible refine (spec_PickSame.calls kj1 _ _ t946 _ _ t949 t953 _ ?side1 ?side2 ?side3 ?side4 A16.out).mono ?_); (case side1 => repeat (first | exact (Kd.N_reads' HO948.out).2.2 | (with_reducible first | refine Ca ?_ _ | refine Cn ?_ _ | refine Cd ?_))); (case side2 => exact (Kd.N_reads' HO948.out).2.1); (case side3 => repeat (first | exact (Kd.V_reads' HO951.out).2.2 | (with_reducible first | refine Ca ?_ _ | refine Cn ?_ _ | refine Cd ?_))); (case side4 => exact (Kd.V_reads' HO951.out).2.1); rintro e w30 ⟨rfl, hb⟩; have n0_ := aM (Kd.N_below (by (with_reducible repeat (first | apply Na | apply Nn | apply Nd)); exact HO939.out) hb); have n1_ := aM (Kd.R_below (by (with_reducible repeat (first | apply Ra | apply Rn | apply Rd)); exact HO942.out) hb); have n2_ := aM (Kd.R_below (by (with_reducible repeat (first | apply Ra | apply Rn | apply Rd)); exact HO945.out) hb); have n3_ := aM (Kd.N_below (by (with_reducible repeat (first | apply Na | apply Nn | apply Nd)); exact HO948.out) hb); have n4_ := aM (Kd.V_below (by (with_reducible repeat (first | apply Va | apply Vn | apply Vd)); exact HO951.out) hb); have n5_ := aM (below_step (by repeat (with_reducible first | exact HB.out | apply bA | apply bN | apply bD)) hb); clear HO939 HO942 HO945 HO948 HO951 HB; have HO939 := n0_; have HO942 := n1_; have HO945 := n2_; have HO948 := n3_; have HO951 := n4_; have HB := n5_; clear n0_ n1_ n2_ n3_ n4_ n5_) | (go_at_call 43; (with_reducible refine (impl_PickSame.calls _ _ t937 _ _ t937 t954 _ ?side1 ?side2 ?side3 ?side4 A24.out).mono ?_); (case side1 => repeat (first | exact (Kd.N_reads' HO939.out).2.2 | (with_reducible first | refine Ca ?_ _ | refine Cn ?_ _ | refine Cd ?_))); (case side2 => exact (Kd.N_reads' HO939.out).2.1); (case side3 => repeat (first | exact (Kd.N_reads' HO939.out).2.2 | (with_reducible first | refine Ca ?_ _ | refine Cn ?_ _ | refine Cd ?_))); (case side4 => exact (Kd.N_reads' HO939.out).2.1); rintro e w31 ⟨rfl, hb⟩; have n0_ := aM (Kd.N_below (by (with_reducible repeat (first | apply Na | apply Nn | apply Nd)); exact HO939.out) hb); have n1_ := aM (Kd.R_below (by (with_reducible repeat (first | apply Ra | apply Rn | apply Rd)); exact HO942.out) hb); have n2_ := aM (Kd.R_below (by (with_reducible repeat (first | apply Ra | apply Rn | apply Rd)); exact HO945.out) hb); have n3_ := aM (Kd.N_below (by (with_reducible repeat (first | apply Na | apply Nn | apply Nd)); exact HO948.out) hb); have n4_ := aM (Kd.V_below (by (with_reducible repeat (first | apply Va | apply Vn | apply Vd)); exact HO951.out) hb); have n5_ := aM (below_step (by repeat (with_reducible first | exact HB.out | apply bA | apply bN | apply bD)) hb); clear HO939 HO942 HO945 HO948 HO951 HB; have HO939 := n0_; have HO942 := n1_; have HO945 := n2_; have HO948 := n3_; have HO951 := n4_; have HB := n5_; clear n0_ n1_ n2_ n3_ n4_ n5_))
    skip
    go_meet
    case rel => exact ⟨_, (!t954), (by first | rfl | (simp; done) | (simp [*]; done)), H', ⟨by have := HJ1.out; first | omega | exact Nat.le_refl _⟩, ⟨by (with_reducible repeat (first | apply Na | apply Nn | apply Nd)); exact Kd.N_mono HO939.out (fun _ hk => ⟨hk.1.1.2, hk.1.2⟩)⟩, ⟨by (with_reducible repeat (first | apply Ra | apply Rn | apply Rd)); exact Kd.R_mono HO942.out (fun _ hk => hk.2)⟩, ⟨by (with_reducible repeat (first | apply Ra | apply Rn | apply Rd)); exact Kd.R_mono HO945.out (fun _ hk => hk.2)⟩, ⟨by repeat (with_reducible first | exact HB.out | apply bA | apply bN | apply bD)⟩⟩
  rw [if_neg c14] at H
  have c14b0 : ((t940.length : Int) == (t943.length : Int)) = false := beq_eq_false_iff_ne.mpr c14
  have c14b1 : ((t940.length : Int) != (t943.length : Int)) = true := bne_iff_ne.mpr c14
  have c14b2 : (t940.length == t943.length) = false := by first | simpa using c14 | (simp at c14 ⊢; omega)
  (first | rw [c14b0] | (simp only [i64_w, i32_w]; rw [c14b0]) | (have cn_ := c14b0; simp only [bne] at cn_; rw [cn_]; clear cn_) | skip)
  have H' := aM H
  clear H
  obtain ⟨Ao32, co32, eo32⟩ := Kd.R_slice HO942.out
  subst eo32
  obtain ⟨Ao33, co33, eo33⟩ := Kd.R_slice HO945.out
  subst eo33
  go_wp2
  skip
  go_meet
  case rel => exact ⟨_, (true), (by first | rfl | (simp; done) | (simp [*]; done)), H', ⟨by have := HJ1.out; first | omega | exact Nat.le_refl _⟩, ⟨by (with_reducible repeat (first | apply Na | apply Nn | apply Nd)); exact Kd.N_mono HO939.out (fun _ hk => ⟨hk.1.1.2, hk.1.2⟩)⟩, ⟨by (with_reducible repeat (first | apply Ra | apply Rn | apply Rd)); exact Kd.R_mono HO942.out (fun _ hk => hk.2)⟩, ⟨by (with_reducible repeat (first | apply Ra | apply Rn | apply Rd)); exact Kd.R_mono HO945.out (fun _ hk => hk.2)⟩, ⟨by repeat (with_reducible first | exact HB.out | apply bA | apply bN | apply bD)⟩⟩
 clear HC8; try clear c1; try clear p2; try clear c3; try clear c3b0; try clear c3b1; try clear c10; try clear c14; try clear c14b0; try clear c14b1; try clear c14b2; try clear c17; try clear c17b0; try clear c17b1; try clear c17b2; try clear p2
 obtain ⟨kq, x45_7, rfl, HA, HJ7, HO_3, HO_4, HO_5, HB⟩ := hcut
 obtain _ | kj7 := kq
 · exact absurd HA.out (by simp [laws_FnPickWants.j1])
 have H := HA.out
 clear HA
 simp only [laws_FnPickWants.j1] at H
 have HC34 := aM H; clear H
 go_upto_if 45 with (fail)
 skip
 go_cut [] (fun wc => ∃ (kq : Nat), Aside0 (laws_FnPickWants.j2 kq t937 t940 t943 = some r) ∧ Aside0 (kq ≤ kj7) ∧ Aside0 (Kd.N (Kd.slice 30 k30) 23 wc w.heap.size (fun k_ => some k_ ≠ (v941 : Value).ownBlock ∧ some k_ ≠ (v944 : Value).ownBlock) (.slice Ao10 t937.length co10) t937) ∧ Aside0 (Kd.R Kd.string 9 wc w.heap.size (fun k_ => some k_ ≠ (v944 : Value).ownBlock) v941 t940) ∧ Aside0 (Kd.R Kd.string 9 wc w.heap.size (fun k_ => some k_ ≠ (v941 : Value).ownBlock) v944 t943) ∧ Aside0 (Below w.heap.size w wc))
 case first =>
  have H := HC34.out
  clear HC34
  by_cases c35 : x45_7 = true
  · subst c35
    have H1 : (some false) = some r := by rw [if_pos rfl] at H; exact H
    clear H
    have H := H1
    clear H1
    obtain rfl := Option.some.inj H
    go_wp2
    skip
    go_ret
    exact ⟨by first | rfl | (simp [*, errW_none, errW_some] <;> rfl), by repeat (with_reducible first | exact HB.out | apply bA | apply bN | apply bD)⟩
  replace c35 := Bool.eq_false_iff.mpr c35
  subst c35
  have H1 : (laws_FnPickWants.j2 kj7 t937 t940 t943) = some r := by rw [if_neg (show ¬ (false = true) by decide)] at H; exact H
  clear H
  have H := H1
  clear H1
  have H' := aM H
  clear H
  go_wp2
  skip
  go_meet
  case rel => exact ⟨_, H', ⟨by have := HJ1.out; have := HJ7.out; first | omega | exact Nat.le_refl _⟩, ⟨by (with_reducible repeat (first | apply Na | apply Nn | apply Nd)); exact HO_3.out⟩, ⟨by (with_reducible repeat (first | apply Ra | apply Rn | apply Rd)); exact HO_4.out⟩, ⟨by (with_reducible repeat (first | apply Ra | apply Rn | apply Rd)); exact HO_5.out⟩, ⟨by repeat (with_reducible first | exact HB.out | apply bA | apply bN | apply bD)⟩⟩
 clear HC34; try clear c1; try clear p2; try clear c3; try clear c3b0; try clear c3b1; try clear c10; try clear c14; try clear c14b0; try clear c14b1; try clear c14b2; try clear c17; try clear c17b0; try clear c17b1; try clear c17b2; try clear c35; try clear p2
 obtain ⟨kq, HA, HJ33, HO_3, HO_4, HO_5, HB⟩ := hcut
 obtain _ | kj33 := kq
 · exact absurd HA.out (by simp [laws_FnPickWants.j2])
 have H := HA.out
 clear HA
 simp only [laws_FnPickWants.j2] at H
 have H' := aM H
 clear H
 go_wp2
 skip
 go_loopg [8] kj33 (fun kq v8 w' => ∃ (x8_4 : Int), v8 = .int .i64 x8_4 ∧ Aside0 (laws_FnPickWants.l0 kq t937 t940 t943 x8_4 = some r) ∧ Aside0 (kq ≤ kj33) ∧ Aside0 (Kd.N (Kd.slice 30 k30) 23 w' w.heap.size (fun k_ => some k_ ≠ (v941 : Value).ownBlock ∧ some k_ ≠ (v944 : Value).ownBlock) (.slice Ao10 t937.length co10) t937) ∧ Aside0 (Kd.R Kd.string 9 w' w.heap.size (fun k_ => some k_ ≠ (v944 : Value).ownBlock) v941 t940) ∧ Aside0 (Kd.R Kd.string 9 w' w.heap.size (fun k_ => some k_ ≠ (v941 : Value).ownBlock) v944 t943) ∧ Aside0 (Below w.heap.size w w'))
 case atStart => exact ⟨(0), (by first | rfl | (simp; done) | (simp [*]; done)), H', ⟨Nat.le_refl _⟩, ⟨by (with_reducible repeat (first | apply Na | apply Nn | apply Nd)); exact HO_3.out⟩, ⟨by (with_reducible repeat (first | apply Ra | apply Rn | apply Rd)); exact HO_4.out⟩, ⟨by (with_reducible repeat (first | apply Ra | apply Rn | apply Rd)); exact HO_5.out⟩, ⟨by repeat (with_reducible first | exact HB.out | apply bA | apply bN | apply bD)⟩⟩
 clear H'
 try clear c1; try clear p2; try clear c3; try clear c3b0; try clear c3b1; try clear c10; try clear c14; try clear c14b0; try clear c14b1; try clear c14b2; try clear c17; try clear c17b0; try clear c17b1; try clear c17b2; try clear c35; try clear p2
 obtain ⟨x8_4, rfl, HA, HK4, HO_3, HO_4, HO_5, HB⟩ := hrel
 obtain _ | k4 := gk
 · exact absurd HA.out (by simp [laws_FnPickWants.l0])
 have H := HA.out
 clear HA
 simp only [laws_FnPickWants.l0] at H
 have HC36 := aM H; clear H
 obtain ⟨Ao37, co37, eo37⟩ := Kd.R_slice HO_4.out
 subst eo37
 go_upto_if 49 with (fail)
 skip
 go_cut [] (fun wc => ∃ (kq : Nat), Aside0 (laws_FnPickWants.j4 kq t937 t940 t943 x8_4 = some r) ∧ Aside0 (kq ≤ k4) ∧ Aside0 (Kd.N (Kd.slice 30 k30) 23 wc w.heap.size (fun k_ => some k_ ≠ ((.slice Ao37 t940.length co37) : Value).ownBlock ∧ some k_ ≠ (v944 : Value).ownBlock) (.slice Ao10 t937.length co10) t937) ∧ Aside0 (Kd.R Kd.string 9 wc w.heap.size (fun k_ => some k_ ≠ (v944 : Value).ownBlock) (.slice Ao37 t940.length co37) t940) ∧ Aside0 (Kd.R Kd.string 9 wc w.heap.size (fun k_ => some k_ ≠ ((.slice Ao37 t940.length co37) : Value).ownBlock) v944 t943) ∧ Aside0 (Below w.heap.size w wc))
 case first =>
  have H := HC36.out
  clear HC36
  by_cases c38 : x8_4 < (t940.length : Int)
  · rw [if_pos c38] at H
    have c38b0 : decide (x8_4 < (t940.length : Int)) = true := decide_eq_true c38
    clear c38
    (first | rw [c38b0] | (simp only [i64_w, i32_w]; rw [c38b0]) | (have cn_ := c38b0; simp only [bne] at cn_; rw [cn_]; clear cn_) | skip)
    have H' := aM H
    clear H
    go_wp2
    skip
    go_meet
    case rel => exact ⟨_, H', ⟨by have := HJ1.out; have := HJ7.out; have := HJ33.out; have := HK4.out; first | omega | exact Nat.le_refl _⟩, ⟨by (with_reducible repeat (first | apply Na | apply Nn | apply Nd)); exact HO_3.out⟩, ⟨by (with_reducible repeat (first | apply Ra | apply Rn | apply Rd)); exact HO_4.out⟩, ⟨by (with_reducible repeat (first | apply Ra | apply Rn | apply Rd)); exact HO_5.out⟩, ⟨by repeat (with_reducible first | exact HB.out | apply bA | apply bN | apply bD)⟩⟩
  rw [if_neg c38] at H
  have c38b0 : decide (x8_4 < (t940.length : Int)) = false := decide_eq_false c38
  clear c38
  (first | rw [c38b0] | (simp only [i64_w, i32_w]; rw [c38b0]) | (have cn_ := c38b0; simp only [bne] at cn_; rw [cn_]; clear cn_) | skip)
  by_cases c39 : (t937.length : Int) = 1
  · rw [if_pos c39] at H
    have c39b0 : ((t937.length : Int) == 1) = true := beq_iff_eq.mpr c39
    have c39b1 : ((t937.length : Int) != 1) = false := bne_eq_false_iff_eq.mpr c39
    clear c39
    by_cases c40 : 0 < (t937.length : Int)
    · rw [if_pos c40] at H
      have c40b0 : decide (0 < (t937.length : Int)) = true := decide_eq_true c40
      have c40b1 : decide (0 < t937.length) = true := decide_eq_true (by omega)
      clear c40
      replace H := Option.bind_eq_some_iff.mp H
      obtain ⟨t964, A410, H⟩ := H
      replace H : (some ((t940.length : Int) == (t964.length : Int))) = some r := H
      have A41 := aM A410; clear A410
      obtain rfl := Option.some.inj H
      have p963 : 0 ≤ (0 : Int) := (by omega)
      have q963 : 0 < (t937.length : Int) := oD (by first | with_reducible assumption | assumption)
      obtain ⟨ad963, A963_0, c963_0, e963, hx963_0, hl963_0, hi963_0⟩ := at_L13 (Kd.N_reads' HO_3.out).2.2 0 p963 q963
      cases e963
      obtain ⟨ce963, hce963, hMe963, hcc963⟩ := Kd.N_get HO_3.out [] 0 p963 (by first | exact q963 | exact oD (by first | with_reducible assumption | assumption) | (have e_ := (Kd.N_reads' HO_3.out).1; omega))
      obtain ⟨ua963_0, uc963_0, rfl, ul963_0, ge963_0⟩ := Kd.FK_slice_open hMe963
      have hv963_0 := hcc963 0 _ rfl
      rw [Nat.add_zero, show ((Kd.slice 30 k30)).sz = 1 from rfl, Nat.mul_one] at hv963_0
      replace hv963_0 := Option.some.inj (hv963_0.symm.trans hx963_0)
      injection hv963_0 with hva_ hvn_ hvc_
      rw [hva_] at ge963_0
      rw [hvc_] at ul963_0
      have HL963_0 := aM (show Kd.V k30 30 _ w.heap.size _ _ (rd_L13 t937 0) from Kd.V_mk ul963_0 ge963_0)
      clear hva_ hvn_ hvc_ ge963_0 ul963_0 hcc963 hce963
      have qi963 : (0 < t937.length) = True := eq_true (by omega)
      (try rw [show ((0 : Int)).toNat = 0 from rfl] at hx963_0)
      (try rw [Addr.add_zero'] at hx963_0)
      have HR963_0 := aM hi963_0; have HC963_0 := aM hl963_0; clear hi963_0 hl963_0; replace p963 := eq_true p963; replace q963 := eq_true q963
      go_wp2_with (first | (go_at_call 37; (with_reducible refine (impl_UnitWants.calls k4 _ _ (rd_L13 t937 0) t964 _ ?side1 ?side2 A41.out).mono ?_); (case side1 => repeat (first | exact (by repeat (first | (with_reducible exact HR963_0.out) | (with_reducible first | refine Ca ?_ _ | refine Cn ?_ _ | refine Cd ?_) | exact HR963_0.out)) | (with_reducible first | refine Ca ?_ _ | refine Cn ?_ _ | refine Cd ?_))); (case side2 => exact HC963_0.out); rintro e w42 ⟨v965, rfl, ho0, hb⟩; have n0_ := aM (Kd.N_elder' (by (with_reducible repeat (first | apply Na | apply Nn | apply Nd)); exact HO_3.out) (Kd.R_base ho0) hb); have n1_ := aM (Kd.R_elder' (by (with_reducible repeat (first | apply Ra | apply Rn | apply Rd)); exact HO_4.out) (Kd.R_base ho0) hb); have n2_ := aM (Kd.R_elder' (by (with_reducible repeat (first | apply Ra | apply Rn | apply Rd)); exact HO_5.out) (Kd.R_base ho0) hb); have n3_ := aM (Kd.V_elder' (by (with_reducible repeat (first | apply Va | apply Vn | apply Vd)); exact HL963_0.out) (Kd.R_base ho0) hb); have n4_ := aM (Kd.R_lower (Kd.R_new' (Kd.R_new' ho0 (Kd.R_lt (by (with_reducible repeat (first | apply Ra | apply Rn | apply Rd)); exact HO_4.out))) (Kd.R_lt (by (with_reducible repeat (first | apply Ra | apply Rn | apply Rd)); exact HO_5.out))) (below_size (by repeat (with_reducible first | exact HB.out | apply bA | apply bN | apply bD)))); have n5_ := aM (Kd.C_below (by repeat (first | (with_reducible exact HR963_0.out) | (with_reducible first | refine Ca ?_ _ | refine Cn ?_ _ | refine Cd ?_) | exact HR963_0.out)) hb); have n6_ := aM (below_step (by repeat (with_reducible first | exact HB.out | apply bA | apply bN | apply bD)) hb); clear HO_3 HO_4 HO_5 HL963_0 HR963_0 HB; have HO_3 := n0_; have HO_4 := n1_; have HO_5 := n2_; have HL963_0 := n3_; have HO966 := n4_; have HR963_0 := n5_; have HB := n6_; clear n0_ n1_ n2_ n3_ n4_ n5_ n6_; (try clear ho0); obtain ⟨Ao43, co43, eo43⟩ := Kd.R_slice HO966.out; subst eo43))
      skip
      go_ret
      exact ⟨by first | rfl | (simp [*, errW_none, errW_some] <;> rfl), by repeat (with_reducible first | exact HB.out | apply bA | apply bN | apply bD)⟩
    rw [if_neg c40] at H
    exact absurd H (by simp)
  rw [if_neg c39] at H
  have c39b0 : ((t937.length : Int) == 1) = false := beq_eq_false_iff_ne.mpr c39
  have c39b1 : ((t937.length : Int) != 1) = true := bne_iff_ne.mpr c39
  obtain rfl := Option.some.inj H
  go_wp2
  skip
  go_ret
  exact ⟨by first | rfl | (simp [*, errW_none, errW_some] <;> rfl), by repeat (with_reducible first | exact HB.out | apply bA | apply bN | apply bD)⟩
 clear HC36; try clear c1; try clear p2; try clear c3; try clear c3b0; try clear c3b1; try clear c4; try clear c9; try clear p9; try clear q9; try clear hx9; try clear qi9; try clear c10; try clear c14; try clear c14b0; try clear c14b1; try clear c14b2; try clear c17; try clear c17b0; try clear c17b1; try clear c17b2; try clear c35; try clear c38; try clear c38b0; try clear c39; try clear c39b0; try clear c39b1; try clear c40; try clear c40b0; try clear c40b1; try clear hx963_0; try clear p2; try clear p963; try clear q963
 obtain ⟨kq, HA, HJ35, HO_3, HO_4, HO_5, HB⟩ := hcut
 obtain _ | kj35 := kq
 · exact absurd HA.out (by simp [laws_FnPickWants.j4])
 have H := HA.out
 clear HA
 simp only [laws_FnPickWants.j4] at H
 by_cases c44 : 0 ≤ x8_4
 · rw [if_pos c44] at H
   have c44b0 : decide (0 ≤ x8_4) = true := decide_eq_true c44
   clear c44
   by_cases c45 : x8_4 < (t940.length : Int)
   · rw [if_pos c45] at H
     have c45b0 : decide (x8_4 < (t940.length : Int)) = true := decide_eq_true c45
     clear c45
     replace H := Option.bind_eq_some_iff.mp H
     obtain ⟨⟨t956, t957, t958⟩, A460, H⟩ := H
     replace H : (if t958 = true then (laws_FnPickWants.j5 kj35 t937 t940 t943 x8_4 true) else (if x8_4 < (t943.length : Int) then (if (rdOf ByteArray.empty t940 x8_4).toList = (rdOf ByteArray.empty t943 x8_4).toList then (if x8_4 > 0 then (if 0 ≤ (wrap64 (x8_4 - 1)) then (if (wrap64 (x8_4 - 1)) < (t940.length : Int) then (laws_FnPickWants.j5 kj35 t937 t940 t943 x8_4 (!(Op.bytesLess ((rdOf ByteArray.empty t940 (wrap64 (x8_4 - 1))).toList) ((rdOf ByteArray.empty t940 x8_4).toList)))) else (none)) else (none)) else (laws_FnPickWants.j5 kj35 t937 t940 t943 x8_4 false)) else (laws_FnPickWants.j5 kj35 t937 t940 t943 x8_4 true)) else (none))) = some r := H
     have A46 := aM A460; clear A460; have HC47 := aM H; clear H
     have p955 : 0 ≤ (x8_4 : Int) := oD (by first | with_reducible assumption | assumption)
     have q955 : x8_4 < (t940.length : Int) := oD (by first | with_reducible assumption | assumption)
     obtain ⟨ad955, e955, hx955_0⟩ := Kd.at_string (Kd.R_reads' HO_4.out).2.2 x8_4 p955 q955
     cases e955
     replace p955 := eq_true p955; replace q955 := eq_true q955
     go_upto_region 13 with (first | (go_at_call 31; (with_reducible refine (impl_PickAt.calls kj35 _ _ t937 (rdOf ByteArray.empty t940 x8_4) t956 t957 t958 _ ?side1 ?side2 A46.out).mono ?_); (case side1 => repeat (first | exact (Kd.N_reads' HO_3.out).2.2 | (with_reducible first | refine Ca ?_ _ | refine Cn ?_ _ | refine Cd ?_))); (case side2 => exact (Kd.N_reads' HO_3.out).2.1); rintro e w48 ⟨rfl, hb⟩; have n0_ := aM (Kd.N_below (by (with_reducible repeat (first | apply Na | apply Nn | apply Nd)); exact HO_3.out) hb); have n1_ := aM (Kd.R_below (by (with_reducible repeat (first | apply Ra | apply Rn | apply Rd)); exact HO_4.out) hb); have n2_ := aM (Kd.R_below (by (with_reducible repeat (first | apply Ra | apply Rn | apply Rd)); exact HO_5.out) hb); have n3_ := aM (below_step (by repeat (with_reducible first | exact HB.out | apply bA | apply bN | apply bD)) hb); clear HO_3 HO_4 HO_5 HB; have HO_3 := n0_; have HO_4 := n1_; have HO_5 := n2_; have HB := n3_; clear n0_ n1_ n2_ n3_))
     skip
     (try simp only [Act.put, List.setIfInBounds_toArray, List.set_cons_zero, List.set_cons_succ])
     go_cut [89] (fun v89 wc => ∃ (kq : Nat) (x89_46 : Bool), v89 = .bool x89_46 ∧ Aside0 (laws_FnPickWants.j5 kq t937 t940 t943 x8_4 x89_46 = some r) ∧ Aside0 (kq ≤ kj35) ∧ Aside0 (Kd.N (Kd.slice 30 k30) 23 wc w.heap.size (fun k_ => some k_ ≠ ((.slice (some ad955) t940.length co37) : Value).ownBlock ∧ some k_ ≠ (v944 : Value).ownBlock) (.slice Ao10 t937.length co10) t937) ∧ Aside0 (Kd.R Kd.string 9 wc w.heap.size (fun k_ => some k_ ≠ (v944 : Value).ownBlock) (.slice (some ad955) t940.length co37) t940) ∧ Aside0 (Kd.R Kd.string 9 wc w.heap.size (fun k_ => some k_ ≠ ((.slice (some ad955) t940.length co37) : Value).ownBlock) v944 t943) ∧ Aside0 (Below w.heap.size w wc))
     case first =>
      have H := HC47.out
      clear HC47
      by_cases c49 : t958 = true
      · subst c49
        have H1 : (laws_FnPickWants.j5 kj35 t937 t940 t943 x8_4 true) = some r := by rw [if_pos rfl] at H; exact H
        clear H
        have H := H1
        clear H1
        have H' := aM H
        clear H
        go_wp2
        repeat (go_quiet (fail); try go_wp2)
        go_meet
        case rel => exact ⟨_, (true), (by first | rfl | (simp; done) | (simp [*]; done)), H', ⟨by have := HJ1.out; have := HJ7.out; have := HJ33.out; have := HK4.out; have := HJ35.out; first | omega | exact Nat.le_refl _⟩, ⟨by (with_reducible repeat (first | apply Na | apply Nn | apply Nd)); exact HO_3.out⟩, ⟨by (with_reducible repeat (first | apply Ra | apply Rn | apply Rd)); exact HO_4.out⟩, ⟨by (with_reducible repeat (first | apply Ra | apply Rn | apply Rd)); exact HO_5.out⟩, ⟨by repeat (with_reducible first | exact HB.out | apply bA | apply bN | apply bD)⟩⟩
      replace c49 := Bool.eq_false_iff.mpr c49
      subst c49
      have H1 : (if x8_4 < (t943.length : Int) then (if (rdOf ByteArray.empty t940 x8_4).toList = (rdOf ByteArray.empty t943 x8_4).toList then (if x8_4 > 0 then (if 0 ≤ (wrap64 (x8_4 - 1)) then (if (wrap64 (x8_4 - 1)) < (t940.length : Int) then (laws_FnPickWants.j5 kj35 t937 t940 t943 x8_4 (!(Op.bytesLess ((rdOf ByteArray.empty t940 (wrap64 (x8_4 - 1))).toList) ((rdOf ByteArray.empty t940 x8_4).toList)))) else (none)) else (none)) else (laws_FnPickWants.j5 kj35 t937 t940 t943 x8_4 false)) else (laws_FnPickWants.j5 kj35 t937 t940 t943 x8_4 true)) else (none)) = some r := by rw [if_neg (show ¬ (false = true) by decide)] at H; exact H
      clear H
      have H := H1
      clear H1
      by_cases c50 : x8_4 < (t943.length : Int)
      · rw [if_pos c50] at H
        have c50b0 : decide (x8_4 < (t943.length : Int)) = true := decide_eq_true c50
        clear c50
        (first | rw [c50b0] | (simp only [i64_w, i32_w]; rw [c50b0]) | (have cn_ := c50b0; simp only [bne] at cn_; rw [cn_]; clear cn_) | skip)
        by_cases c51 : (rdOf ByteArray.empty t940 x8_4).toList = (rdOf ByteArray.empty t943 x8_4).toList
        · rw [if_pos c51] at H
          have c51b0 : ((rdOf ByteArray.empty t940 x8_4).toList == (rdOf ByteArray.empty t943 x8_4).toList) = true := beq_iff_eq.mpr c51
          have c51b1 : ((rdOf ByteArray.empty t940 x8_4).toList != (rdOf ByteArray.empty t943 x8_4).toList) = false := bne_eq_false_iff_eq.mpr c51
          clear c51
          by_cases c52 : x8_4 > 0
          · rw [if_pos c52] at H
            have c52b0 : decide (0 < x8_4) = true := decide_eq_true c52
            clear c52
            obtain ⟨ji53, hji53⟩ : ∃ j_ : Int, (wrap64 (x8_4 - 1)) = j_ := ⟨_, rfl⟩
            replace H : (if 0 ≤ (ji53) then (if (ji53) < (t940.length : Int) then (laws_FnPickWants.j5 kj35 t937 t940 t943 x8_4 (!(Op.bytesLess ((rdOf ByteArray.empty t940 (ji53)).toList) ((rdOf ByteArray.empty t940 x8_4).toList)))) else (none)) else (none)) = some r := by first | (rw [hji53] at H; exact H) | (simp only [hji53] at H ⊢; exact H)
            have hji53w : (IntKind.i64.wrap (x8_4 - 1)) = ji53 := (i64_w _).trans hji53
            by_cases c54 : 0 ≤ (ji53)
            · rw [if_pos c54] at H
              have c54b0 : decide (0 ≤ (ji53)) = true := decide_eq_true c54
              clear c54
              by_cases c55 : (ji53) < (t940.length : Int)
              · rw [if_pos c55] at H
                have c55b0 : decide ((ji53) < (t940.length : Int)) = true := decide_eq_true c55
                clear c55
                have H' := aM H
                clear H
                have p959 : 0 ≤ (x8_4 : Int) := oD (by first | with_reducible assumption | assumption)
                have q959 : x8_4 < (t940.length : Int) := oD (by first | with_reducible assumption | assumption)
                obtain ⟨ad959, e959, hx959_0⟩ := Kd.at_string (Kd.R_reads' HO_4.out).2.2 x8_4 p959 q959
                obtain rfl : ad955 = ad959 := (by injection e959)
                replace p959 := eq_true p959; replace q959 := eq_true q959
                obtain ⟨Ao56, co56, eo56⟩ := Kd.R_slice HO_5.out
                subst eo56
                have p960 : 0 ≤ (x8_4 : Int) := oD (by first | with_reducible assumption | assumption)
                have q960 : x8_4 < (t943.length : Int) := oD (by first | with_reducible assumption | assumption)
                obtain ⟨ad960, e960, hx960_0⟩ := Kd.at_string (Kd.R_reads' HO_5.out).2.2 x8_4 p960 q960
                cases e960
                replace p960 := eq_true p960; replace q960 := eq_true q960
                have p961 : 0 ≤ (x8_4 : Int) := oD (by first | with_reducible assumption | assumption)
                have q961 : x8_4 < (t940.length : Int) := oD (by first | with_reducible assumption | assumption)
                obtain ⟨ad961, e961, hx961_0⟩ := Kd.at_string (Kd.R_reads' HO_4.out).2.2 x8_4 p961 q961
                obtain rfl : ad955 = ad961 := (by injection e961)
                replace p961 := eq_true p961; replace q961 := eq_true q961
                have p962 : 0 ≤ ((ji53) : Int) := oD (by first | with_reducible assumption | assumption)
                have q962 : (ji53) < (t940.length : Int) := oD (by first | with_reducible assumption | assumption)
                obtain ⟨ad962, e962, hx962_0⟩ := Kd.at_string (Kd.R_reads' HO_4.out).2.2 (ji53) p962 q962
                obtain rfl : ad955 = ad962 := (by injection e962)
                replace p962 := eq_true p962; replace q962 := eq_true q962
                go_wp2
                repeat (go_quiet (fail); try go_wp2)
                go_meet
                case rel => exact ⟨_, (!(Op.bytesLess ((rdOf ByteArray.empty t940 (ji53)).toList) ((rdOf ByteArray.empty t940 x8_4).toList))), (by first | rfl | (simp; done) | (simp only [← hji53] <;> (first | rfl | simp)) | (simp [*]; done)), H', ⟨by have := HJ1.out; have := HJ7.out; have := HJ33.out; have := HK4.out; have := HJ35.out; first | omega | exact Nat.le_refl _⟩, ⟨by (with_reducible repeat (first | apply Na | apply Nn | apply Nd)); exact HO_3.out⟩, ⟨by (with_reducible repeat (first | apply Ra | apply Rn | apply Rd)); exact HO_4.out⟩, ⟨by (with_reducible repeat (first | apply Ra | apply Rn | apply Rd)); exact HO_5.out⟩, ⟨by repeat (with_reducible first | exact HB.out | apply bA | apply bN | apply bD)⟩⟩
              rw [if_neg c55] at H
              exact absurd H (by simp)
            rw [if_neg c54] at H
            exact absurd H (by simp)
          rw [if_neg c52] at H
          have c52b0 : decide (0 < x8_4) = false := decide_eq_false c52
          clear c52
          have H' := aM H
          clear H
          have p959 : 0 ≤ (x8_4 : Int) := oD (by first | with_reducible assumption | assumption)
          have q959 : x8_4 < (t940.length : Int) := oD (by first | with_reducible assumption | assumption)
          obtain ⟨ad959, e959, hx959_0⟩ := Kd.at_string (Kd.R_reads' HO_4.out).2.2 x8_4 p959 q959
          obtain rfl : ad955 = ad959 := (by injection e959)
          replace p959 := eq_true p959; replace q959 := eq_true q959
          obtain ⟨Ao57, co57, eo57⟩ := Kd.R_slice HO_5.out
          subst eo57
          have p960 : 0 ≤ (x8_4 : Int) := oD (by first | with_reducible assumption | assumption)
          have q960 : x8_4 < (t943.length : Int) := oD (by first | with_reducible assumption | assumption)
          obtain ⟨ad960, e960, hx960_0⟩ := Kd.at_string (Kd.R_reads' HO_5.out).2.2 x8_4 p960 q960
          cases e960
          replace p960 := eq_true p960; replace q960 := eq_true q960
          go_wp2
          repeat (go_quiet (fail); try go_wp2)
          go_meet
          case rel => exact ⟨_, (false), (by first | rfl | (simp; done) | (simp [*]; done)), H', ⟨by have := HJ1.out; have := HJ7.out; have := HJ33.out; have := HK4.out; have := HJ35.out; first | omega | exact Nat.le_refl _⟩, ⟨by (with_reducible repeat (first | apply Na | apply Nn | apply Nd)); exact HO_3.out⟩, ⟨by (with_reducible repeat (first | apply Ra | apply Rn | apply Rd)); exact HO_4.out⟩, ⟨by (with_reducible repeat (first | apply Ra | apply Rn | apply Rd)); exact HO_5.out⟩, ⟨by repeat (with_reducible first | exact HB.out | apply bA | apply bN | apply bD)⟩⟩
        rw [if_neg c51] at H
        have c51b0 : ((rdOf ByteArray.empty t940 x8_4).toList == (rdOf ByteArray.empty t943 x8_4).toList) = false := beq_eq_false_iff_ne.mpr c51
        have c51b1 : ((rdOf ByteArray.empty t940 x8_4).toList != (rdOf ByteArray.empty t943 x8_4).toList) = true := bne_iff_ne.mpr c51
        have H' := aM H
        clear H
        have p959 : 0 ≤ (x8_4 : Int) := oD (by first | with_reducible assumption | assumption)
        have q959 : x8_4 < (t940.length : Int) := oD (by first | with_reducible assumption | assumption)
        obtain ⟨ad959, e959, hx959_0⟩ := Kd.at_string (Kd.R_reads' HO_4.out).2.2 x8_4 p959 q959
        obtain rfl : ad955 = ad959 := (by injection e959)
        replace p959 := eq_true p959; replace q959 := eq_true q959
        obtain ⟨Ao58, co58, eo58⟩ := Kd.R_slice HO_5.out
        subst eo58
        have p960 : 0 ≤ (x8_4 : Int) := oD (by first | with_reducible assumption | assumption)
        have q960 : x8_4 < (t943.length : Int) := oD (by first | with_reducible assumption | assumption)
        obtain ⟨ad960, e960, hx960_0⟩ := Kd.at_string (Kd.R_reads' HO_5.out).2.2 x8_4 p960 q960
        cases e960
        replace p960 := eq_true p960; replace q960 := eq_true q960
        go_wp2
        repeat (go_quiet (fail); try go_wp2)
        go_meet
        case rel => exact ⟨_, (true), (by first | rfl | (simp; done) | (simp [*]; done)), H', ⟨by have := HJ1.out; have := HJ7.out; have := HJ33.out; have := HK4.out; have := HJ35.out; first | omega | exact Nat.le_refl _⟩, ⟨by (with_reducible repeat (first | apply Na | apply Nn | apply Nd)); exact HO_3.out⟩, ⟨by (with_reducible repeat (first | apply Ra | apply Rn | apply Rd)); exact HO_4.out⟩, ⟨by (with_reducible repeat (first | apply Ra | apply Rn | apply Rd)); exact HO_5.out⟩, ⟨by repeat (with_reducible first | exact HB.out | apply bA | apply bN | apply bD)⟩⟩
      rw [if_neg c50] at H
      exact absurd H (by simp)
     clear HC47; try clear c1; try clear p2; try clear c3; try clear c3b0; try clear c3b1; try clear c4; try clear c5; try clear p6; try clear c9; try clear p9; try clear q9; try clear hx9; try clear qi9; try clear c10; try clear c14; try clear c14b0; try clear c14b1; try clear c14b2; try clear c17; try clear c17b0; try clear c17b1; try clear c17b2; try clear c35; try clear c38; try clear c38b0; try clear c39; try clear c39b0; try clear c39b1; try clear c40; try clear c40b0; try clear c40b1; try clear c44; try clear c44b0; try clear c45; try clear c45b0; try clear c49; try clear c50; try clear c50b0; try clear c51; try clear c51b0; try clear c51b1; try clear c52; try clear c52b0; try clear c54; try clear c54b0; try clear c55; try clear c55b0; try clear hx955_0; try clear hx959_0; try clear hx960_0; try clear hx961_0; try clear hx962_0; try clear hx963_0; try clear p2; try clear p9; try clear p955; try clear p959; try clear p960; try clear p961; try clear p962; try clear p963; try clear q9; try clear q955; try clear q959; try clear q960; try clear q961; try clear q962; try clear q963
     obtain ⟨kq, x89_46, rfl, HA, HJ46, HO_3, HO_4, HO_5, HB⟩ := hcut
     obtain _ | kj46 := kq
     · exact absurd HA.out (by simp [laws_FnPickWants.j5])
     have H := HA.out
     clear HA
     simp only [laws_FnPickWants.j5] at H
     by_cases c59 : x89_46 = true
     · subst c59
       have H1 : (some false) = some r := by rw [if_pos rfl] at H; exact H
       clear H
       have H := H1
       clear H1
       obtain rfl := Option.some.inj H
       go_wp2
       skip
       go_ret
       exact ⟨by first | rfl | (simp [*, errW_none, errW_some] <;> rfl), by repeat (with_reducible first | exact HB.out | apply bA | apply bN | apply bD)⟩
     replace c59 := Bool.eq_false_iff.mpr c59
     subst c59
     have H1 : (laws_FnPickWants.l0 kj46 t937 t940 t943 (wrap64 (x8_4 + 1))) = some r := by rw [if_neg (show ¬ (false = true) by decide)] at H; exact H
     clear H
     have H := H1
     clear H1
     have H' := aM H
     clear H
     go_wp2
     skip
     go_roundg kj46
     case measure => have := HJ1.out; have := HJ7.out; have := HJ33.out; have := HK4.out; have := HJ35.out; have := HJ46.out; omega
     case rel => exact ⟨(wrap64 (x8_4 + 1)), (by first | rfl | (simp; done) | (simp [*]; done)), H', ⟨by have := HJ1.out; have := HJ7.out; have := HJ33.out; have := HK4.out; have := HJ35.out; have := HJ46.out; omega⟩, ⟨by (with_reducible repeat (first | apply Na | apply Nn | apply Nd)); exact HO_3.out⟩, ⟨by (with_reducible repeat (first | apply Ra | apply Rn | apply Rd)); exact HO_4.out⟩, ⟨by (with_reducible repeat (first | apply Ra | apply Rn | apply Rd)); exact HO_5.out⟩, ⟨by repeat (with_reducible first | exact HB.out | apply bA | apply bN | apply bD)⟩⟩
   rw [if_neg c45] at H
   exact absurd H (by simp)
 rw [if_neg c44] at H
 exact absurd H (by simp)
def laws_FnPickWants.Pure : Prop := ∀ (l0 : List Int), l0.length ≤ maxLen → l0.length * 1 ≤ 140737488351232 → (∀ x ∈ l0, (Lit.int .u8 x).wf = true) → ∃ k, laws_FnPickWants.f k l0 = some true
theorem laws_FnPickWants.walk (P : laws_FnPickWants.Pure) (a0 : Option Addr) (len0 cap0 : Nat) (z0 : List Int) (w : World) (w0 : (a0 = none ∧ len0 = 0 ∧ cap0 = 0 ∧ z0 = []) ∨ ∃ x, a0 = some x ∧ len0 ≤ cap0 ∧ cap0 ≤ maxLen ∧ z0.length = cap0 ∧ (∀ i, i < z0.length → w.cell? (x.add i) = some (.int .u8 (z0.getD i 0))) ∧ ∀ n ∈ z0, (Lit.int .u8 n).wf = true) (y0 : len0 * 1 ≤ 140737488351232) :
    Calls Try.prog 10 #[.slice a0 len0 cap0] w fun e w' => e = .returned (.bool true) ∧ Below w.heap.size w w' := by
  obtain ⟨l0, rfl, hr0, hm0, hw0, hc0⟩ := ReadsInt.ofRowC w0
  obtain ⟨k, h⟩ := P l0 hm0 y0 hw0
  refine (laws_FnPickWants.calls k _ _ l0 true w (Kd.C_of_reads (d := (0 : Int)) (h1 := fun _ => rfl) hr0) hc0 h).mono ?_
  rintro e w' ⟨rfl, hd⟩
  exact ⟨rfl, hd⟩
mutual
def spec_l2Wants.l0 : Nat → List (S30) → List ByteArray → Int → Option (List ByteArray)
  | 0, _, _, _ => none
  | k + 1, x0, x3, x4 => if x4 < (x0.length : Int) then (if 0 ≤ x4 then ((spec_l2Refs.f k ((rd_T30 x0 x4).f2)).bind fun t839 => (spec_l2Wants.l1 k x0 x3 x4 t839 0)) else (none)) else (some x3)
def spec_l2Wants.l1 : Nat → List (S30) → List ByteArray → Int → List ByteArray → Int → Option (List ByteArray)
  | 0, _, _, _, _, _ => none
  | k + 1, x0, x3, x4, x5, x6 => if x6 < (x5.length : Int) then (if 0 ≤ x6 then ((spec_l2Find.f k x0 (rdOf ByteArray.empty x5 x6)).bind fun t843 => (if t843 < 0 then ((spec_l2Put.f k x3 (rdOf ByteArray.empty x5 x6)).bind fun t845 => (spec_l2Wants.l1 k x0 t845 x4 x5 (wrap64 (x6 + 1)))) else (spec_l2Wants.l1 k x0 x3 x4 x5 (wrap64 (x6 + 1))))) else (none)) else (spec_l2Wants.l0 k x0 x3 (wrap64 (x4 + 1)))
end
def spec_l2Wants.f (k : Nat) (l0 : List (S30)) : Option (List ByteArray) := spec_l2Wants.l0 k l0 (([] : List ByteArray)) 0
def spec_UnitWants.f (k : Nat) (l0 : List (S30)) : Option (List ByteArray) := (spec_UnitOk.f k l0).bind fun t848 => (if t848 = true then ((spec_l2Wants.f k l0).bind fun t849 => (some t849)) else (some (([] : List ByteArray))))
end Go.Proofs.Ytpckkkcaffhhnaa.P
namespace Go.Proofs.Ytpckkkcaffhhnaa.L
open Go Go.Sort
abbrev B := List UInt8
theorem sort_pw (l : List B) : (l.mergeSort fun x y => decide (x ≤ y)).Pairwise (fun x y => x ≤ y) := by
  have := List.pairwise_mergeSort (le := fun x y : B => decide (x ≤ y)) (fun a b c h k => by simp only [decide_eq_true_eq] at *; exact List.le_trans h k) (fun a b => by simp only [Bool.or_eq_true, decide_eq_true_eq]; exact List.le_total a b) l
  exact this.imp (fun h => by simpa using h)
theorem pw_get {d : Array B} (h : d.toList.Pairwise (fun x y => x ≤ y)) {i j : Nat} (hij : i ≤ j) (hj : j < d.size) : d[i]! ≤ d[j]! := by
  rw [getElem!_pos d i (by omega), getElem!_pos d j hj]
  by_cases e : i = j
  · subst e; exact List.le_refl _
  · have := List.pairwise_iff_getElem.mp h i j (by simpa using (by omega : i < d.size)) (by simpa using hj) (by omega)
    simpa using this
theorem comp_ok (d : Array B) (h : d.toList.Pairwise (fun x y => x ≤ y)) : ∀ m, m ≤ d.size → (Lib.compactUpTo d m).Pairwise (fun x y => x < y) ∧ ∀ x, x ∈ Lib.compactUpTo d m ↔ ∃ j, j < m ∧ d[j]! = x := by
  intro m
  induction m with
  | zero => intro _; exact ⟨by simp [Lib.compactUpTo], by simp [Lib.compactUpTo]⟩
  | succ m ih =>
    intro hm
    obtain ⟨i1, i2⟩ := ih (by omega)
    rw [Lib.compactUpTo_succ]
    by_cases hk : Lib.keeps d m = true
    · rw [if_pos hk]
      refine ⟨List.pairwise_append.mpr ⟨i1, by simp, fun x hx y hy => ?_⟩, fun x => ?_⟩
      · obtain ⟨j, hj, rfl⟩ := (i2 x).mp hx
        obtain rfl := List.mem_singleton.mp hy
        simp only [Lib.keeps, decide_eq_true_eq] at hk
        rcases hk with hk | hk
        · omega
        · have h1 : d[j]! ≤ d[m - 1]! := pw_get h (by omega) (by omega)
          have h2 : d[m - 1]! ≤ d[m]! := pw_get h (by omega) (by omega)
          rcases List.le_iff_lt_or_eq.mp h2 with h3 | h3
          · exact List.lt_of_le_of_lt h1 h3
          · exact absurd h3.symm hk
      · rw [List.mem_append, i2, List.mem_singleton]
        constructor
        · rintro (⟨j, hj, rfl⟩ | rfl)
          · exact ⟨j, by omega, rfl⟩
          · exact ⟨m, by omega, rfl⟩
        · rintro ⟨j, hj, rfl⟩
          by_cases e : j = m
          · subst e; exact .inr rfl
          · exact .inl ⟨j, by omega, rfl⟩
    · rw [if_neg hk, List.append_nil]
      refine ⟨i1, fun x => ?_⟩
      rw [i2]
      simp only [Lib.keeps, decide_eq_true_eq, not_or, Decidable.not_not] at hk
      constructor
      · rintro ⟨j, hj, rfl⟩; exact ⟨j, by omega, rfl⟩
      · rintro ⟨j, hj, rfl⟩
        by_cases e : j = m
        · subst e; exact ⟨j - 1, by omega, hk.2.symm⟩
        · exact ⟨j, by omega, rfl⟩
theorem eq_of_pw : ∀ (l m : List B), l.Pairwise (fun x y => x < y) → m.Pairwise (fun x y => x < y) → (∀ x, x ∈ l ↔ x ∈ m) → l = m
  | [], [], _, _, _ => rfl
  | [], y :: m, _, _, h => by have := (h y).mpr (List.mem_cons_self); simp at this
  | x :: l, [], _, _, h => by have := (h x).mp (List.mem_cons_self); simp at this
  | x :: l, y :: m, hl, hm, h => by
    have hl' := List.pairwise_cons.mp hl
    have hm' := List.pairwise_cons.mp hm
    have hxy : x = y := by
      rcases List.mem_cons.mp ((h x).mp List.mem_cons_self) with e | e
      · exact e
      · rcases List.mem_cons.mp ((h y).mpr List.mem_cons_self) with e2 | e2
        · exact e2.symm
        · exact absurd (List.lt_trans (hl'.1 y e2) (hm'.1 x e)) (List.lt_irrefl x)
    subst hxy
    rw [eq_of_pw l m hl'.2 hm'.2 (fun z => by
      constructor
      · intro hz
        rcases List.mem_cons.mp ((h z).mp (List.mem_cons_of_mem _ hz)) with e | e
        · subst e; exact absurd (hl'.1 z hz) (List.lt_irrefl z)
        · exact e
      · intro hz
        rcases List.mem_cons.mp ((h z).mpr (List.mem_cons_of_mem _ hz)) with e | e
        · subst e; exact absurd (hm'.1 z hz) (List.lt_irrefl z)
        · exact e)]
def putL (l : List B) (s : B) : List B :=
  match l with
  | [] => [s]
  | x :: l => if x < s then x :: putL l s else if x = s then x :: l else s :: x :: l
theorem put_mem (s : B) : ∀ (l : List B) (x : B), x ∈ putL l s ↔ x = s ∨ x ∈ l
  | [], x => by simp [putL]
  | y :: l, x => by
    unfold putL
    split
    · rw [List.mem_cons, put_mem s l x, List.mem_cons]; constructor <;> (rintro (h | h | h) <;> simp [h])
    · split
      · rename_i h; subst h; simp
      · simp
theorem put_pw (s : B) : ∀ (l : List B), l.Pairwise (fun x y => x < y) → (putL l s).Pairwise (fun x y => x < y)
  | [], _ => by simp [putL]
  | y :: l, h => by
    have h' := List.pairwise_cons.mp h
    unfold putL
    split
    · rename_i hy
      refine List.pairwise_cons.mpr ⟨fun z hz => ?_, put_pw s l h'.2⟩
      rcases (put_mem s l z).mp hz with rfl | hz
      · exact hy
      · exact h'.1 z hz
    · split
      · exact h
      · rename_i h1 h2
        have hs : s < y := by
          rcases List.le_iff_lt_or_eq.mp (List.not_lt.mp h1) with e | e
          · exact e
          · exact absurd e.symm h2
        refine List.pairwise_cons.mpr ⟨fun z hz => ?_, h⟩
        rcases List.mem_cons.mp hz with rfl | hz
        · exact hs
        · exact List.lt_trans hs (h'.1 z hz)
theorem put_all (ns : List B) : ns.foldl putL [] = Lib.compact (ns.mergeSort fun x y => decide (x ≤ y)) := by
  have key : ∀ (ns acc : List B), acc.Pairwise (fun x y => x < y) → (ns.foldl putL acc).Pairwise (fun x y => x < y) ∧ ∀ x, x ∈ ns.foldl putL acc ↔ x ∈ acc ∨ x ∈ ns := by
    intro ns
    induction ns with
    | nil => intro acc h; exact ⟨h, by simp⟩
    | cons a ns ih =>
      intro acc h
      obtain ⟨h1, h2⟩ := ih (putL acc a) (put_pw a acc h)
      refine ⟨h1, fun x => ?_⟩
      rw [List.foldl, h2, put_mem, List.mem_cons]
      constructor
      · rintro ((h | h) | h) <;> simp [h]
      · rintro (h | h | h) <;> simp [h]
  obtain ⟨k1, k2⟩ := key ns [] List.Pairwise.nil
  have hs := sort_pw ns
  obtain ⟨c1, c2⟩ := comp_ok (ns.mergeSort fun x y => decide (x ≤ y)).toArray (by simpa using hs) (ns.mergeSort fun x y => decide (x ≤ y)).length (by simp)
  refine eq_of_pw _ _ k1 c1 (fun x => ?_)
  rw [k2]
  unfold Lib.compact
  rw [c2, ← List.mem_mergeSort (le := fun x y : B => decide (x ≤ y)) (l := ns) (a := x)]
  constructor
  · rintro (h | h)
    · simp at h
    · obtain ⟨j, hj, rfl⟩ := List.mem_iff_getElem.mp h
      exact ⟨j, hj, by rw [getElem!_pos _ _ (by simpa using hj)]; simp⟩
  · rintro ⟨j, hj, rfl⟩
    refine .inr ?_
    rw [getElem!_pos _ _ (by simpa using hj)]
    simp
end Go.Proofs.Ytpckkkcaffhhnaa.L
namespace Go.Proofs.Ytpckkkcaffhhnaa.L
open Go.RowKit Go.Proofs.YtpckkkcaffhhnaaW.PrintWords Go.Proofs.YtpckkkcaffhhnaaW.PrintLast Go.Proofs.YtpckkkcaffhhnaaW.PrintMore Go.Proofs.Ytpckkkcaffhhnaa.P
def runS {α σ β : Type} (f : Nat → α → σ → σ ⊕ β) (E : σ → β) : List α → Nat → σ → β
  | [], _, s => E s
  | x :: l, i, s => match f i x s with
    | .inl s' => runS f E l (i + 1) s'
    | .inr r => r
theorem loop_run {α σ β : Type} (f : Nat → α → σ → σ ⊕ β) (E : Nat → σ → β) (I : Nat → σ → Prop) (d : α) (l : List α) (hn : l.length ≤ 9223372036854775806) (L : Nat → σ → Int → β) (K : Nat)
    (hS : ∀ (k i : Nat) (s : σ), K ≤ k → i < l.length → I i s → L (k + 1) s (i : Int) = match f i (l.getD i d) s with | .inl s' => L k s' (wrap64 ((i : Int) + 1)) | .inr r => r)
    (hI : ∀ (i : Nat) (s s' : σ), i < l.length → I i s → f i (l.getD i d) s = .inl s' → I (i + 1) s')
    (hE : ∀ (k : Nat) (s : σ), K ≤ k → I l.length s → L (k + 1) s (l.length : Int) = E k s) (k : Nat) (hk : K + l.length < k) (s : σ) (h0 : I 0 s) : L k s 0 = runS f (E (k - l.length - 1)) l 0 s := by
  have key : ∀ (n k i : Nat) (s : σ), i + n = l.length → K + n < k → I i s → L k s (i : Int) = runS f (E (k - n - 1)) (l.drop i) i s := by
    intro n
    induction n with
    | zero =>
      intro k i s hi hk hs
      obtain ⟨k, rfl, _⟩ := succ_of hk
      have : i = l.length := by omega
      subst this
      rw [hE k s (by omega) hs, List.drop_length]
      rfl
    | succ n ih =>
      intro k i s hi hk hs
      obtain ⟨k, rfl, _⟩ := succ_of hk
      rw [hS k i s (by omega) (by omega) hs, drop_getD l d i (by omega)]
      simp only [runS]
      cases hf : f i (l.getD i d) s with
      | inr r => rfl
      | inl s' =>
        simp only
        rw [wrap_id (by omega) (by omega)]
        have h2 := ih k (i + 1) s' (by omega) (by omega) (hI i s s' (by omega) hs hf)
        rw [show k + 1 - (n + 1) - 1 = k - n - 1 by omega, ← h2]
        rfl
  have h := key l.length k 0 s (by omega) hk h0
  simpa using h
theorem loop_var {α σ β : Type} (f : Nat → α → σ → σ ⊕ β) (E : σ → β) (I : Nat → σ → Prop) (d : α) (l : List α) (hn : l.length ≤ 9223372036854775806) (L : Nat → σ → Int → β) (K c : Nat)
    (hS : ∀ (k i : Nat) (s : σ), K ≤ k → i < l.length → I i s → match f i (l.getD i d) s with
      | .inl s' => I (i + 1) s' ∧ ∃ k', k ≤ k' + c ∧ L (k + 1) s (i : Int) = L k' s' (wrap64 ((i : Int) + 1))
      | .inr r => L (k + 1) s (i : Int) = r)
    (hE : ∀ (k : Nat) (s : σ), K ≤ k → I l.length s → L (k + 1) s (l.length : Int) = E s) (k : Nat) (hk : K + l.length * (c + 1) < k) (s : σ) (h0 : I 0 s) : L k s 0 = runS f E l 0 s := by
  have key : ∀ (n k i : Nat) (s : σ), i + n = l.length → K + n * (c + 1) < k → I i s → L k s (i : Int) = runS f E (l.drop i) i s := by
    intro n
    induction n with
    | zero =>
      intro k i s hi hk hs
      obtain ⟨k, rfl, _⟩ := succ_of hk
      have : i = l.length := by omega
      subst this
      rw [hE k s (by omega) hs, List.drop_length]
      rfl
    | succ n ih =>
      intro k i s hi hk hs
      rw [Nat.succ_mul] at hk
      obtain ⟨k, rfl, _⟩ := succ_of hk
      have h := hS k i s (by omega) (by omega) hs
      rw [drop_getD l d i (by omega)]
      simp only [runS]
      cases hf : f i (l.getD i d) s with
      | inr r => rw [hf] at h; exact h
      | inl s' =>
        rw [hf] at h
        obtain ⟨h1, k', h2, h3⟩ := h
        simp only
        rw [h3, wrap_id (by omega) (by omega)]
        have h4 := ih k' (i + 1) s' (by omega) (by omega) h1
        rw [← h4]
        rfl
  have h := key l.length k 0 s (by omega) hk h0
  simpa using h
end Go.Proofs.Ytpckkkcaffhhnaa.L
namespace Go.Proofs.Ytpckkkcaffhhnaa.L
open Go.RowKit Go.Sort Go.Proofs.YtpckkkcaffhhnaaW.PrintWords Go.Proofs.YtpckkkcaffhhnaaW.PrintLast Go.Proofs.YtpckkkcaffhhnaaW.PrintMore Go.Proofs.Ytpckkkcaffhhnaa.P
def putB : List ByteArray → ByteArray → List ByteArray
  | [], a => [a]
  | x :: l, a => if Op.bytesLess x.toList a.toList = true then x :: putB l a else if x.toList = a.toList then x :: l else a :: x :: l
theorem putB_bytes (a : ByteArray) : ∀ l : List ByteArray, bytesL (putB l a) = putL (bytesL l) a.data.toList
  | [] => rfl
  | x :: l => by
    have h1 : Op.bytesLess x.toList a.toList = decide (x.data.toList < a.data.toList) := by rw [bytesLess_eq, Lib.toList_data, Lib.toList_data]
    unfold putB
    rw [h1, Lib.toList_data, Lib.toList_data]
    show _ = (if x.data.toList < a.data.toList then x.data.toList :: putL (bytesL l) a.data.toList else if x.data.toList = a.data.toList then x.data.toList :: bytesL l else a.data.toList :: x.data.toList :: bytesL l)
    by_cases h : x.data.toList < a.data.toList
    · rw [if_pos h, if_pos (decide_eq_true h), ← putB_bytes a l]; rfl
    · rw [if_neg h, if_neg (by rw [decide_eq_false h]; decide)]
      by_cases h2 : x.data.toList = a.data.toList
      · rw [if_pos h2, if_pos h2]; rfl
      · rw [if_neg h2, if_neg h2]; rfl
theorem texts_bytes (l : List ByteArray) : textsL (bytesL l) = l := by
  simp only [bytesL, textsL, List.map_map]
  exact (List.map_congr_left (fun x _ => by simp)).trans (List.map_id l)
theorem putB_len (a : ByteArray) : ∀ l : List ByteArray, (putB l a).length ≤ l.length + 1
  | [] => by simp [putB]
  | x :: l => by
    have := putB_len a l
    unfold putB
    split
    · simp only [List.length_cons]; omega
    · split
      · simp only [List.length_cons]; omega
      · simp only [List.length_cons]; omega
theorem puts_ordered (ns : List ByteArray) : ns.foldl putB [] = orderedV ns := by
  have key : ∀ (ns acc : List ByteArray), bytesL (ns.foldl putB acc) = (bytesL ns).foldl putL (bytesL acc) := by
    intro ns
    induction ns with
    | nil => intro acc; rfl
    | cons a ns ih => intro acc; rw [List.foldl, ih, putB_bytes]; rfl
  rw [← texts_bytes (ns.foldl putB []), key]
  unfold orderedV sortV
  rw [show bytesL ([] : List ByteArray) = [] from rfl, put_all]
theorem spec_l2Put_f (l : List ByteArray) (hn : l.length ≤ 1000000) (a : ByteArray) (k : Nat) (hk : l.length < k) : spec_l2Put.f k l a = some (putB l a) := by
  unfold spec_l2Put.f
  refine (loop_run (fun i x (_ : Unit) => if Op.bytesLess x.toList a.toList = true then (.inl () : Unit ⊕ Option (List ByteArray)) else if x.toList = a.toList then .inr (some l) else .inr (some (l.take i ++ [a] ++ l.drop i))) (fun _ _ => some (l ++ [a])) (fun _ _ => True) ByteArray.empty l (by omega) (fun k _ i => spec_l2Put.l0 k l a i) 0 ?_ (fun _ _ _ _ _ _ => trivial) ?_ k (by omega) () trivial).trans ?_
  · intro k i _ _ hi _
    simp only [spec_l2Put.l0, Option.bind_some]
    rw [if_pos (by omega), if_pos (by omega)]
    rw [show rdOf ByteArray.empty l (i : Int) = l.getD i ByteArray.empty from rfl]
    by_cases h : Op.bytesLess (l.getD i ByteArray.empty).toList a.toList = true
    · rw [if_pos h, if_pos h]
    · rw [if_neg h, if_neg h]
      by_cases h2 : (l.getD i ByteArray.empty).toList = a.toList
      · rw [if_pos h2, if_pos h2]
      · rw [if_neg h2, if_neg h2, if_pos (by omega), if_pos (by simp only [List.length_nil, List.length_drop]; omega), if_pos (by simp only [List.length_take]; omega), if_pos (by simp only [List.length_append, List.length_take, List.length_nil, List.length_drop, List.length_cons]; omega)]
        rfl
  · intro k _ _ _
    simp only [spec_l2Put.l0, Option.bind_some]
    rw [if_neg (by omega), if_pos (by omega)]
    simp
    omega
  · have key : ∀ (l' pre : List ByteArray), l = pre ++ l' → runS (fun i x (_ : Unit) => if Op.bytesLess x.toList a.toList = true then (.inl () : Unit ⊕ Option (List ByteArray)) else if x.toList = a.toList then .inr (some l) else .inr (some (l.take i ++ [a] ++ l.drop i))) (fun _ => some (l ++ [a])) l' pre.length () = some (pre ++ putB l' a) := by
      intro l'
      induction l' with
      | nil => intro pre e; rw [List.append_nil] at e; subst e; rfl
      | cons x l' ih =>
        intro pre e
        simp only [runS, putB]
        by_cases h : Op.bytesLess x.toList a.toList = true
        · rw [if_pos h, if_pos h]
          simp only
          have := ih (pre ++ [x]) (by rw [e]; simp)
          rw [List.length_append] at this
          rw [show pre.length + 1 = pre.length + [x].length from rfl, this]
          simp
        · rw [if_neg h, if_neg h]
          by_cases h2 : x.toList = a.toList
          · rw [if_pos h2, if_pos h2]; simp only [e]
          · rw [if_neg h2, if_neg h2]; simp [e]
    exact key l [] rfl
end Go.Proofs.Ytpckkkcaffhhnaa.L
namespace Go.Proofs.Ytpckkkcaffhhnaa.P
open Go.RowKit Go.Proofs.YtpckkkcaffhhnaaW.PrintWords Go.Proofs.YtpckkkcaffhhnaaW.PrintLast Go.Proofs.YtpckkkcaffhhnaaW.PrintMore
attribute [local go_sem] max2_int min2_int max_two min_two max_three min_three max_four min_four
def impl_FunRefs.f (k : Nat) (a0_0 : ByteArray) (a0_1 : Bool) (l0_2 : List (S38)) : Option (List ByteArray) := (impl_FunOk.f a0_0 a0_1 l0_2).bind fun t297 => (if t297 = true then ((impl_Fun_refs.f k a0_0 a0_1 l0_2).bind fun t298 => (some t298)) else (some ([] : List ByteArray)))
def spec_FunRefs.f (k : Nat) (a0_0 : ByteArray) (a0_1 : Bool) (l0_2 : List (S38)) : Option (List ByteArray) := (spec_FunOk.f k a0_0 a0_1 l0_2).bind fun t315 => (if t315 = true then ((spec_l2Refs.f k l0_2).bind fun t316 => (some t316)) else (some (([] : List ByteArray))))
end Go.Proofs.Ytpckkkcaffhhnaa.P
namespace Go.Proofs.Ytpckkkcaffhhnaa.L
open Go.RowKit Go.Proofs.YtpckkkcaffhhnaaW.PrintWords Go.Proofs.YtpckkkcaffhhnaaW.PrintLast Go.Proofs.YtpckkkcaffhhnaaW.PrintMore Go.Proofs.Ytpckkkcaffhhnaa.P
def hasB (l : List ByteArray) (a : ByteArray) : Bool := l.any fun x => x.toList == a.toList
def refsAdd (x : S38) (s : List ByteArray) : List ByteArray := if refersB x.f0 && !hasB s x.f2 then s ++ [x.f2] else s
def refsV (l : List S38) : List ByteArray := l.foldl (fun s x => refsAdd x s) []
theorem refsAdd_len (x : S38) (s : List ByteArray) : (refsAdd x s).length ≤ s.length + 1 := by
  unfold refsAdd
  split
  · simp
  · omega
theorem foldl_len : ∀ (l : List S38) (s : List ByteArray), (l.foldl (fun s x => refsAdd x s) s).length ≤ s.length + l.length
  | [], s => by simp
  | x :: l, s => by
    have := foldl_len l (refsAdd x s)
    have := refsAdd_len x s
    simp only [List.foldl, List.length_cons]
    omega
theorem refsV_len (l : List S38) : (refsV l).length ≤ l.length := by
  have := foldl_len l []
  simpa [refsV] using this
theorem runS_fold {β : Type} (E : List ByteArray → β) : ∀ (l : List S38) (i : Nat) (s : List ByteArray), runS (fun _ x s => (.inl (refsAdd x s) : List ByteArray ⊕ β)) E l i s = E (l.foldl (fun s x => refsAdd x s) s)
  | [], _, _ => rfl
  | x :: l, i, s => runS_fold E l (i + 1) (refsAdd x s)
theorem slices_Contains_sstring_string_f (l : List ByteArray) (hn : l.length ≤ 9223372036854775807) (a : ByteArray) (k : Nat) (hk : l.length < k) : slices_Contains_sstring_string.f k l a = some (hasB l a) := by
  unfold slices_Contains_sstring_string.f slices_Index_sstring_string.f
  have h : slices_Index_sstring_string.l0 k l a (l.length : Int) 0 = some (idxFrom (fun x => x.toList == a.toList) l 0) := by
    refine loop_idx (fun x => x.toList == a.toList) ByteArray.empty l hn (fun k i => slices_Index_sstring_string.l0 k l a (l.length : Int) i) 0 ?_ ?_ ?_ k (by omega)
    · intro k i _ hi hq
      simp only [slices_Index_sstring_string.l0]
      rw [if_pos (by omega), if_pos (by omega), if_pos (by omega), if_pos (show a.toList = (rdOf ByteArray.empty l (i : Int)).toList from (beq_iff_eq.mp hq).symm)]
    · intro k i _ hi hq
      simp only [slices_Index_sstring_string.l0]
      rw [if_pos (by omega), if_pos (by omega), if_pos (by omega), if_neg (show ¬ a.toList = (rdOf ByteArray.empty l (i : Int)).toList from fun e => beq_eq_false_iff_ne.mp hq e.symm)]
    · intro k _
      simp only [slices_Index_sstring_string.l0]
      rw [if_neg (by omega)]
  rw [h]
  simp only [Option.bind_some, hasB]
  rw [← idxFrom_any _ l 0 (by decide)]
theorem spec_l2Has_f (l : List ByteArray) (hn : l.length ≤ 9223372036854775806) (a : ByteArray) (k : Nat) (hk : l.length < k) : spec_l2Has.f k l a = some (hasB l a) := by
  have e : ∀ (l' : List ByteArray) (i : Nat), runS (fun _ x (_ : Unit) => if x.toList = a.toList then (.inr (some true) : Unit ⊕ Option Bool) else .inl ()) (fun _ => some false) l' i () = some (hasB l' a) := by
    intro l'
    induction l' with
    | nil => intro i; rfl
    | cons x l' ih =>
      intro i
      simp only [runS, hasB, List.any_cons]
      by_cases h : x.toList = a.toList
      · rw [if_pos h, beq_iff_eq.mpr h]; rfl
      · rw [if_neg h, beq_eq_false_iff_ne.mpr h]
        exact ih (i + 1)
  unfold spec_l2Has.f
  refine (loop_run (fun _ x (_ : Unit) => if x.toList = a.toList then (.inr (some true) : Unit ⊕ Option Bool) else .inl ()) (fun _ _ => some false) (fun _ _ => True) ByteArray.empty l hn (fun k _ i => spec_l2Has.l0 k l a i) 0 ?_ (fun _ _ _ _ _ _ => trivial) ?_ k (by omega) () trivial).trans (e l 0)
  · intro k i s _ hi _
    simp only [spec_l2Has.l0]
    rw [if_pos (by omega), if_pos (by omega)]
    show (if (l.getD i ByteArray.empty).toList = a.toList then _ else _) = _
    split <;> rfl
  · intro k s _ _
    simp only [spec_l2Has.l0]
    rw [if_neg (by omega)]
theorem impl_Fun_refs_f (a : ByteArray) (b : Bool) (l : List S38) (hn : l.length ≤ 8796093022207) (k : Nat) (hk : 2 * l.length + 5 < k) : impl_Fun_refs.f k a b l = some (refsV l) := by
  unfold impl_Fun_refs.f
  refine (loop_run (fun _ x s => (.inl (refsAdd x s) : List ByteArray ⊕ Option (List ByteArray))) (fun _ s => some s) (fun i s => s.length ≤ i) z38 l (by omega) (fun k s i => impl_Fun_refs.l0 k s l (l.length : Int) i) (l.length + 1) ?_ ?_ ?_ k (by omega) [] (by simp)).trans (runS_fold _ l 0 [])
  · intro k i s hK hi hs
    simp only [impl_Fun_refs.l0]
    rw [if_pos (by omega), if_pos (by omega), if_pos (by omega), impl_InsRefs_f (rd_T38 l (i : Int)).f0 _ _]
    simp only [Option.bind_some]
    rw [slices_Contains_sstring_string_f s (by omega) _ k (by omega)]
    simp only [Option.bind_some]
    show (if refersB (l.getD i z38).f0 = true then (if hasB s (l.getD i z38).f2 = true then _ else (if s.length < 8796093022208 then impl_Fun_refs.l0 k (s ++ [(l.getD i z38).f2]) l (l.length : Int) (wrap64 ((i : Int) + 1)) else none)) else _) = impl_Fun_refs.l0 k (refsAdd (l.getD i z38) s) l (l.length : Int) (wrap64 ((i : Int) + 1))
    rw [if_pos (show s.length < 8796093022208 by omega)]
    unfold refsAdd
    cases refersB (l.getD i z38).f0 <;> cases hasB s (l.getD i z38).f2 <;> rfl
  · intro i s s' hi hs he
    have := refsAdd_len (l.getD i z38) s
    cases he
    omega
  · intro k s _ _
    simp only [impl_Fun_refs.l0]
    rw [if_neg (by omega)]
theorem spec_l2Refs_f (l : List S38) (hn : l.length ≤ 8796093022207) (k : Nat) (hk : 2 * l.length + 5 < k) : spec_l2Refs.f k l = some (refsV l) := by
  unfold spec_l2Refs.f
  refine (loop_run (fun _ x s => (.inl (refsAdd x s) : List ByteArray ⊕ Option (List ByteArray))) (fun _ s => some s) (fun i s => s.length ≤ i) z38 l (by omega) (fun k s i => spec_l2Refs.l0 k l s i) (l.length + 1) ?_ ?_ ?_ k (by omega) [] (by simp)).trans (runS_fold _ l 0 [])
  · intro k i s hK hi hs
    simp only [spec_l2Refs.l0]
    rw [if_pos (by omega), if_pos (by omega), spec_InsRefs_f (rd_T38 l (i : Int)).f0 _ _]
    simp only [Option.bind_some]
    rw [spec_l2Has_f s (by omega) _ k (by omega)]
    simp only [Option.bind_some]
    show (if refersB (l.getD i z38).f0 = true then (if hasB s (l.getD i z38).f2 = true then _ else (if s.length < 8796093022208 then spec_l2Refs.l0 k l (s ++ [(l.getD i z38).f2]) (wrap64 ((i : Int) + 1)) else none)) else _) = spec_l2Refs.l0 k l (refsAdd (l.getD i z38) s) (wrap64 ((i : Int) + 1))
    rw [if_pos (show s.length < 8796093022208 by omega)]
    unfold refsAdd
    cases refersB (l.getD i z38).f0 <;> cases hasB s (l.getD i z38).f2 <;> rfl
  · intro i s s' hi hs he
    have := refsAdd_len (l.getD i z38) s
    cases he
    omega
  · intro k s _ _
    simp only [spec_l2Refs.l0]
    rw [if_neg (by omega)]
def lackOf (p : List S30) (ns : List ByteArray) : List ByteArray := ns.filter fun a => decide (findI p a < 0)
def lackRaw (p l : List S30) : List ByteArray := l.flatMap fun x => lackOf p (refsV x.f2)
theorem lackOf_len (p : List S30) (ns : List ByteArray) : (lackOf p ns).length ≤ ns.length := List.length_filter_le _ _
theorem runS_filter {β : Type} (q : ByteArray → Bool) (E : List ByteArray → β) : ∀ (l : List ByteArray) (i : Nat) (s : List ByteArray), runS (fun _ a s => if q a then (.inl (s ++ [a]) : List ByteArray ⊕ β) else .inl s) E l i s = E (s ++ l.filter q)
  | [], _, s => by simp [runS]
  | a :: l, i, s => by
    simp only [runS, List.filter_cons]
    cases h : q a with
    | true => rw [if_pos rfl, if_pos rfl]; simp only; rw [runS_filter q E l (i + 1) (s ++ [a]), List.append_assoc]; rfl
    | false => rw [if_neg (by decide), if_neg (by decide)]; simp only; exact runS_filter q E l (i + 1) s
theorem runS_flat {β : Type} (p : List S30) (E : List ByteArray → β) : ∀ (l : List S30) (i : Nat) (s : List ByteArray), runS (fun _ x s => (.inl (s ++ lackOf p (refsV x.f2)) : List ByteArray ⊕ β)) E l i s = E (s ++ lackRaw p l)
  | [], _, s => by simp [runS, lackRaw]
  | x :: l, i, s => by
    simp only [runS]
    rw [runS_flat p E l (i + 1) _, List.append_assoc]
    rfl
theorem impl_lacking_l1 (p l : List S30) (c j : Int) (ns : List ByteArray) (hn : ns.length ≤ 1000) (s : List ByteArray) (hs : s.length ≤ 1000000) (k : Nat) (hk : ns.length < k) :
    impl_lacking.l1 k p s l c j ns (ns.length : Int) 0 = impl_lacking.l0 (k - ns.length - 1) p (s ++ lackOf p ns) l c (wrap64 (j + 1)) := by
  refine (loop_run (fun _ a s => if decide (findI p a < 0) then (.inl (s ++ [a]) : List ByteArray ⊕ Option (List ByteArray)) else .inl s) (fun k s => impl_lacking.l0 k p s l c (wrap64 (j + 1))) (fun i s => s.length ≤ 1000000 + i) ByteArray.empty ns (by omega) (fun k s i => impl_lacking.l1 k p s l c j ns (ns.length : Int) i) 0 ?_ ?_ ?_ k (by omega) s (by omega)).trans (runS_filter _ _ ns 0 s)
  · intro k i s _ hi hI
    simp only [impl_lacking.l1, impl_find.f]
    rw [if_pos (by omega), if_pos (by omega), if_pos (by omega)]
    simp only [Option.bind_some]
    show (if findI p (ns.getD i ByteArray.empty) < 0 then (if s.length < 8796093022208 then impl_lacking.l1 k p (s ++ [ns.getD i ByteArray.empty]) l c j ns (ns.length : Int) (wrap64 ((i : Int) + 1)) else none) else _) = _
    rw [if_pos (show s.length < 8796093022208 by omega)]
    by_cases h : findI p (ns.getD i ByteArray.empty) < 0
    · rw [if_pos h, if_pos (decide_eq_true h)]
    · rw [if_neg h, if_neg (by rw [decide_eq_false h]; decide)]
  · intro i s s' hi hI he
    split at he
    · cases he; simp only [List.length_append, List.length_cons, List.length_nil]; omega
    · cases he; omega
  · intro k s _ _
    simp only [impl_lacking.l1]
    rw [if_neg (by omega)]
theorem impl_lacking_f (p : List S30) (hn : p.length ≤ 100) (hx : ∀ x ∈ p, x.f2.length ≤ 100) (k : Nat) (hk : 100000 < k) : impl_lacking.f k p = some (orderedV (lackRaw p p)) := by
  unfold impl_lacking.f
  refine (loop_var (fun _ x s => (.inl (s ++ lackOf p (refsV x.f2)) : List ByteArray ⊕ Option (List ByteArray))) (fun s => some (orderedV s)) (fun i s => s.length ≤ 100 * i) z30 p (by omega) (fun k s i => impl_lacking.l0 k p s p (p.length : Int) i) 1000 200 ?_ ?_ k (by omega) [] (by simp)).trans (by rw [runS_flat]; rfl)
  · intro k i s hK hi hs
    have hr := refsV_len (p.getD i z30).f2
    have hx2 := hx _ (getD_mem (d := z30) hi)
    have hl := lackOf_len p (refsV (p.getD i z30).f2)
    simp only
    refine ⟨by rw [List.length_append]; omega, k - (refsV (p.getD i z30).f2).length - 1, by omega, ?_⟩
    simp only [impl_lacking.l0]
    rw [show rd_T30 p (i : Int) = p.getD i z30 from rfl]
    rw [if_pos (by omega), if_pos (by omega), if_pos (by omega), impl_Fun_refs_f _ _ (p.getD i z30).f2 (by omega) k (by omega)]
    simp only [Option.bind_some]
    rw [impl_lacking_l1 p p _ _ _ (by omega) s (by omega) k (by omega)]
  · intro k s _ hs
    simp only [impl_lacking.l0]
    rw [if_neg (by omega)]
    unfold impl_ordered.f
    rw [if_pos (by omega)]
    rfl
theorem unitGood_len {p : List S30} (h : unitGood p = true) : ∀ x ∈ p, x.f2.length ≤ 10 := by
  have key : ∀ (l : List S30) (i : Nat), allFrom (fun i x => funOkB x.f0 x.f2 && (findI p x.f0 == (i : Int))) l i = true → ∀ x ∈ l, x.f2.length ≤ 10 := by
    intro l
    induction l with
    | nil => intro i _ x hx; simp at hx
    | cons y l ih =>
      intro i h x hx
      simp only [allFrom, Bool.and_eq_true] at h
      rcases List.mem_cons.mp hx with rfl | hx
      · exact (funOkB_len h.1.1).2
      · exact ih (i + 1) h.2 x hx
  exact key p 0 h
theorem puts_len (ns : List ByteArray) : ∀ s : List ByteArray, (ns.foldl putB s).length ≤ s.length + ns.length := by
  induction ns with
  | nil => intro s; simp
  | cons a ns ih =>
    intro s
    have := ih (putB s a)
    have := putB_len a s
    simp only [List.foldl, List.length_cons]
    omega
def unitWantsV (l : List S30) : List ByteArray := if unitOkB l = true then orderedV (lackRaw l l) else []
theorem unitOk_bounds {l : List S30} (h : unitOkB l = true) : l.length ≤ 5 ∧ ∀ x ∈ l, x.f2.length ≤ 10 := by
  unfold unitOkB at h
  simp only [Bool.and_eq_true, decide_eq_true_eq] at h
  exact ⟨h.2, unitGood_len h.1⟩
theorem orderedV_len (ns : List ByteArray) : (orderedV ns).length ≤ ns.length := by
  have := puts_len ns []
  rw [puts_ordered] at this
  simpa using this
theorem lackRaw_len (p : List S30) (B : Nat) : ∀ l : List S30, (∀ x ∈ l, x.f2.length ≤ B) → (lackRaw p l).length ≤ l.length * B
  | [], _ => by simp [lackRaw]
  | x :: l, h => by
    have e : lackRaw p (x :: l) = lackOf p (refsV x.f2) ++ lackRaw p l := by simp [lackRaw]
    have h1 := lackRaw_len p B l (fun y hy => h y (List.mem_cons_of_mem _ hy))
    have h2 := lackOf_len p (refsV x.f2)
    have h3 := refsV_len x.f2
    have h4 := h x (List.mem_cons_self ..)
    rw [e, List.length_append, List.length_cons, Nat.succ_mul]
    omega
theorem impl_UnitWants_f (l : List S30) (hn : l.length ≤ 140737488351232) (hx : ∀ x ∈ l, FitF x) (k : Nat) (hk : 1000000 + l.length < k) : impl_UnitWants.f k l = some (unitWantsV l) := by
  unfold impl_UnitWants.f unitWantsV
  rw [impl_UnitOk_f l hn hx k (by omega)]
  simp only [Option.bind_some]
  cases h : unitOkB l with
  | false => rfl
  | true =>
    obtain ⟨h1, h2⟩ := unitOk_bounds h
    simp only [if_true]
    rw [impl_lacking_f l (by omega) (fun x hx => by have := h2 x hx; omega) k (by omega)]
    rfl
theorem fold_put : ∀ (ns acc : List B), acc.Pairwise (fun x y => x < y) → (ns.foldl putL acc).Pairwise (fun x y => x < y) ∧ ∀ x, x ∈ ns.foldl putL acc ↔ x ∈ acc ∨ x ∈ ns
  | [], acc, h => ⟨h, by simp⟩
  | a :: ns, acc, h => by
    obtain ⟨h1, h2⟩ := fold_put ns (putL acc a) (put_pw a acc h)
    refine ⟨h1, fun x => ?_⟩
    rw [List.foldl, h2, put_mem, List.mem_cons]
    constructor
    · rintro ((h | h) | h) <;> simp [h]
    · rintro (h | h | h) <;> simp [h]
theorem bytes_ordered (ns : List ByteArray) : bytesL (orderedV ns) = (bytesL ns).foldl putL [] := by
  unfold orderedV sortV
  rw [bytes_texts, put_all]
theorem ordered_pw (ns : List ByteArray) : (bytesL (orderedV ns)).Pairwise (fun x y => x < y) := by
  rw [bytes_ordered]
  exact (fold_put _ [] List.Pairwise.nil).1
theorem mem_bytes (a : ByteArray) (l : List ByteArray) : a.data.toList ∈ bytesL l ↔ a ∈ l := by
  unfold bytesL
  rw [List.mem_map]
  constructor
  · rintro ⟨b, hb, e⟩
    have : b = a := ByteArray.ext (Array.toList_inj.mp e)
    rwa [← this]
  · intro h
    exact ⟨a, h, rfl⟩
theorem mem_ordered (a : ByteArray) (ns : List ByteArray) : a ∈ orderedV ns ↔ a ∈ ns := by
  rw [← mem_bytes, bytes_ordered, (fold_put _ [] List.Pairwise.nil).2, mem_bytes]
  simp
theorem less_at (ns : List ByteArray) (i : Nat) (h0 : 0 < i) (hi : i < (orderedV ns).length) :
    Op.bytesLess ((orderedV ns).getD (i - 1) ByteArray.empty).toList ((orderedV ns).getD i ByteArray.empty).toList = true := by
  have h := List.pairwise_iff_getElem.mp (ordered_pw ns) (i - 1) i (by simp [bytesL]; omega) (by simpa [bytesL] using hi) (by omega)
  rw [bytesLess_eq, Lib.toList_data, Lib.toList_data]
  refine decide_eq_true ?_
  simp only [bytesL, List.getElem_map] at h
  rw [List.getD_eq_getElem?_getD, List.getD_eq_getElem?_getD, List.getElem?_eq_getElem (by omega), List.getElem?_eq_getElem hi]
  exact h
theorem mem_lack (u : List S30) (a : ByteArray) : a ∈ lackRaw u u ↔ ∃ x ∈ u, a ∈ refsV x.f2 ∧ findI u a < 0 := by
  unfold lackRaw lackOf
  rw [List.mem_flatMap]
  constructor
  · rintro ⟨x, hx, h⟩
    rw [List.mem_filter] at h
    exact ⟨x, hx, h.1, of_decide_eq_true h.2⟩
  · rintro ⟨x, hx, h1, h2⟩
    exact ⟨x, hx, List.mem_filter.mpr ⟨h1, decide_eq_true h2⟩⟩
theorem rising_eq : ∀ (l m : List B), l.Pairwise (fun x y => x < y) → m.Pairwise (fun x y => x < y) → (∀ x, x ∈ l ↔ x ∈ m) → l = m
  | [], [], _, _, _ => rfl
  | [], y :: m, _, _, h => absurd ((h y).mpr (List.mem_cons_self ..)) (by simp)
  | x :: l, [], _, _, h => absurd ((h x).mp (List.mem_cons_self ..)) (by simp)
  | x :: l, y :: m, hl, hm, h => by
    have hl' := List.pairwise_cons.mp hl
    have hm' := List.pairwise_cons.mp hm
    have e : x = y := by
      rcases List.mem_cons.mp ((h x).mp (List.mem_cons_self ..)) with e | e
      · exact e
      · rcases List.mem_cons.mp ((h y).mpr (List.mem_cons_self ..)) with e2 | e2
        · exact e2.symm
        · exact absurd (List.lt_trans (hl'.1 y e2) (hm'.1 x e)) (List.lt_irrefl x)
    subst e
    congr 1
    refine rising_eq l m hl'.2 hm'.2 fun z => ?_
    constructor
    · intro hz
      rcases List.mem_cons.mp ((h z).mp (List.mem_cons_of_mem _ hz)) with e | e
      · subst e; exact absurd (hl'.1 z hz) (List.lt_irrefl z)
      · exact e
    · intro hz
      rcases List.mem_cons.mp ((h z).mpr (List.mem_cons_of_mem _ hz)) with e | e
      · subst e; exact absurd (hm'.1 z hz) (List.lt_irrefl z)
      · exact e
theorem ordered_filter (ns : List ByteArray) (q : ByteArray → Bool) : (orderedV ns).filter q = orderedV (ns.filter q) := by
  have key : bytesL ((orderedV ns).filter q) = bytesL (orderedV (ns.filter q)) := by
    refine rising_eq _ _ ?_ (ordered_pw _) fun x => ?_
    · refine List.Pairwise.sublist ?_ (ordered_pw ns)
      exact List.Sublist.map _ List.filter_sublist
    · have hx : ∀ l : List ByteArray, x ∈ bytesL l ↔ (⟨⟨x⟩⟩ : ByteArray) ∈ l := fun l => by rw [← mem_bytes]
      rw [hx, hx, mem_ordered, List.mem_filter, List.mem_filter, mem_ordered]
  rw [← texts_bytes ((orderedV ns).filter q), key, texts_bytes]
end Go.Proofs.Ytpckkkcaffhhnaa.L
namespace Go.Proofs.Ytpckkkcaffhhnaa.P
open Go.RowKit Go.Proofs.YtpckkkcaffhhnaaW.PrintWords Go.Proofs.YtpckkkcaffhhnaaW.PrintLast Go.Proofs.YtpckkkcaffhhnaaW.PrintMore
attribute [local go_sem] max2_int min2_int max_two min_two max_three min_three max_four min_four
def impl_strong.l0 : Nat → ByteArray → Int → List (List (S30)) → Int → Int → Option (Int)
  | 0, _, _, _, _, _ => none
  | k + 1, x1, x5, x9, x10, x11 => if x11 < x10 then (if 0 ≤ x11 then (if x11 < (x9.length : Int) then ((impl_find.f (rd_L13 x9 x11) x1).bind fun t617 => (if t617 ≥ 0 then (if 0 ≤ t617 then (if t617 < ((rd_L13 x9 x11).length : Int) then (if ((rd_T30 (rd_L13 x9 x11) t617).f1 = true) then (impl_strong.l0 k x1 x5 x9 x10 (wrap64 (x11 + 1))) else (impl_strong.l0 k x1 (wrap64 (x5 + 1)) x9 x10 (wrap64 (x11 + 1)))) else (none)) else (none)) else (impl_strong.l0 k x1 x5 x9 x10 (wrap64 (x11 + 1))))) else (none)) else (none)) else (some x5)
def impl_strong.f (k : Nat) (l0 : List (List (S30))) (a1 : ByteArray) : Option (Int) := impl_strong.l0 k a1 0 l0 (l0.length : Int) 0
def spec_l3Strong.l0 : Nat → List (List (S30)) → ByteArray → Int → Int → Option (Int)
  | 0, _, _, _, _ => none
  | k + 1, x0, x1, x5, x6 => if x6 < (x0.length : Int) then (if 0 ≤ x6 then ((spec_l2Find.f k (rd_L13 x0 x6) x1).bind fun t620 => (if t620 ≥ 0 then (if 0 ≤ t620 then (if t620 < ((rd_L13 x0 x6).length : Int) then (if ((rd_T30 (rd_L13 x0 x6) t620).f1 = true) then (spec_l3Strong.l0 k x0 x1 x5 (wrap64 (x6 + 1))) else (spec_l3Strong.l0 k x0 x1 (wrap64 (x5 + 1)) (wrap64 (x6 + 1)))) else (none)) else (none)) else (spec_l3Strong.l0 k x0 x1 x5 (wrap64 (x6 + 1))))) else (none)) else (some x5)
def spec_l3Strong.f (k : Nat) (l0 : List (List (S30))) (a1 : ByteArray) : Option (Int) := spec_l3Strong.l0 k l0 a1 0 0
mutual
def spec_l3Two.l0 : Nat → List (List (S30)) → Int → Option (ByteArray × Bool)
  | 0, _, _ => none
  | k + 1, x0, x4 => if x4 < (x0.length : Int) then (spec_l3Two.l1 k x0 x4 0) else (some ((⟨#[]⟩ : ByteArray), false))
def spec_l3Two.l1 : Nat → List (List (S30)) → Int → Int → Option (ByteArray × Bool)
  | 0, _, _, _ => none
  | k + 1, x0, x4, x5 => if 0 ≤ x4 then (if x4 < (x0.length : Int) then (if x5 < ((rd_L13 x0 x4).length : Int) then (if 0 ≤ x5 then ((spec_l3Strong.f k x0 ((rd_T30 (rd_L13 x0 x4) x5).f0)).bind fun t626 => (if t626 > 1 then (some ((rd_T30 (rd_L13 x0 x4) x5).f0, true)) else (spec_l3Two.l1 k x0 x4 (wrap64 (x5 + 1))))) else (none)) else (spec_l3Two.l0 k x0 (wrap64 (x4 + 1)))) else (none)) else (none)
end
def spec_l3Two.f (k : Nat) (l0 : List (List (S30))) : Option (ByteArray × Bool) := spec_l3Two.l0 k l0 0
def spec_PickTwo.f (k : Nat) (l0 : List (List (S30))) : Option (ByteArray × Bool) := (spec_l3Ok.f k l0 8).bind fun t629 => (if t629 = true then ((spec_l3Two.f k l0).bind fun bt630 => (some (bt630.1, bt630.2))) else (some ((⟨#[]⟩ : ByteArray), false)))
def spec_PickAt.f (k : Nat) (l0 : List (List (S30))) (a1 : ByteArray) : Option (Int × Int × Bool) := (spec_l3Ok.f k l0 8).bind fun t531 => (if t531 = true then ((spec_l3At.f k l0 a1).bind fun bt532 => (some (bt532.1, bt532.2.1, bt532.2.2))) else (some (0, 0, false)))
end Go.Proofs.Ytpckkkcaffhhnaa.P
namespace Go.Proofs.Ytpckkkcaffhhnaa.L
open Go.RowKit Go.Proofs.YtpckkkcaffhhnaaW.PrintWords Go.Proofs.YtpckkkcaffhhnaaW.PrintLast Go.Proofs.YtpckkkcaffhhnaaW.PrintMore Go.Proofs.Ytpckkkcaffhhnaa.P
abbrev UnitV := List S30
def weakAt (u : UnitV) (a : ByteArray) : Bool := (u.getD (findI u a).toNat z30).f1
theorem findI_lo (u : UnitV) (a : ByteArray) : -1 ≤ findI u a ∧ findI u a < u.length := by
  have := idxFrom_lo (named a) u 0 (by omega)
  unfold findI
  omega
def hitS (b : Bool) (a : ByteArray) : List UnitV → Nat → Option (Nat × Int)
  | [], _ => none
  | u :: l, i => if 0 ≤ findI u a ∧ weakAt u a = b then some (i, findI u a) else hitS b a l (i + 1)
def pickV (l : List UnitV) (a : ByteArray) : Int × Int × Bool :=
  match hitS false a l 0 with
  | some p => ((p.1 : Int), p.2, true)
  | none => match hitS true a l 0 with
    | some p => ((p.1 : Int), p.2, true)
    | none => (0, 0, false)
theorem impl_pick_l1 (b : Bool) (l : List UnitV) (hn : l.length ≤ 9223372036854775806) (hl : ∀ u ∈ l, u.length ≤ 9223372036854775806) (a : ByteArray) (y : List Bool) (c j : Int) (k : Nat) (hk : l.length < k) : impl_pick.l1 k l a b y c j l (l.length : Int) 0
    = match hitS b a l 0 with | some p => some ((p.1 : Int), p.2, true) | none => impl_pick.l0 (k - l.length - 1) l a y c (wrap64 (j + 1)) := by
  have h := loop_run (fun i u (_ : Unit) => if 0 ≤ findI u a ∧ weakAt u a = b then .inr (some ((i : Int), findI u a, true)) else .inl ()) (fun k (_ : Unit) => impl_pick.l0 k l a y c (wrap64 (j + 1))) (fun _ _ => True) [] l hn (fun k _ i => impl_pick.l1 k l a b y c j l (l.length : Int) i) 0 ?_ ?_ ?_ k (by omega) () trivial
  · refine h.trans ?_
    have key : ∀ (l' : List UnitV) (i : Nat), runS (fun i u (_ : Unit) => if 0 ≤ findI u a ∧ weakAt u a = b then .inr (some ((i : Int), findI u a, true)) else .inl ()) (fun (_ : Unit) => impl_pick.l0 (k - l.length - 1) l a y c (wrap64 (j + 1))) l' i () = match hitS b a l' i with | some p => some ((p.1 : Int), p.2, true) | none => impl_pick.l0 (k - l.length - 1) l a y c (wrap64 (j + 1)) := by
      intro l'
      induction l' with
      | nil => intro i; rfl
      | cons u l' ih =>
        intro i
        simp only [runS, hitS]
        by_cases hc : 0 ≤ findI u a ∧ weakAt u a = b
        · rw [if_pos hc, if_pos hc]
        · rw [if_neg hc, if_neg hc]
          exact ih (i + 1)
    exact key l 0
  · intro k i s _ hi _
    have hb := findI_lo (l.getD i []) a
    simp only [impl_pick.l1, impl_find.f]
    rw [if_pos (by omega), if_pos (by omega), if_pos (by omega)]
    simp only [Option.bind_some]
    show (if findI (l.getD i []) a ≥ 0 then (if 0 ≤ findI (l.getD i []) a then (if findI (l.getD i []) a < ((l.getD i []).length : Int) then (if (weakAt (l.getD i []) a == b) = true then _ else _) else none) else none) else _) = _
    by_cases h0 : 0 ≤ findI (l.getD i []) a
    · rw [if_pos h0, if_pos h0, if_pos (by omega)]
      by_cases hw : weakAt (l.getD i []) a = b
      · rw [if_pos (beq_iff_eq.mpr hw), if_pos ⟨h0, hw⟩]
        rfl
      · rw [if_neg (by rw [beq_eq_false_iff_ne.mpr hw]; decide), if_neg (fun h => hw h.2)]
    · rw [if_neg h0, if_neg (fun h => h0 h.1)]
  · intro _ _ _ _ _ _; trivial
  · intro k s _ _
    simp only [impl_pick.l1]
    rw [if_neg (by omega)]
theorem impl_pick_f (l : List UnitV) (hn : l.length ≤ 9223372036854775806) (hl : ∀ u ∈ l, u.length ≤ 9223372036854775806) (a : ByteArray) (k : Nat) (hk : 2 * l.length + 10 < k) : impl_pick.f k l a = some (pickV l a) := by
  obtain ⟨k, rfl, _⟩ := succ_of hk
  unfold impl_pick.f pickV
  simp only [Option.bind_some, impl_pick.l0, List.length_cons, List.length_nil]
  rw [if_pos (by decide), if_pos (by decide), if_pos (by decide)]
  rw [show rdOf false [false, true] (0 : Int) = false from rfl, impl_pick_l1 false l hn hl a _ _ _ k (by omega)]
  cases hitS false a l 0 with
  | some p => rfl
  | none =>
    obtain ⟨m, hm⟩ : ∃ m, k - l.length - 1 = m + 1 := ⟨k - l.length - 2, by omega⟩
    simp only [hm]
    simp only [impl_pick.l0]
    rw [show wrap64 ((0 : Int) + 1) = 1 from (by rw [wrap_id (by omega) (by omega)]; rfl), if_pos (by decide), if_pos (by decide), if_pos (by decide), show rdOf false [false, true] (1 : Int) = true from rfl, impl_pick_l1 true l hn hl a _ _ _ m (by omega)]
    cases hitS true a l 0 with
    | some p => rfl
    | none =>
      obtain ⟨q, hq⟩ : ∃ q, m - l.length - 1 = q + 1 := ⟨m - l.length - 2, by omega⟩
      simp only [hq]
      simp only [impl_pick.l0]
      rw [wrap_id (by omega) (by omega), if_neg (by decide)]
theorem spec_l3At_f (l : List UnitV) (hn : l.length ≤ 9223372036854775806) (B : Nat) (hl : ∀ u ∈ l, u.length ≤ B) (hB : B ≤ 9223372036854775806) (a : ByteArray) (k : Nat) (hk : B + 1 + l.length < k) : spec_l3At.f k l a = some (pickV l a) := by
  unfold spec_l3At.f
  let f : Nat → UnitV → Int × Int → (Int × Int) ⊕ (Option (Int × Int × Bool)) := fun i u s =>
    if findI u a < 0 then .inl s else if weakAt u a = true then (if s.1 < 0 then .inl ((i : Int), findI u a) else .inl s) else .inr (some ((i : Int), findI u a, true))
  let E : Int × Int → Option (Int × Int × Bool) := fun s => if s.1 < 0 then some (0, 0, false) else some (s.1, s.2, true)
  have h := loop_run f (fun _ => E) (fun _ _ => True) [] l hn (fun k s i => spec_l3At.l0 k l a s.1 s.2 i) (B + 1) ?_ ?_ ?_ k (by omega) (-1, -1) trivial
  · refine h.trans ?_
    have key : ∀ (l' : List UnitV) (i : Nat) (s : Int × Int), runS f E l' i s = match hitS false a l' i with | some p => some ((p.1 : Int), p.2, true) | none => if s.1 < 0 then (match hitS true a l' i with | some p => some ((p.1 : Int), p.2, true) | none => some (0, 0, false)) else some (s.1, s.2, true) := by
      intro l'
      induction l' with
      | nil => intro i s; rfl
      | cons u l' ih =>
        intro i s
        simp only [runS, hitS, f]
        by_cases h0 : findI u a < 0
        · rw [if_pos h0, if_neg (show ¬ (0 ≤ findI u a ∧ weakAt u a = false) from fun h => by omega), if_neg (show ¬ (0 ≤ findI u a ∧ weakAt u a = true) from fun h => by omega)]
          exact ih (i + 1) s
        · rw [if_neg h0]
          cases hw : weakAt u a with
          | false =>
            rw [if_neg (show ¬ (false = true) by decide), if_pos (show 0 ≤ findI u a ∧ false = false from ⟨by omega, rfl⟩)]
          | true =>
            rw [if_pos (show true = true from rfl), if_neg (show ¬ (0 ≤ findI u a ∧ true = false) from fun h => absurd h.2 (by decide)), if_pos (show 0 ≤ findI u a ∧ true = true from ⟨by omega, rfl⟩)]
            by_cases hs : s.1 < 0
            · rw [if_pos hs, if_pos hs]
              simp only
              rw [ih (i + 1) _, if_neg (by simp only; omega)]
            · rw [if_neg hs, if_neg hs]
              simp only
              rw [ih (i + 1) s, if_neg hs]
    rw [key l 0 (-1, -1), if_pos (by decide)]
    unfold pickV
    cases hitS false a l 0 with
    | some p => rfl
    | none => cases hitS true a l 0 <;> rfl
  · intro k i s hK hi _
    have hb := findI_lo (l.getD i []) a
    have hu := hl _ (getD_mem (d := []) hi)
    simp only [spec_l3At.l0]
    rw [if_pos (by omega), if_pos (by omega), spec_l2Find_f (rd_L13 l (i : Int)) (Nat.le_trans hu (by omega)) a k (Nat.lt_of_le_of_lt hu (by omega))]
    simp only [Option.bind_some]
    show (if findI (l.getD i []) a < 0 then _ else (if 0 ≤ findI (l.getD i []) a then (if findI (l.getD i []) a < ((l.getD i []).length : Int) then (if weakAt (l.getD i []) a = true then _ else _) else none) else none)) = _
    simp only [f]
    by_cases h0 : findI (l.getD i []) a < 0
    · rw [if_pos h0, if_pos h0]
    · rw [if_neg h0, if_neg h0, if_pos (by omega), if_pos (by omega)]
      cases hw : weakAt (l.getD i []) a with
      | false => rw [if_neg (by decide), if_neg (by decide)]; rfl
      | true =>
        rw [if_pos rfl, if_pos rfl]
        by_cases hs : s.1 < 0
        · rw [if_pos hs, if_pos hs]; rfl
        · rw [if_neg hs, if_neg hs]
  · intro _ _ _ _ _ _; trivial
  · intro k s _ _
    simp only [spec_l3At.l0, E]
    rw [if_neg (by omega)]
def FitU (u : UnitV) : Prop := u.length ≤ 140737488351232 ∧ ∀ x ∈ u, FitF x
def unitsOkB (l : List UnitV) (n : Int) : Bool := decide ((l.length : Int) ≤ n) && !(l.any fun u => !unitOkB u)
theorem spec_l3Ok_f (l : List UnitV) (hn : l.length ≤ 9223372036854775806) (hl : ∀ u ∈ l, FitU u) (n : Int) (k : Nat) (hk : 500000000000000 + l.length < k) : spec_l3Ok.f k l n = some (unitsOkB l n) := by
  have e : unitsOkB l n = (allFrom (fun _ u => unitOkB u) l 0 && decide ((l.length : Int) ≤ n)) := by
    rw [allFrom_all, all_not_any]
    unfold unitsOkB
    rw [Bool.and_comm]
  rw [e]
  unfold spec_l3Ok.f
  refine loop_all (fun _ u => unitOkB u) [] l _ (by omega) (fun k i => spec_l3Ok.l0 k l n i) 500000000000000 ?_ ?_ ?_ k (by omega)
  · intro k i hK hi hq
    have hu := hl _ (getD_mem (d := []) hi)
    simp only [spec_l3Ok.l0]
    rw [if_pos (by omega), if_pos (by omega), spec_UnitOk_f (rd_L13 l (i : Int)) hu.1 hu.2 k hK]
    simp only [Option.bind_some]
    rw [show unitOkB (rd_L13 l (i : Int)) = true from hq, if_pos rfl]
  · intro k i hK hi hq
    have hu := hl _ (getD_mem (d := []) hi)
    simp only [spec_l3Ok.l0]
    rw [if_pos (by omega), if_pos (by omega), spec_UnitOk_f (rd_L13 l (i : Int)) hu.1 hu.2 k hK]
    simp only [Option.bind_some]
    rw [show unitOkB (rd_L13 l (i : Int)) = false from hq, if_neg (by decide)]
  · intro k _
    simp only [spec_l3Ok.l0]
    rw [if_neg (by omega)]
theorem impl_unitsOk_f (l : List UnitV) (hl : ∀ u ∈ l, FitU u) (n : Int) : impl_unitsOk.f l n = some (unitsOkB l n) := by
  unfold impl_unitsOk.f
  rw [if_pos (fun u hu => ⟨(hl u hu).1, fun x hx => (hl u hu).2 x hx⟩)]
  rfl
theorem unitsOkB_len {l : List UnitV} {n : Int} (h : unitsOkB l n = true) : (l.length : Int) ≤ n := by
  unfold unitsOkB at h
  simp only [Bool.and_eq_true, decide_eq_true_eq] at h
  exact h.1
def pickAtV (l : List UnitV) (a : ByteArray) : Int × Int × Bool := if unitsOkB l 8 = true then pickV l a else (0, 0, false)
theorem impl_PickAt_f (l : List UnitV) (hl : ∀ u ∈ l, FitU u) (a : ByteArray) (k : Nat) (hk : 100 < k) : impl_PickAt.f k l a = some (pickAtV l a) := by
  unfold impl_PickAt.f pickAtV
  rw [impl_unitsOk_f l hl 8]
  simp only [Option.bind_some]
  by_cases h : unitsOkB l 8 = true
  · have := unitsOkB_len h
    rw [if_pos h, if_pos h, impl_pick_f l (by omega) (fun u hu => by have := (hl u hu).1; omega) a k (by omega)]
    rfl
  · rw [if_neg h, if_neg h]
theorem unitsOk_bounds {l : List UnitV} (h : unitsOkB l 8 = true) : l.length ≤ 8 ∧ ∀ u ∈ l, u.length ≤ 5 := by
  unfold unitsOkB at h
  simp only [Bool.and_eq_true, decide_eq_true_eq, Bool.not_eq_true', List.any_eq_false] at h
  refine ⟨by omega, fun u hu => ?_⟩
  have h2 : unitOkB u = true := by
    have h3 := h.2 u hu
    revert h3
    cases unitOkB u <;> simp
  unfold unitOkB at h2
  simp only [Bool.and_eq_true, decide_eq_true_eq] at h2
  exact h2.2
theorem flatten_len : ∀ (l : List UnitV) (B : Nat), (∀ u ∈ l, u.length ≤ B) → l.flatten.length ≤ l.length * B
  | [], _, _ => by simp
  | u :: l, B, h => by
    have h1 := flatten_len l B (fun v hv => h v (List.mem_cons_of_mem _ hv))
    have h2 := h u (List.mem_cons_self ..)
    rw [List.flatten_cons, List.length_append, List.length_cons, Nat.succ_mul]
    omega
def pickWantsV (l : List UnitV) : List ByteArray := if unitsOkB l 8 = true then orderedV (lackRaw l.flatten l.flatten) else []
theorem unitsOk_all {l : List UnitV} {n : Int} (h : unitsOkB l n = true) : ∀ u ∈ l, unitOkB u = true := by
  intro u hu
  unfold unitsOkB at h
  simp only [Bool.and_eq_true, decide_eq_true_eq, Bool.not_eq_true', List.any_eq_false] at h
  have h3 := h.2 u hu
  revert h3
  cases unitOkB u <;> simp
theorem unitsOk_bodies {l : List UnitV} {n : Int} (h : unitsOkB l n = true) : ∀ u ∈ l, ∀ x ∈ u, x.f2.length ≤ 10 := fun u hu x hx => (unitOk_bounds (unitsOk_all h u hu)).2 x hx
theorem flat_bodies {l : List UnitV} {B : Nat} (h : ∀ u ∈ l, ∀ x ∈ u, x.f2.length ≤ B) : ∀ x ∈ l.flatten, x.f2.length ≤ B := fun x hx => by
  obtain ⟨u, hu, hxu⟩ := List.mem_flatten.mp hx
  exact h u hu x hxu
theorem impl_PickWants_f (l : List UnitV) (hl : ∀ u ∈ l, FitU u) (k : Nat) (hk : 1000000 < k) : impl_PickWants.f k l = some (pickWantsV l) := by
  unfold impl_PickWants.f pickWantsV
  rw [impl_unitsOk_f l hl 8]
  simp only [Option.bind_some]
  by_cases h : unitsOkB l 8 = true
  · obtain ⟨h1, h2⟩ := unitsOk_bounds h
    have h3 := flatten_len l 5 h2
    have h4 := flat_bodies (unitsOk_bodies h)
    rw [if_pos h, if_pos h]
    unfold slices_Concat_simpl_Fun_impl_Fun.f
    rw [if_pos (by omega)]
    simp only [Option.bind_some]
    rw [impl_lacking_f l.flatten (by omega) (fun x hx => by have := h4 x hx; omega) k (by omega)]
    rfl
  · rw [if_neg h, if_neg h]
def refsAll (p : List S30) : List ByteArray := p.flatMap fun x => refsV x.f2
theorem l3_l2 (l : List UnitV) (i j : Int) (ns : List ByteArray) (hns : ns.length ≤ 1000) : ∀ (m n k : Nat) (s : List ByteArray), n + m = ns.length → s.length + m ≤ 10000 → 20000 + m ≤ k → spec_l3Wants.l2 k l s i j ns (n : Int) = spec_l3Wants.l1 (k - m - 1) l ((ns.drop n).foldl putB s) i (wrap64 (j + 1)) := by
  intro m
  induction m with
  | zero =>
    intro n k s hn hs hk
    obtain ⟨k, rfl, _⟩ := succ_of (show 0 < k by omega)
    simp only [spec_l3Wants.l2]
    rw [if_neg (by omega), List.drop_eq_nil_of_le (by omega)]
    rfl
  | succ m ih =>
    intro n k s hn hs hk
    obtain ⟨k, rfl, _⟩ := succ_of (show 0 < k by omega)
    have hq := putB_len (ns.getD n ByteArray.empty) s
    simp only [spec_l3Wants.l2]
    rw [if_pos (by omega), if_pos (by omega), show rdOf ByteArray.empty ns (n : Int) = ns.getD n ByteArray.empty from rfl, spec_l2Put_f s (by omega) _ k (by omega)]
    simp only [Option.bind_some]
    rw [show wrap64 ((n : Int) + 1) = ((n + 1 : Nat) : Int) from by rw [wrap_id (by omega) (by omega)]; push_cast; rfl, ih (n + 1) k _ (by omega) (by omega) (by omega), drop_getD ns ByteArray.empty n (by omega), List.foldl_cons, show k + 1 - (m + 1) - 1 = k - m - 1 by omega]
set_option maxRecDepth 100000 in
theorem l3_l1 (l : List UnitV) (hl : l.length ≤ 20) (hu : ∀ u ∈ l, u.length ≤ 5) (hb : ∀ u ∈ l, ∀ x ∈ u, x.f2.length ≤ 10) (i : Nat) (hi : i < l.length) : ∀ (m n k : Nat) (s : List ByteArray), n + m = (l.getD i []).length → s.length + 10 * m ≤ 5000 → 30000 + 100 * (m + 1) ≤ k →
    ∃ k', k ≤ k' + 100 * (m + 1) ∧ spec_l3Wants.l1 k l s (i : Int) (n : Int) = spec_l3Wants.l0 k' l ((refsAll ((l.getD i []).drop n)).foldl putB s) (wrap64 ((i : Int) + 1)) := by
  have hmem := getD_mem (d := []) hi
  have hul := hu _ hmem
  intro m
  induction m with
  | zero =>
    intro n k s hn hs hk
    obtain ⟨k, rfl, _⟩ := succ_of (show 0 < k by omega)
    refine ⟨k, by omega, ?_⟩
    simp only [spec_l3Wants.l1]
    rw [show rd_L13 l (i : Int) = l.getD i [] from rfl, if_pos (by omega), if_pos (by omega), if_neg (by omega), List.drop_eq_nil_of_le (by omega)]
    rfl
  | succ m ih =>
    intro n k s hn hs hk
    obtain ⟨k, rfl, _⟩ := succ_of (show 0 < k by omega)
    have hx := hb _ hmem _ (getD_mem (d := z30) (show n < (l.getD i []).length by omega))
    have hr := refsV_len ((l.getD i []).getD n z30).f2
    have hp := puts_len (refsV ((l.getD i []).getD n z30).f2) s
    obtain ⟨k', h1, h2⟩ := ih (n + 1) (k - (refsV ((l.getD i []).getD n z30).f2).length - 1) ((refsV ((l.getD i []).getD n z30).f2).foldl putB s) (by omega) (by omega) (by omega)
    refine ⟨k', by omega, ?_⟩
    simp only [spec_l3Wants.l1]
    rw [show rd_L13 l (i : Int) = l.getD i [] from rfl, show rd_T30 (l.getD i []) (n : Int) = (l.getD i []).getD n z30 from rfl, if_pos (by omega), if_pos (by omega), if_pos (by omega), if_pos (by omega), spec_l2Refs_f _ (by omega) k (by omega)]
    simp only [Option.bind_some]
    rw [show (0 : Int) = ((0 : Nat) : Int) from rfl, l3_l2 l _ _ _ (by omega) _ 0 k s (Nat.zero_add _) (by omega) (by omega), show wrap64 ((n : Int) + 1) = ((n + 1 : Nat) : Int) from by rw [wrap_id (by omega) (by omega)]; push_cast; rfl, List.drop_zero, h2]
    congr 1
    rw [drop_getD (l.getD i []) z30 n (by omega)]
    unfold refsAll
    rw [List.flatMap_cons, List.foldl_append]
theorem refsAll_len (B : Nat) : ∀ u : UnitV, (∀ x ∈ u, x.f2.length ≤ B) → (refsAll u).length ≤ u.length * B
  | [], _ => by simp [refsAll]
  | x :: u, h => by
    have h1 := refsAll_len B u (fun y hy => h y (List.mem_cons_of_mem _ hy))
    have h2 := refsV_len x.f2
    have h3 := h x (List.mem_cons_self ..)
    have e : refsAll (x :: u) = refsV x.f2 ++ refsAll u := by unfold refsAll; rw [List.flatMap_cons]
    rw [e, List.length_append, List.length_cons, Nat.succ_mul]
    omega
set_option maxRecDepth 100000 in
theorem l3_l0 (l : List UnitV) (hl : l.length ≤ 20) (hu : ∀ u ∈ l, u.length ≤ 5) (hb : ∀ u ∈ l, ∀ x ∈ u, x.f2.length ≤ 10) : ∀ (m i k : Nat) (s : List ByteArray), i + m = l.length → s.length + 50 * m ≤ 4000 → 40000 + 1000 * (m + 1) ≤ k →
    ∃ k', k ≤ k' + 1000 * (m + 1) ∧ spec_l3Wants.l0 k l s (i : Int) = spec_l3Wants.l3 k' l ((refsAll (l.drop i).flatten).foldl putB s) [] 0 := by
  intro m
  induction m with
  | zero =>
    intro i k s hi hs hk
    obtain ⟨k, rfl, _⟩ := succ_of (show 0 < k by omega)
    refine ⟨k, by omega, ?_⟩
    simp only [spec_l3Wants.l0]
    rw [if_neg (by omega), List.drop_eq_nil_of_le (by omega)]
    rfl
  | succ m ih =>
    intro i k s hi hs hk
    obtain ⟨k, rfl, _⟩ := succ_of (show 0 < k by omega)
    have hlt : i < l.length := by omega
    have hmem := getD_mem (d := []) hlt
    have hul := hu _ hmem
    have hrl := refsAll_len 10 _ (hb _ hmem)
    have hp := puts_len (refsAll (l.getD i [])) s
    obtain ⟨k1, a1, a2⟩ := l3_l1 l hl hu hb i hlt (l.getD i []).length 0 k s (Nat.zero_add _) (by omega) (by omega)
    obtain ⟨k2, b1, b2⟩ := ih (i + 1) k1 ((refsAll (l.getD i [])).foldl putB s) (by omega) (by omega) (by omega)
    refine ⟨k2, by omega, ?_⟩
    simp only [spec_l3Wants.l0]
    rw [if_pos (by omega), show (0 : Int) = ((0 : Nat) : Int) from rfl, a2, List.drop_zero, show wrap64 ((i : Int) + 1) = ((i + 1 : Nat) : Int) from by rw [wrap_id (by omega) (by omega)]; push_cast; rfl, b2]
    congr 1
    rw [drop_getD l [] i hlt, List.flatten_cons]
    unfold refsAll
    rw [List.flatMap_append, List.foldl_append]
theorem l3_l3 (l : List UnitV) (hl : l.length ≤ 20) (hu : ∀ u ∈ l, u.length ≤ 5) (ns : List ByteArray) (hns : ns.length ≤ 1000) : ∀ (m n k : Nat) (w : List ByteArray), n + m = ns.length → w.length + m ≤ 2000 → 10000 + m ≤ k → spec_l3Wants.l3 k l ns w (n : Int) = some (w ++ (ns.drop n).filter fun a => !(pickV l a).2.2) := by
  intro m
  induction m with
  | zero =>
    intro n k w hn hw hk
    obtain ⟨k, rfl, _⟩ := succ_of (show 0 < k by omega)
    simp only [spec_l3Wants.l3]
    rw [if_neg (by omega), List.drop_eq_nil_of_le (by omega)]
    simp
  | succ m ih =>
    intro n k w hn hw hk
    obtain ⟨k, rfl, _⟩ := succ_of (show 0 < k by omega)
    have hwr : wrap64 ((n : Int) + 1) = ((n + 1 : Nat) : Int) := by rw [wrap_id (by omega) (by omega)]; push_cast; rfl
    simp only [spec_l3Wants.l3]
    rw [if_pos (by omega), if_pos (by omega), show rdOf ByteArray.empty ns (n : Int) = ns.getD n ByteArray.empty from rfl, spec_l3At_f l (by omega) 5 hu (by decide) _ k (by omega)]
    simp only [Option.bind_some]
    rw [drop_getD ns ByteArray.empty n (by omega), List.filter_cons, hwr]
    cases hc : (pickV l (ns.getD n ByteArray.empty)).2.2 with
    | true =>
      rw [if_pos rfl, ih (n + 1) k w (by omega) (by omega) (by omega)]
      rfl
    | false =>
      rw [if_neg (by decide), if_pos (by omega), ih (n + 1) k _ (by omega) (by rw [List.length_append]; simp; omega) (by omega), List.append_assoc]
      rfl
theorem findI_neg (u : UnitV) (a : ByteArray) : findI u a < 0 ↔ ∀ x ∈ u, named a x = false := by
  have key : ∀ (l : UnitV) (j : Int), 0 ≤ j → (idxFrom (named a) l j < 0 ↔ ∀ x ∈ l, named a x = false) := by
    intro l
    induction l with
    | nil => intro j hj; simp [idxFrom]
    | cons x l ih =>
      intro j hj
      cases hq : named a x with
      | true =>
        have e : idxFrom (named a) (x :: l) j = j := by simp [idxFrom, hq]
        rw [e]
        constructor
        · intro h; omega
        · intro h; have := h x (List.mem_cons_self ..); rw [hq] at this; exact absurd this (by decide)
      | false =>
        have e : idxFrom (named a) (x :: l) j = idxFrom (named a) l (j + 1) := by simp [idxFrom, hq]
        rw [e, ih (j + 1) (by omega)]
        constructor
        · intro h y hy
          rcases List.mem_cons.mp hy with rfl | hy
          · exact hq
          · exact h y hy
        · intro h y hy; exact h y (List.mem_cons_of_mem _ hy)
  exact key u 0 (by omega)
theorem hitS_neg (b : Bool) (a : ByteArray) : ∀ (l : List UnitV) (i : Nat), (∀ u ∈ l, findI u a < 0) → hitS b a l i = none
  | [], _, _ => rfl
  | u :: l, i, h => by
    have h1 := h u (List.mem_cons_self ..)
    simp only [hitS]
    rw [if_neg (fun h2 => by have := h2.1; omega)]
    exact hitS_neg b a l (i + 1) fun v hv => h v (List.mem_cons_of_mem _ hv)
theorem hitS_not (a : ByteArray) : ∀ (l : List UnitV) (i : Nat), hitS false a l i = none → hitS true a l i = none → ∀ u ∈ l, findI u a < 0
  | [], _, _, _, u, hu => by simp at hu
  | v :: l, i, h1, h2, u, hu => by
    simp only [hitS] at h1 h2
    by_cases h0 : 0 ≤ findI v a
    · cases hw : weakAt v a with
      | true => rw [if_pos ⟨h0, hw⟩] at h2; exact absurd h2 (by simp)
      | false => rw [if_pos ⟨h0, hw⟩] at h1; exact absurd h1 (by simp)
    · rw [if_neg (fun h => h0 h.1)] at h1 h2
      rcases List.mem_cons.mp hu with rfl | hu
      · omega
      · exact hitS_not a l (i + 1) h1 h2 u hu
theorem pickV_has (l : List UnitV) (a : ByteArray) : (!(pickV l a).2.2) = decide (findI l.flatten a < 0) := by
  have hf : findI l.flatten a < 0 ↔ ∀ u ∈ l, findI u a < 0 := by
    rw [findI_neg]
    constructor
    · intro h u hu; rw [findI_neg]; exact fun x hx => h x (List.mem_flatten.mpr ⟨u, hu, hx⟩)
    · intro h x hx
      obtain ⟨u, hu, hxu⟩ := List.mem_flatten.mp hx
      exact (findI_neg u a).mp (h u hu) x hxu
  by_cases h : ∀ u ∈ l, findI u a < 0
  · rw [decide_eq_true (hf.mpr h)]
    unfold pickV
    rw [hitS_neg false a l 0 h, hitS_neg true a l 0 h]
    rfl
  · rw [decide_eq_false (fun h2 => h (hf.mp h2))]
    unfold pickV
    cases h1 : hitS false a l 0 with
    | some p => rfl
    | none =>
      cases h2 : hitS true a l 0 with
      | some p => rfl
      | none => exact absurd (hitS_not a l 0 h1 h2) h
set_option maxRecDepth 100000 in
theorem spec_PickWants_f (l : List UnitV) (hn : l.length ≤ 9223372036854775806) (hl : ∀ u ∈ l, FitU u) (k : Nat) (hk : 500000000000000 + l.length < k) : spec_PickWants.f k l = some (pickWantsV l) := by
  unfold spec_PickWants.f pickWantsV
  rw [spec_l3Ok_f l hn hl 8 k hk]
  simp only [Option.bind_some]
  by_cases h : unitsOkB l 8 = true
  · obtain ⟨h1, h2⟩ := unitsOk_bounds h
    have hb := unitsOk_bodies h
    rw [if_pos h, if_pos h]
    unfold spec_l3Wants.f
    simp only [Option.bind_some]
    rw [if_pos (by rw [Lib.toList_data])]
    obtain ⟨k, rfl, _⟩ := succ_of (show 0 < k by omega)
    simp only [spec_l3Wants.j0]
    obtain ⟨k1, a1, a2⟩ := l3_l0 l (by omega) h2 hb l.length 0 k [] (Nat.zero_add _) (by simp; omega) (by omega)
    have hfl := flatten_len l 5 h2
    have hrl := refsAll_len 10 l.flatten (flat_bodies hb)
    have hol := orderedV_len (refsAll l.flatten)
    rw [show (0 : Int) = ((0 : Nat) : Int) from rfl, a2, List.drop_zero, puts_ordered, show (0 : Int) = ((0 : Nat) : Int) from rfl, l3_l3 l (by omega) h2 _ (by omega) _ 0 k1 [] (Nat.zero_add _) (by simp; omega) (by omega), List.drop_zero, List.nil_append]
    simp only [Option.bind_some]
    congr 1
    rw [ordered_filter]
    congr 1
    unfold refsAll lackRaw lackOf
    rw [List.filter_flatMap]
    congr 1
    funext x
    congr 1
    funext a
    exact pickV_has l a
  · rw [if_neg h, if_neg h]
end Go.Proofs.Ytpckkkcaffhhnaa.L
