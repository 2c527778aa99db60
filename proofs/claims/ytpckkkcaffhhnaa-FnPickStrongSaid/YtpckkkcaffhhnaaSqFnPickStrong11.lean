-- PxlawsFnPickStrong: put together by squash.py
import Derived.Test.YtpckkkcaffhhnaaSqFnPickStrong3
import Derived.Test.YtpckkkcaffhhnaaSqFnPickStrong5
import Derived.Test.YtpckkkcaffhhnaaSqFnPickStrong4
import Derived.Test.YtpckkkcaffhhnaaSqFnPickStrong10

-- made by printx.py (own driver over the kit's print); Lean checks it
namespace Go.Proofs.Ytpckkkcaffhhnaa.P
open Go.RowKit Go.Proofs.YtpckkkcaffhhnaaW.PrintWords Go.Proofs.YtpckkkcaffhhnaaW.PrintLast Go.Proofs.YtpckkkcaffhhnaaW.PrintMore
attribute [local go_sem] max2_int min2_int max_two min_two max_three min_three max_four min_four   -- for this text's walks alone
set_option linter.unusedVariables false
set_option linter.unusedSimpArgs false

/-! ### laws_FnPickStrong: function 7 -/
mutual
def laws_FnPickStrong.j0 : Nat → List Int → Option (Bool)
  | 0, _ => none
  | k + 1, x0 => (spec_DrawPickAt.f k x0).bind fun bt557 => ((impl_PickAt.f k bt557.1 bt557.2).bind fun bt561 => ((spec_PickAt.f k bt557.1 bt557.2).bind fun bt564 => (if bt561.1 = bt564.1 then (if (bt561.2.2 != bt564.2.2) = true then (laws_FnPickStrong.j1 k bt557.1 bt557.2 bt561.1 bt561.2.2 bt564.1 bt564.2.2 true) else (laws_FnPickStrong.j1 k bt557.1 bt557.2 bt561.1 bt561.2.2 bt564.1 bt564.2.2 (decide ((bt557.1.length : Int) > 4)))) else (laws_FnPickStrong.j1 k bt557.1 bt557.2 bt561.1 bt561.2.2 bt564.1 bt564.2.2 true))))
def laws_FnPickStrong.j1 : Nat → List (List (S30)) → ByteArray → Int → Bool → Int → Bool → Bool → Option (Bool)
  | 0, _, _, _, _, _, _, _ => none
  | k + 1, x3, x4, x5, x7, x8, x10, x55 => if x55 = true then (if x5 = x8 then (some (x7 == x10)) else (some false)) else (laws_FnPickStrong.j2 k x3 x4 x5 x7)
def laws_FnPickStrong.j2 : Nat → List (List (S30)) → ByteArray → Int → Bool → Option (Bool)
  | 0, _, _, _, _ => none
  | k + 1, x3, x4, x5, x7 => laws_FnPickStrong.l0 k x3 x4 x5 x7 0
def laws_FnPickStrong.l0 : Nat → List (List (S30)) → ByteArray → Int → Bool → Int → Option (Bool)
  | 0, _, _, _, _, _ => none
  | k + 1, x3, x4, x5, x7, x11 => if x11 < (x3.length : Int) then (laws_FnPickStrong.j4 k x3 x4 x5 x7 x11) else ((some (([] : List (List (S30))) : List (List (S30)))).bind fun y569 => (if y569.length + x3.length < 5864062014805 then ((some (y569 ++ x3 : List (List (S30)))).bind fun y572 => (if y572.length < 5864062014805 then ((impl_PickAt.f k (y572 ++ [(([(⟨x4, true, (([(⟨6, 0, (⟨#[]⟩ : ByteArray)⟩ : S38)] : List (S38)))⟩ : S30)] : List (S30)))]) x4).bind fun bt584 => ((some (([] : List (List (S30))) : List (List (S30)))).bind fun y587 => (if y587.length + x3.length < 5864062014805 then ((some (y587 ++ x3 : List (List (S30)))).bind fun y590 => (if y590.length < 5864062014805 then ((impl_PickAt.f k (y590 ++ [(([(⟨x4, false, (([(⟨6, 0, (⟨#[]⟩ : ByteArray)⟩ : S38)] : List (S38)))⟩ : S30)] : List (S30)))]) x4).bind fun bt602 => (if x7 = true then (if 0 ≤ x5 then (if x5 < (x3.length : Int) then ((impl_UnitFind.f k (rd_L13 x3 x5) x4).bind fun t607 => (if 0 ≤ t607 then (if t607 < ((rd_L13 x3 x5).length : Int) then (if bt584.2.2 = true then (if bt602.2.2 = true then (if bt584.1 = x5 then (if ((rd_T30 (rd_L13 x3 x5) t607).f1 = true) then (if (¬ ((rd_T30 (rd_L13 x3 x5) t607).f1 = true)) then (some false) else (some (bt602.1 == (x3.length : Int)))) else (if bt602.1 = x5 then (some true) else (if (¬ ((rd_T30 (rd_L13 x3 x5) t607).f1 = true)) then (some false) else (some (bt602.1 == (x3.length : Int)))))) else (some false)) else (some false)) else (some false)) else (none)) else (none))) else (none)) else (none)) else (if bt584.2.2 = true then (if bt602.2.2 = true then (if bt584.1 = (x3.length : Int) then (some (bt602.1 == (x3.length : Int))) else (some false)) else (some false)) else (some false)))) else (none))) else (none)))) else (none))) else (none)))
def laws_FnPickStrong.j4 : Nat → List (List (S30)) → ByteArray → Int → Bool → Int → Option (Bool)
  | 0, _, _, _, _, _ => none
  | k + 1, x3, x4, x5, x7, x11 => if 0 ≤ x11 then (if x11 < (x3.length : Int) then ((spec_UnitOk.f k (rd_L13 x3 x11)).bind fun t568 => (if t568 = true then (laws_FnPickStrong.l0 k x3 x4 x5 x7 (wrap64 (x11 + 1))) else (some (!x7)))) else (none)) else (none)
end
def laws_FnPickStrong.f (k : Nat) (l0 : List Int) : Option (Bool) := if (l0.length : Int) > 1048576 then (some true) else (laws_FnPickStrong.j0 k l0)
def laws_FnPickStrong.T17 : Bool × List (List Nat × List Nat) := (true, [([], []), ([0], [0]), ([1], [1]), ([1], [1]), ([2, 3, 1], [1, 2, 3]), ([4, 1], [1, 4]), ([1], [1]), ([1], [1]), ([6, 7, 1], [1, 6, 7]), ([8, 1], [1, 8]), ([1], [1]), ([9, 10, 1, 1], [1, 9, 10]), ([5, 11, 1], [1, 5, 11]), ([12, 1], [1, 12]), ([13, 1], [1, 13]), ([14, 1], [1, 14]), ([1, 15], [1, 15]), ([16, 11, 0, 1, 2, 3, 4, 5, 6, 7, 8, 9, 10, 11, 12, 13, 14, 15, 16], [16])])
def laws_FnPickStrong.B17 : List Nat := [0, 1, 3, 3, 15, 31, 3, 3, 195, 451, 3, 1987, 4095, 8191, 16383, 32767, 65535, 131071]
theorem laws_FnPickStrong.tab17 : rtab .any (opsOf Try.f7 17) = laws_FnPickStrong.T17 := by kernel_rfl
theorem laws_FnPickStrong.bits17 : waitsOk laws_FnPickStrong.T17.2 laws_FnPickStrong.B17 = true := by kernel_rfl
set_option maxHeartbeats 8000000 in
set_option maxRecDepth 100000 in
theorem laws_FnPickStrong.calls (k : Nat) (A0 : Option Addr) (c0 : Nat) (l0 : List Int) (r : Bool) (w : World) (hr0 : Kd.C (Kd.int .u8) w A0 l0.length l0) (hc0 : l0.length ≤ c0) (h : laws_FnPickStrong.f k l0 = some r) :
    Calls Try.prog 7 #[.slice A0 l0.length c0] w fun e w' => e = .returned (.bool r) ∧ Below w.heap.size w w' := by
 have hu38 := Try.underlying38
 have hu30 := Try.underlying30
 have HR0 := Aside0.mk hr0; have HC0 := Aside0.mk hc0; clear hr0 hc0
 have HB := Aside0.mk (Below.refl w.heap.size w)
 have H : (if (l0.length : Int) > 1048576 then (some true) else (laws_FnPickStrong.j0 k l0)) = some r := h
 clear h; have HC2 := Aside0.mk H; clear H
 go_enter Try.func7, Try.ntmps7
 go_upto_if 23 with (fail)
 go_cut [] (fun wc => ∃ (kq : Nat), Aside0 (laws_FnPickStrong.j0 kq l0 = some r) ∧ Aside0 (kq ≤ k) ∧ Aside0 (Below w.heap.size w wc))
 case first =>
  have H := HC2.out
  clear HC2
  by_cases c3 : (l0.length : Int) > 1048576
  · rw [if_pos c3] at H
    have c3b0 : decide (1048576 < (l0.length : Int)) = true := decide_eq_true c3
    have c3b1 : decide (1048576 < l0.length) = true := decide_eq_true (by omega)
    clear c3
    (first | rw [c3b0] | (simp only [i64_w, i32_w]; rw [c3b0]) | (have cn_ := c3b0; simp only [bne] at cn_; rw [cn_]; clear cn_) | skip)
    obtain rfl := Option.some.inj H
    go_wp2
    go_ret
    exact ⟨by first | rfl | (simp [errW_none, errW_some] <;> rfl) | (simp [*, errW_none, errW_some] <;> rfl), by repeat (first | (with_reducible first | exact HB.out | apply below_alloc | apply pw_below_drewN | apply below_drew1) | exact HB.out)⟩
  rw [if_neg c3] at H
  have c3b0 : decide (1048576 < (l0.length : Int)) = false := decide_eq_false c3
  have c3b1 : decide (1048576 < l0.length) = false := decide_eq_false (by omega)
  clear c3
  (first | rw [c3b0] | (simp only [i64_w, i32_w]; rw [c3b0]) | (have cn_ := c3b0; simp only [bne] at cn_; rw [cn_]; clear cn_) | skip)
  have H' := Aside0.mk H
  clear H
  go_wp2
  go_meet
  case rel => exact ⟨_, H', ⟨by first | omega | exact Nat.le_refl _⟩, ⟨by repeat (first | (with_reducible first | exact HB.out | apply below_alloc | apply pw_below_drewN | apply below_drew1) | exact HB.out)⟩⟩
 clear HC2; try clear p2; try clear c3; try clear c3b0; try clear c3b1
 obtain ⟨kq, HA, HJ1, HB⟩ := hcut
 obtain _ | kj1 := kq
 · exact absurd HA.out (by simp [laws_FnPickStrong.j0])
 have H := HA.out
 clear HA
 simp only [laws_FnPickStrong.j0] at H
 replace H := Option.bind_eq_some_iff.mp H
 obtain ⟨⟨t557, t560⟩, A40, H⟩ := H
 replace H : ((impl_PickAt.f kj1 t557 t560).bind fun bt561 => ((spec_PickAt.f kj1 t557 t560).bind fun bt564 => (if bt561.1 = bt564.1 then (if (bt561.2.2 != bt564.2.2) = true then (laws_FnPickStrong.j1 kj1 t557 t560 bt561.1 bt561.2.2 bt564.1 bt564.2.2 true) else (laws_FnPickStrong.j1 kj1 t557 t560 bt561.1 bt561.2.2 bt564.1 bt564.2.2 (decide ((t557.length : Int) > 4)))) else (laws_FnPickStrong.j1 kj1 t557 t560 bt561.1 bt561.2.2 bt564.1 bt564.2.2 true)))) = some r := H
 have A4 := Aside0.mk A40; clear A40
 replace H := Option.bind_eq_some_iff.mp H
 obtain ⟨⟨t561, t562, t563⟩, A50, H⟩ := H
 replace H : ((spec_PickAt.f kj1 t557 t560).bind fun bt564 => (if t561 = bt564.1 then (if (t563 != bt564.2.2) = true then (laws_FnPickStrong.j1 kj1 t557 t560 t561 t563 bt564.1 bt564.2.2 true) else (laws_FnPickStrong.j1 kj1 t557 t560 t561 t563 bt564.1 bt564.2.2 (decide ((t557.length : Int) > 4)))) else (laws_FnPickStrong.j1 kj1 t557 t560 t561 t563 bt564.1 bt564.2.2 true))) = some r := H
 have A5 := Aside0.mk A50; clear A50
 replace H := Option.bind_eq_some_iff.mp H
 obtain ⟨⟨t564, t565, t566⟩, A60, H⟩ := H
 replace H : (if t561 = t564 then (if (t563 != t566) = true then (laws_FnPickStrong.j1 kj1 t557 t560 t561 t563 t564 t566 true) else (laws_FnPickStrong.j1 kj1 t557 t560 t561 t563 t564 t566 (decide ((t557.length : Int) > 4)))) else (laws_FnPickStrong.j1 kj1 t557 t560 t561 t563 t564 t566 true)) = some r := H
 have A6 := Aside0.mk A60; clear A60; have HC7 := Aside0.mk H; clear H
 go_upto_region 6 with (first | ((with_reducible refine gate_callee (f := 30) rfl ?_); refine goesL_ (some 26) rfl rfl Try.func30 (by kernel_rfl) rfl #[.slice A0 l0.length c0] rfl (by (try simp only [List.map_toArray, List.map_cons, List.map_nil]); first | done | rfl | (simp only [List.length_drop, List.length_take]; rfl)) ?_; (with_reducible refine (spec_DrawPickAt.calls kj1 _ _ l0 t557 t560 _ ?side1 ?side2 A4.out).mono ?_); (case side1 => repeat (first | exact (Kd.C_below HR0.out HB.out) | (with_reducible refine Kd.C_alloc ?_ _) | (with_reducible refine Kd.C_drewN ?_ _) | (with_reducible refine Kd.C_drew ?_))); (case side2 => exact HC0.out); rintro e w8 ⟨v558, rfl, ho0, hb⟩; refine ⟨_, rfl, ?_⟩; have n0_ := Aside0.mk (Kd.N_lower (Kd.N_mono (ok' := fun k_ => True) ho0 (fun k_ hk_ => trivial)) (below_size (by repeat (first | (with_reducible first | exact HB.out | apply below_alloc | apply pw_below_drewN | apply below_drew1) | exact HB.out)))); have n1_ := Aside0.mk (below_step (by repeat (first | (with_reducible first | exact HB.out | apply below_alloc | apply pw_below_drewN | apply below_drew1) | exact HB.out)) hb); clear HB; have HO559 := n0_; have HB := n1_; clear n0_ n1_; (try clear hb); (try clear hb2); (try clear hk); (try clear hi); (try clear ho0); obtain ⟨Ao9, co9, eo9⟩ := Kd.N_slice HO559.out; subst eo9) | ((with_reducible refine gate_callee (f := 31) rfl ?_); refine goesL_ (some 32) rfl rfl Try.func31 (by kernel_rfl) rfl #[.slice Ao9 t557.length co9, .string t560] rfl (by (try simp only [List.map_toArray, List.map_cons, List.map_nil]); first | done | rfl | (simp only [List.length_drop, List.length_take]; rfl)) ?_; (with_reducible refine (impl_PickAt.calls kj1 _ _ t557 t560 t561 t562 t563 _ ?side1 ?side2 A5.out).mono ?_); (case side1 => repeat (first | exact (Kd.N_reads' HO559.out).2.2 | (with_reducible refine Kd.C_alloc ?_ _) | (with_reducible refine Kd.C_drewN ?_ _) | (with_reducible refine Kd.C_drew ?_))); (case side2 => exact (Kd.N_reads' HO559.out).2.1); rintro e w10 ⟨rfl, hb⟩; refine ⟨_, rfl, ?_⟩; have n0_ := Aside0.mk (Kd.N_below (by (with_reducible repeat (first | apply Kd.N_alloc | apply Kd.N_drewN | apply Kd.N_drew)); exact HO559.out) hb); have n1_ := Aside0.mk (below_step (by repeat (first | (with_reducible first | exact HB.out | apply below_alloc | apply pw_below_drewN | apply below_drew1) | exact HB.out)) hb); clear HO559 HB; have HO559 := n0_; have HB := n1_; clear n0_ n1_; (try clear hb); (try clear hb2); (try clear hk); (try clear hi)) | ((with_reducible refine gate_callee (f := 32) rfl ?_); refine goesL_ (some 39) rfl rfl Try.func32 (by kernel_rfl) rfl #[.slice Ao9 t557.length co9, .string t560] rfl (by (try simp only [List.map_toArray, List.map_cons, List.map_nil]); first | done | rfl | (simp only [List.length_drop, List.length_take]; rfl)) ?_; (with_reducible refine (spec_PickAt.calls kj1 _ _ t557 t560 t564 t565 t566 _ ?side1 ?side2 A6.out).mono ?_); (case side1 => repeat (first | exact (Kd.N_reads' HO559.out).2.2 | (with_reducible refine Kd.C_alloc ?_ _) | (with_reducible refine Kd.C_drewN ?_ _) | (with_reducible refine Kd.C_drew ?_))); (case side2 => exact (Kd.N_reads' HO559.out).2.1); rintro e w11 ⟨rfl, hb⟩; refine ⟨_, rfl, ?_⟩; have n0_ := Aside0.mk (Kd.N_below (by (with_reducible repeat (first | apply Kd.N_alloc | apply Kd.N_drewN | apply Kd.N_drew)); exact HO559.out) hb); have n1_ := Aside0.mk (below_step (by repeat (first | (with_reducible first | exact HB.out | apply below_alloc | apply pw_below_drewN | apply below_drew1) | exact HB.out)) hb); clear HO559 HB; have HO559 := n0_; have HB := n1_; clear n0_ n1_; (try clear hb); (try clear hb2); (try clear hk); (try clear hi)))
 (try simp only [Act.put, List.setIfInBounds_toArray, List.set_cons_zero, List.set_cons_succ])
 go_cut [55] (fun v55 wc => ∃ (kq : Nat) (x55_6 : Bool), v55 = .bool x55_6 ∧ Aside0 (laws_FnPickStrong.j1 kq t557 t560 t561 t563 t564 t566 x55_6 = some r) ∧ Aside0 (kq ≤ kj1) ∧ Aside0 (Kd.N (Kd.slice 30 k30) 23 wc w.heap.size (fun _ => True) (.slice Ao9 t557.length co9) t557) ∧ Aside0 (Below w.heap.size w wc))
 case first =>
  have H := HC7.out
  clear HC7
  by_cases c12 : t561 = t564
  · rw [if_pos c12] at H
    have c12b0 : (t561 == t564) = true := beq_iff_eq.mpr c12
    have c12b1 : (t561 != t564) = false := bne_eq_false_iff_eq.mpr c12
    clear c12
    (first | rw [c12b0] | (simp only [i64_w, i32_w]; rw [c12b0]) | (have cn_ := c12b0; simp only [bne] at cn_; rw [cn_]; clear cn_) | skip)
    by_cases c13 : (t563 != t566) = true
    · rw [if_pos c13] at H
      have c13b0 : (t563 != t566) = true := c13
      (try (have c13b1 : decide (t563 = t566) = false := by simpa using c13))
      (try (have c13b2 : (t563 == t566) = false := by simpa using c13))
      (try (have c13b3 : ¬ (t563 = t566) := by simpa using c13))
      clear c13
      have H' := Aside0.mk H
      clear H
      go_wp2
      go_meet
      case rel => exact ⟨_, (true), (by first | rfl | (simp; done) | (simp [*]; done)), H', ⟨by have := HJ1.out; first | omega | exact Nat.le_refl _⟩, ⟨by (with_reducible repeat (first | apply Kd.N_alloc | apply Kd.N_drewN | apply Kd.N_drew)); exact HO559.out⟩, ⟨by repeat (first | (with_reducible first | exact HB.out | apply below_alloc | apply pw_below_drewN | apply below_drew1) | exact HB.out)⟩⟩
    rw [if_neg c13] at H
    have c13b0 : (t563 != t566) = false := by simpa using c13
    (try (have c13b1 : decide (t563 = t566) = true := by simpa using c13))
    (try (have c13b2 : (t563 == t566) = true := by simpa using c13))
    clear c13
    have H' := Aside0.mk H
    clear H
    go_wp2
    go_meet
    case rel => exact ⟨_, (decide ((t557.length : Int) > 4)), (by first | rfl | (simp; done) | (simp [*]; done)), H', ⟨by have := HJ1.out; first | omega | exact Nat.le_refl _⟩, ⟨by (with_reducible repeat (first | apply Kd.N_alloc | apply Kd.N_drewN | apply Kd.N_drew)); exact HO559.out⟩, ⟨by repeat (first | (with_reducible first | exact HB.out | apply below_alloc | apply pw_below_drewN | apply below_drew1) | exact HB.out)⟩⟩
  rw [if_neg c12] at H
  have c12b0 : (t561 == t564) = false := beq_eq_false_iff_ne.mpr c12
  have c12b1 : (t561 != t564) = true := bne_iff_ne.mpr c12
  (first | rw [c12b0] | (simp only [i64_w, i32_w]; rw [c12b0]) | (have cn_ := c12b0; simp only [bne] at cn_; rw [cn_]; clear cn_) | skip)
  have H' := Aside0.mk H
  clear H
  go_wp2
  go_meet
  case rel => exact ⟨_, (true), (by first | rfl | (simp; done) | (simp [*]; done)), H', ⟨by have := HJ1.out; first | omega | exact Nat.le_refl _⟩, ⟨by (with_reducible repeat (first | apply Kd.N_alloc | apply Kd.N_drewN | apply Kd.N_drew)); exact HO559.out⟩, ⟨by repeat (first | (with_reducible first | exact HB.out | apply below_alloc | apply pw_below_drewN | apply below_drew1) | exact HB.out)⟩⟩
 clear HC7; try clear c1; try clear p2; try clear c3; try clear c3b0; try clear c3b1; try clear c7; try clear c12; try clear c12b0; try clear c12b1; try clear c13; try clear c13b0; try clear c13b1; try clear c13b2; try clear p2
 obtain ⟨kq, x55_6, rfl, HA, HJ6, HO_3, HB⟩ := hcut
 obtain _ | kj6 := kq
 · exact absurd HA.out (by simp [laws_FnPickStrong.j1])
 have H := HA.out
 clear HA
 simp only [laws_FnPickStrong.j1] at H
 have HC14 := Aside0.mk H; clear H
 go_upto_if 55 with (fail)
 go_cut [] (fun wc => ∃ (kq : Nat), Aside0 (laws_FnPickStrong.j2 kq t557 t560 t561 t563 = some r) ∧ Aside0 (kq ≤ kj6) ∧ Aside0 (Kd.N (Kd.slice 30 k30) 23 wc w.heap.size (fun _ => True) (.slice Ao9 t557.length co9) t557) ∧ Aside0 (Below w.heap.size w wc))
 case first =>
  have H := HC14.out
  clear HC14
  by_cases c15 : x55_6 = true
  · subst c15
    have H1 : (if t561 = t564 then (some (t563 == t566)) else (some false)) = some r := by rw [if_pos rfl] at H; exact H
    clear H
    have H := H1
    clear H1
    by_cases c16 : t561 = t564
    · rw [if_pos c16] at H
      have c16b0 : (t561 == t564) = true := beq_iff_eq.mpr c16
      have c16b1 : (t561 != t564) = false := bne_eq_false_iff_eq.mpr c16
      clear c16
      (first | rw [c16b0] | (simp only [i64_w, i32_w]; rw [c16b0]) | (have cn_ := c16b0; simp only [bne] at cn_; rw [cn_]; clear cn_) | skip)
      obtain rfl := Option.some.inj H
      go_wp2
      go_ret
      exact ⟨by first | rfl | (simp [errW_none, errW_some] <;> rfl) | (simp [*, errW_none, errW_some] <;> rfl), by repeat (first | (with_reducible first | exact HB.out | apply below_alloc | apply pw_below_drewN | apply below_drew1) | exact HB.out)⟩
    rw [if_neg c16] at H
    have c16b0 : (t561 == t564) = false := beq_eq_false_iff_ne.mpr c16
    have c16b1 : (t561 != t564) = true := bne_iff_ne.mpr c16
    (first | rw [c16b0] | (simp only [i64_w, i32_w]; rw [c16b0]) | (have cn_ := c16b0; simp only [bne] at cn_; rw [cn_]; clear cn_) | skip)
    obtain rfl := Option.some.inj H
    go_wp2
    go_ret
    exact ⟨by first | rfl | (simp [errW_none, errW_some] <;> rfl) | (simp [*, errW_none, errW_some] <;> rfl), by repeat (first | (with_reducible first | exact HB.out | apply below_alloc | apply pw_below_drewN | apply below_drew1) | exact HB.out)⟩
  replace c15 := Bool.eq_false_iff.mpr c15
  subst c15
  have H1 : (laws_FnPickStrong.j2 kj6 t557 t560 t561 t563) = some r := by rw [if_neg (show ¬ (false = true) by decide)] at H; exact H
  clear H
  have H := H1
  clear H1
  have H' := Aside0.mk H
  clear H
  go_wp2
  go_meet
  case rel => exact ⟨_, H', ⟨by have := HJ1.out; have := HJ6.out; first | omega | exact Nat.le_refl _⟩, ⟨by (with_reducible repeat (first | apply Kd.N_alloc | apply Kd.N_drewN | apply Kd.N_drew)); exact HO_3.out⟩, ⟨by repeat (first | (with_reducible first | exact HB.out | apply below_alloc | apply pw_below_drewN | apply below_drew1) | exact HB.out)⟩⟩
 clear HC14; try clear c1; try clear p2; try clear c3; try clear c3b0; try clear c3b1; try clear c7; try clear c12; try clear c12b0; try clear c12b1; try clear c13; try clear c13b0; try clear c13b1; try clear c13b2; try clear c15; try clear c16; try clear c16b0; try clear c16b1; try clear p2
 obtain ⟨kq, HA, HJ13, HO_3, HB⟩ := hcut
 obtain _ | kj13 := kq
 · exact absurd HA.out (by simp [laws_FnPickStrong.j2])
 have H := HA.out
 clear HA
 simp only [laws_FnPickStrong.j2] at H
 have H' := Aside0.mk H
 clear H
 go_wp2
 go_loopg [11] kj13 (fun kq v11 w' => ∃ (x11_4 : Int), v11 = .int .i64 x11_4 ∧ Aside0 (laws_FnPickStrong.l0 kq t557 t560 t561 t563 x11_4 = some r) ∧ Aside0 (kq ≤ kj13) ∧ Aside0 (Kd.N (Kd.slice 30 k30) 23 w' w.heap.size (fun _ => True) (.slice Ao9 t557.length co9) t557) ∧ Aside0 (Below w.heap.size w w'))
 case atStart => exact ⟨(0), (by first | rfl | (simp; done) | (simp [*]; done)), H', ⟨Nat.le_refl _⟩, ⟨by (with_reducible repeat (first | apply Kd.N_alloc | apply Kd.N_drewN | apply Kd.N_drew)); exact HO_3.out⟩, ⟨by repeat (first | (with_reducible first | exact HB.out | apply below_alloc | apply pw_below_drewN | apply below_drew1) | exact HB.out)⟩⟩
 clear H'
 try clear c1; try clear p2; try clear c3; try clear c3b0; try clear c3b1; try clear c7; try clear c12; try clear c12b0; try clear c12b1; try clear c13; try clear c13b0; try clear c13b1; try clear c13b2; try clear c15; try clear c16; try clear c16b0; try clear c16b1; try clear p2
 obtain ⟨x11_4, rfl, HA, HK4, HO_3, HB⟩ := hrel
 obtain _ | k4 := gk
 · exact absurd HA.out (by simp [laws_FnPickStrong.l0])
 have H := HA.out
 clear HA
 simp only [laws_FnPickStrong.l0] at H
 have HC17 := Aside0.mk H; clear H
 go_upto_if 67 with (fail)
 go_cut [] (fun wc => ∃ (kq : Nat), Aside0 (laws_FnPickStrong.j4 kq t557 t560 t561 t563 x11_4 = some r) ∧ Aside0 (kq ≤ k4) ∧ Aside0 (Kd.N (Kd.slice 30 k30) 23 wc w.heap.size (fun _ => True) (.slice Ao9 t557.length co9) t557) ∧ Aside0 (Below w.heap.size w wc))
 case first =>
  have H := HC17.out
  clear HC17
  by_cases c18 : x11_4 < (t557.length : Int)
  · rw [if_pos c18] at H
    have c18b0 : decide (x11_4 < (t557.length : Int)) = true := decide_eq_true c18
    clear c18
    (first | rw [c18b0] | (simp only [i64_w, i32_w]; rw [c18b0]) | (have cn_ := c18b0; simp only [bne] at cn_; rw [cn_]; clear cn_) | skip)
    have H' := Aside0.mk H
    clear H
    go_wp2
    go_meet
    case rel => exact ⟨_, H', ⟨by have := HJ1.out; have := HJ6.out; have := HJ13.out; have := HK4.out; first | omega | exact Nat.le_refl _⟩, ⟨by (with_reducible repeat (first | apply Kd.N_alloc | apply Kd.N_drewN | apply Kd.N_drew)); exact HO_3.out⟩, ⟨by repeat (first | (with_reducible first | exact HB.out | apply below_alloc | apply pw_below_drewN | apply below_drew1) | exact HB.out)⟩⟩
  rw [if_neg c18] at H
  have c18b0 : decide (x11_4 < (t557.length : Int)) = false := decide_eq_false c18
  clear c18
  (first | rw [c18b0] | (simp only [i64_w, i32_w]; rw [c18b0]) | (have cn_ := c18b0; simp only [bne] at cn_; rw [cn_]; clear cn_) | skip)
  obtain ⟨y569, hy569⟩ : ∃ y_ : List (List (S30)), y_ = (([] : List (List (S30)))) := ⟨_, rfl⟩
  replace H : (if y569.length + t557.length < 5864062014805 then ((some (y569 ++ t557 : List (List (S30)))).bind fun y572 => (if y572.length < 5864062014805 then ((impl_PickAt.f k4 (y572 ++ [(([(⟨t560, true, (([(⟨6, 0, (⟨#[]⟩ : ByteArray)⟩ : S38)] : List (S38)))⟩ : S30)] : List (S30)))]) t560).bind fun bt584 => ((some (([] : List (List (S30))) : List (List (S30)))).bind fun y587 => (if y587.length + t557.length < 5864062014805 then ((some (y587 ++ t557 : List (List (S30)))).bind fun y590 => (if y590.length < 5864062014805 then ((impl_PickAt.f k4 (y590 ++ [(([(⟨t560, false, (([(⟨6, 0, (⟨#[]⟩ : ByteArray)⟩ : S38)] : List (S38)))⟩ : S30)] : List (S30)))]) t560).bind fun bt602 => (if t563 = true then (if 0 ≤ t561 then (if t561 < (t557.length : Int) then ((impl_UnitFind.f k4 (rd_L13 t557 t561) t560).bind fun t607 => (if 0 ≤ t607 then (if t607 < ((rd_L13 t557 t561).length : Int) then (if bt584.2.2 = true then (if bt602.2.2 = true then (if bt584.1 = t561 then (if ((rd_T30 (rd_L13 t557 t561) t607).f1 = true) then (if (¬ ((rd_T30 (rd_L13 t557 t561) t607).f1 = true)) then (some false) else (some (bt602.1 == (t557.length : Int)))) else (if bt602.1 = t561 then (some true) else (if (¬ ((rd_T30 (rd_L13 t557 t561) t607).f1 = true)) then (some false) else (some (bt602.1 == (t557.length : Int)))))) else (some false)) else (some false)) else (some false)) else (none)) else (none))) else (none)) else (none)) else (if bt584.2.2 = true then (if bt602.2.2 = true then (if bt584.1 = (t557.length : Int) then (some (bt602.1 == (t557.length : Int))) else (some false)) else (some false)) else (some false)))) else (none))) else (none)))) else (none))) else (none)) = some r := by first | (rw [hy569]; with_reducible exact H) | (have H2_ := (Option.bind_some _ _).symm.trans H; rw [hy569]; with_reducible exact H2_) | (have H2_ := (Option.bind_some _ _).symm.trans H; with_reducible exact H2_) | with_reducible exact H | (rw [hy569]; exact H) | exact H
  have Ny569 := Aside0.mk hy569; clear hy569
  by_cases c19 : y569.length + t557.length < 5864062014805
  · rw [if_pos c19] at H; have LMc19 := Aside0.mk c19; clear c19
    obtain ⟨y572, hy572⟩ : ∃ y_ : List (List (S30)), y_ = (y569 ++ t557) := ⟨_, rfl⟩
    replace H : (if y572.length < 5864062014805 then ((impl_PickAt.f k4 (y572 ++ [(([(⟨t560, true, (([(⟨6, 0, (⟨#[]⟩ : ByteArray)⟩ : S38)] : List (S38)))⟩ : S30)] : List (S30)))]) t560).bind fun bt584 => ((some (([] : List (List (S30))) : List (List (S30)))).bind fun y587 => (if y587.length + t557.length < 5864062014805 then ((some (y587 ++ t557 : List (List (S30)))).bind fun y590 => (if y590.length < 5864062014805 then ((impl_PickAt.f k4 (y590 ++ [(([(⟨t560, false, (([(⟨6, 0, (⟨#[]⟩ : ByteArray)⟩ : S38)] : List (S38)))⟩ : S30)] : List (S30)))]) t560).bind fun bt602 => (if t563 = true then (if 0 ≤ t561 then (if t561 < (t557.length : Int) then ((impl_UnitFind.f k4 (rd_L13 t557 t561) t560).bind fun t607 => (if 0 ≤ t607 then (if t607 < ((rd_L13 t557 t561).length : Int) then (if bt584.2.2 = true then (if bt602.2.2 = true then (if bt584.1 = t561 then (if ((rd_T30 (rd_L13 t557 t561) t607).f1 = true) then (if (¬ ((rd_T30 (rd_L13 t557 t561) t607).f1 = true)) then (some false) else (some (bt602.1 == (t557.length : Int)))) else (if bt602.1 = t561 then (some true) else (if (¬ ((rd_T30 (rd_L13 t557 t561) t607).f1 = true)) then (some false) else (some (bt602.1 == (t557.length : Int)))))) else (some false)) else (some false)) else (some false)) else (none)) else (none))) else (none)) else (none)) else (if bt584.2.2 = true then (if bt602.2.2 = true then (if bt584.1 = (t557.length : Int) then (some (bt602.1 == (t557.length : Int))) else (some false)) else (some false)) else (some false)))) else (none))) else (none)))) else (none)) = some r := by first | (rw [hy572]; with_reducible exact H) | (have H2_ := (Option.bind_some _ _).symm.trans H; rw [hy572]; with_reducible exact H2_) | (have H2_ := (Option.bind_some _ _).symm.trans H; with_reducible exact H2_) | with_reducible exact H | (rw [hy572]; exact H) | exact H
    have Ny572 := Aside0.mk hy572; clear hy572
    obtain ⟨y575, hy575⟩ : ∃ y_ : List (S38), y_ = (([(⟨6, 0, (⟨#[]⟩ : ByteArray)⟩ : S38)] : List (S38))) := ⟨_, rfl⟩
    replace H : (if y572.length < 5864062014805 then ((impl_PickAt.f k4 (y572 ++ [(([(⟨t560, true, y575⟩ : S30)] : List (S30)))]) t560).bind fun bt584 => ((some (([] : List (List (S30))) : List (List (S30)))).bind fun y587 => (if y587.length + t557.length < 5864062014805 then ((some (y587 ++ t557 : List (List (S30)))).bind fun y590 => (if y590.length < 5864062014805 then ((impl_PickAt.f k4 (y590 ++ [(([(⟨t560, false, (([(⟨6, 0, (⟨#[]⟩ : ByteArray)⟩ : S38)] : List (S38)))⟩ : S30)] : List (S30)))]) t560).bind fun bt602 => (if t563 = true then (if 0 ≤ t561 then (if t561 < (t557.length : Int) then ((impl_UnitFind.f k4 (rd_L13 t557 t561) t560).bind fun t607 => (if 0 ≤ t607 then (if t607 < ((rd_L13 t557 t561).length : Int) then (if bt584.2.2 = true then (if bt602.2.2 = true then (if bt584.1 = t561 then (if ((rd_T30 (rd_L13 t557 t561) t607).f1 = true) then (if (¬ ((rd_T30 (rd_L13 t557 t561) t607).f1 = true)) then (some false) else (some (bt602.1 == (t557.length : Int)))) else (if bt602.1 = t561 then (some true) else (if (¬ ((rd_T30 (rd_L13 t557 t561) t607).f1 = true)) then (some false) else (some (bt602.1 == (t557.length : Int)))))) else (some false)) else (some false)) else (some false)) else (none)) else (none))) else (none)) else (none)) else (if bt584.2.2 = true then (if bt602.2.2 = true then (if bt584.1 = (t557.length : Int) then (some (bt602.1 == (t557.length : Int))) else (some false)) else (some false)) else (some false)))) else (none))) else (none)))) else (none)) = some r := by first | (rw [hy575]; with_reducible exact H) | (have H2_ := (Option.bind_some _ _).symm.trans H; rw [hy575]; with_reducible exact H2_) | (have H2_ := (Option.bind_some _ _).symm.trans H; with_reducible exact H2_) | with_reducible exact H | (rw [hy575]; exact H) | exact H
    have Ny575 := Aside0.mk hy575; clear hy575
    obtain ⟨y578, hy578⟩ : ∃ y_ : List (S30), y_ = (([(⟨t560, true, y575⟩ : S30)] : List (S30))) := ⟨_, rfl⟩
    replace H : (if y572.length < 5864062014805 then ((impl_PickAt.f k4 (y572 ++ [y578]) t560).bind fun bt584 => ((some (([] : List (List (S30))) : List (List (S30)))).bind fun y587 => (if y587.length + t557.length < 5864062014805 then ((some (y587 ++ t557 : List (List (S30)))).bind fun y590 => (if y590.length < 5864062014805 then ((impl_PickAt.f k4 (y590 ++ [(([(⟨t560, false, (([(⟨6, 0, (⟨#[]⟩ : ByteArray)⟩ : S38)] : List (S38)))⟩ : S30)] : List (S30)))]) t560).bind fun bt602 => (if t563 = true then (if 0 ≤ t561 then (if t561 < (t557.length : Int) then ((impl_UnitFind.f k4 (rd_L13 t557 t561) t560).bind fun t607 => (if 0 ≤ t607 then (if t607 < ((rd_L13 t557 t561).length : Int) then (if bt584.2.2 = true then (if bt602.2.2 = true then (if bt584.1 = t561 then (if ((rd_T30 (rd_L13 t557 t561) t607).f1 = true) then (if (¬ ((rd_T30 (rd_L13 t557 t561) t607).f1 = true)) then (some false) else (some (bt602.1 == (t557.length : Int)))) else (if bt602.1 = t561 then (some true) else (if (¬ ((rd_T30 (rd_L13 t557 t561) t607).f1 = true)) then (some false) else (some (bt602.1 == (t557.length : Int)))))) else (some false)) else (some false)) else (some false)) else (none)) else (none))) else (none)) else (none)) else (if bt584.2.2 = true then (if bt602.2.2 = true then (if bt584.1 = (t557.length : Int) then (some (bt602.1 == (t557.length : Int))) else (some false)) else (some false)) else (some false)))) else (none))) else (none)))) else (none)) = some r := by first | (rw [hy578]; with_reducible exact H) | (have H2_ := (Option.bind_some _ _).symm.trans H; rw [hy578]; with_reducible exact H2_) | (have H2_ := (Option.bind_some _ _).symm.trans H; with_reducible exact H2_) | with_reducible exact H | (rw [hy578]; exact H) | exact H
    have Ny578 := Aside0.mk hy578; clear hy578
    by_cases c20 : y572.length < 5864062014805
    · rw [if_pos c20] at H; have LMc20 := Aside0.mk c20; clear c20
      obtain ⟨y581, hy581⟩ : ∃ y_ : List (List (S30)), y_ = (y572 ++ [y578]) := ⟨_, rfl⟩
      replace H : ((impl_PickAt.f k4 y581 t560).bind fun bt584 => ((some (([] : List (List (S30))) : List (List (S30)))).bind fun y587 => (if y587.length + t557.length < 5864062014805 then ((some (y587 ++ t557 : List (List (S30)))).bind fun y590 => (if y590.length < 5864062014805 then ((impl_PickAt.f k4 (y590 ++ [(([(⟨t560, false, (([(⟨6, 0, (⟨#[]⟩ : ByteArray)⟩ : S38)] : List (S38)))⟩ : S30)] : List (S30)))]) t560).bind fun bt602 => (if t563 = true then (if 0 ≤ t561 then (if t561 < (t557.length : Int) then ((impl_UnitFind.f k4 (rd_L13 t557 t561) t560).bind fun t607 => (if 0 ≤ t607 then (if t607 < ((rd_L13 t557 t561).length : Int) then (if bt584.2.2 = true then (if bt602.2.2 = true then (if bt584.1 = t561 then (if ((rd_T30 (rd_L13 t557 t561) t607).f1 = true) then (if (¬ ((rd_T30 (rd_L13 t557 t561) t607).f1 = true)) then (some false) else (some (bt602.1 == (t557.length : Int)))) else (if bt602.1 = t561 then (some true) else (if (¬ ((rd_T30 (rd_L13 t557 t561) t607).f1 = true)) then (some false) else (some (bt602.1 == (t557.length : Int)))))) else (some false)) else (some false)) else (some false)) else (none)) else (none))) else (none)) else (none)) else (if bt584.2.2 = true then (if bt602.2.2 = true then (if bt584.1 = (t557.length : Int) then (some (bt602.1 == (t557.length : Int))) else (some false)) else (some false)) else (some false)))) else (none))) else (none)))) = some r := by first | (rw [hy581]; with_reducible exact H) | (have H2_ := (Option.bind_some _ _).symm.trans H; rw [hy581]; with_reducible exact H2_) | (have H2_ := (Option.bind_some _ _).symm.trans H; with_reducible exact H2_) | with_reducible exact H | (rw [hy581]; exact H) | exact H
      have Ny581 := Aside0.mk hy581; clear hy581
      replace H := Option.bind_eq_some_iff.mp H
      obtain ⟨⟨t584, t585, t586⟩, A210, H⟩ := H
      replace H : ((some (([] : List (List (S30))) : List (List (S30)))).bind fun y587 => (if y587.length + t557.length < 5864062014805 then ((some (y587 ++ t557 : List (List (S30)))).bind fun y590 => (if y590.length < 5864062014805 then ((impl_PickAt.f k4 (y590 ++ [(([(⟨t560, false, (([(⟨6, 0, (⟨#[]⟩ : ByteArray)⟩ : S38)] : List (S38)))⟩ : S30)] : List (S30)))]) t560).bind fun bt602 => (if t563 = true then (if 0 ≤ t561 then (if t561 < (t557.length : Int) then ((impl_UnitFind.f k4 (rd_L13 t557 t561) t560).bind fun t607 => (if 0 ≤ t607 then (if t607 < ((rd_L13 t557 t561).length : Int) then (if t586 = true then (if bt602.2.2 = true then (if t584 = t561 then (if ((rd_T30 (rd_L13 t557 t561) t607).f1 = true) then (if (¬ ((rd_T30 (rd_L13 t557 t561) t607).f1 = true)) then (some false) else (some (bt602.1 == (t557.length : Int)))) else (if bt602.1 = t561 then (some true) else (if (¬ ((rd_T30 (rd_L13 t557 t561) t607).f1 = true)) then (some false) else (some (bt602.1 == (t557.length : Int)))))) else (some false)) else (some false)) else (some false)) else (none)) else (none))) else (none)) else (none)) else (if t586 = true then (if bt602.2.2 = true then (if t584 = (t557.length : Int) then (some (bt602.1 == (t557.length : Int))) else (some false)) else (some false)) else (some false)))) else (none))) else (none))) = some r := H
      have A21 := Aside0.mk A210; clear A210
      obtain ⟨y587, hy587⟩ : ∃ y_ : List (List (S30)), y_ = (([] : List (List (S30)))) := ⟨_, rfl⟩
      replace H : (if y587.length + t557.length < 5864062014805 then ((some (y587 ++ t557 : List (List (S30)))).bind fun y590 => (if y590.length < 5864062014805 then ((impl_PickAt.f k4 (y590 ++ [(([(⟨t560, false, (([(⟨6, 0, (⟨#[]⟩ : ByteArray)⟩ : S38)] : List (S38)))⟩ : S30)] : List (S30)))]) t560).bind fun bt602 => (if t563 = true then (if 0 ≤ t561 then (if t561 < (t557.length : Int) then ((impl_UnitFind.f k4 (rd_L13 t557 t561) t560).bind fun t607 => (if 0 ≤ t607 then (if t607 < ((rd_L13 t557 t561).length : Int) then (if t586 = true then (if bt602.2.2 = true then (if t584 = t561 then (if ((rd_T30 (rd_L13 t557 t561) t607).f1 = true) then (if (¬ ((rd_T30 (rd_L13 t557 t561) t607).f1 = true)) then (some false) else (some (bt602.1 == (t557.length : Int)))) else (if bt602.1 = t561 then (some true) else (if (¬ ((rd_T30 (rd_L13 t557 t561) t607).f1 = true)) then (some false) else (some (bt602.1 == (t557.length : Int)))))) else (some false)) else (some false)) else (some false)) else (none)) else (none))) else (none)) else (none)) else (if t586 = true then (if bt602.2.2 = true then (if t584 = (t557.length : Int) then (some (bt602.1 == (t557.length : Int))) else (some false)) else (some false)) else (some false)))) else (none))) else (none)) = some r := by first | (rw [hy587]; with_reducible exact H) | (have H2_ := (Option.bind_some _ _).symm.trans H; rw [hy587]; with_reducible exact H2_) | (have H2_ := (Option.bind_some _ _).symm.trans H; with_reducible exact H2_) | with_reducible exact H | (rw [hy587]; exact H) | exact H
      have Ny587 := Aside0.mk hy587; clear hy587
      by_cases c22 : y587.length + t557.length < 5864062014805
      · rw [if_pos c22] at H; have LMc22 := Aside0.mk c22; clear c22
        obtain ⟨y590, hy590⟩ : ∃ y_ : List (List (S30)), y_ = (y587 ++ t557) := ⟨_, rfl⟩
        replace H : (if y590.length < 5864062014805 then ((impl_PickAt.f k4 (y590 ++ [(([(⟨t560, false, (([(⟨6, 0, (⟨#[]⟩ : ByteArray)⟩ : S38)] : List (S38)))⟩ : S30)] : List (S30)))]) t560).bind fun bt602 => (if t563 = true then (if 0 ≤ t561 then (if t561 < (t557.length : Int) then ((impl_UnitFind.f k4 (rd_L13 t557 t561) t560).bind fun t607 => (if 0 ≤ t607 then (if t607 < ((rd_L13 t557 t561).length : Int) then (if t586 = true then (if bt602.2.2 = true then (if t584 = t561 then (if ((rd_T30 (rd_L13 t557 t561) t607).f1 = true) then (if (¬ ((rd_T30 (rd_L13 t557 t561) t607).f1 = true)) then (some false) else (some (bt602.1 == (t557.length : Int)))) else (if bt602.1 = t561 then (some true) else (if (¬ ((rd_T30 (rd_L13 t557 t561) t607).f1 = true)) then (some false) else (some (bt602.1 == (t557.length : Int)))))) else (some false)) else (some false)) else (some false)) else (none)) else (none))) else (none)) else (none)) else (if t586 = true then (if bt602.2.2 = true then (if t584 = (t557.length : Int) then (some (bt602.1 == (t557.length : Int))) else (some false)) else (some false)) else (some false)))) else (none)) = some r := by first | (rw [hy590]; with_reducible exact H) | (have H2_ := (Option.bind_some _ _).symm.trans H; rw [hy590]; with_reducible exact H2_) | (have H2_ := (Option.bind_some _ _).symm.trans H; with_reducible exact H2_) | with_reducible exact H | (rw [hy590]; exact H) | exact H
        have Ny590 := Aside0.mk hy590; clear hy590
        obtain ⟨y593, hy593⟩ : ∃ y_ : List (S38), y_ = (([(⟨6, 0, (⟨#[]⟩ : ByteArray)⟩ : S38)] : List (S38))) := ⟨_, rfl⟩
        replace H : (if y590.length < 5864062014805 then ((impl_PickAt.f k4 (y590 ++ [(([(⟨t560, false, y593⟩ : S30)] : List (S30)))]) t560).bind fun bt602 => (if t563 = true then (if 0 ≤ t561 then (if t561 < (t557.length : Int) then ((impl_UnitFind.f k4 (rd_L13 t557 t561) t560).bind fun t607 => (if 0 ≤ t607 then (if t607 < ((rd_L13 t557 t561).length : Int) then (if t586 = true then (if bt602.2.2 = true then (if t584 = t561 then (if ((rd_T30 (rd_L13 t557 t561) t607).f1 = true) then (if (¬ ((rd_T30 (rd_L13 t557 t561) t607).f1 = true)) then (some false) else (some (bt602.1 == (t557.length : Int)))) else (if bt602.1 = t561 then (some true) else (if (¬ ((rd_T30 (rd_L13 t557 t561) t607).f1 = true)) then (some false) else (some (bt602.1 == (t557.length : Int)))))) else (some false)) else (some false)) else (some false)) else (none)) else (none))) else (none)) else (none)) else (if t586 = true then (if bt602.2.2 = true then (if t584 = (t557.length : Int) then (some (bt602.1 == (t557.length : Int))) else (some false)) else (some false)) else (some false)))) else (none)) = some r := by first | (rw [hy593]; with_reducible exact H) | (have H2_ := (Option.bind_some _ _).symm.trans H; rw [hy593]; with_reducible exact H2_) | (have H2_ := (Option.bind_some _ _).symm.trans H; with_reducible exact H2_) | with_reducible exact H | (rw [hy593]; exact H) | exact H
        have Ny593 := Aside0.mk hy593; clear hy593
        obtain ⟨y596, hy596⟩ : ∃ y_ : List (S30), y_ = (([(⟨t560, false, y593⟩ : S30)] : List (S30))) := ⟨_, rfl⟩
        replace H : (if y590.length < 5864062014805 then ((impl_PickAt.f k4 (y590 ++ [y596]) t560).bind fun bt602 => (if t563 = true then (if 0 ≤ t561 then (if t561 < (t557.length : Int) then ((impl_UnitFind.f k4 (rd_L13 t557 t561) t560).bind fun t607 => (if 0 ≤ t607 then (if t607 < ((rd_L13 t557 t561).length : Int) then (if t586 = true then (if bt602.2.2 = true then (if t584 = t561 then (if ((rd_T30 (rd_L13 t557 t561) t607).f1 = true) then (if (¬ ((rd_T30 (rd_L13 t557 t561) t607).f1 = true)) then (some false) else (some (bt602.1 == (t557.length : Int)))) else (if bt602.1 = t561 then (some true) else (if (¬ ((rd_T30 (rd_L13 t557 t561) t607).f1 = true)) then (some false) else (some (bt602.1 == (t557.length : Int)))))) else (some false)) else (some false)) else (some false)) else (none)) else (none))) else (none)) else (none)) else (if t586 = true then (if bt602.2.2 = true then (if t584 = (t557.length : Int) then (some (bt602.1 == (t557.length : Int))) else (some false)) else (some false)) else (some false)))) else (none)) = some r := by first | (rw [hy596]; with_reducible exact H) | (have H2_ := (Option.bind_some _ _).symm.trans H; rw [hy596]; with_reducible exact H2_) | (have H2_ := (Option.bind_some _ _).symm.trans H; with_reducible exact H2_) | with_reducible exact H | (rw [hy596]; exact H) | exact H
        have Ny596 := Aside0.mk hy596; clear hy596
        by_cases c23 : y590.length < 5864062014805
        · rw [if_pos c23] at H; have LMc23 := Aside0.mk c23; clear c23
          obtain ⟨y599, hy599⟩ : ∃ y_ : List (List (S30)), y_ = (y590 ++ [y596]) := ⟨_, rfl⟩
          replace H : ((impl_PickAt.f k4 y599 t560).bind fun bt602 => (if t563 = true then (if 0 ≤ t561 then (if t561 < (t557.length : Int) then ((impl_UnitFind.f k4 (rd_L13 t557 t561) t560).bind fun t607 => (if 0 ≤ t607 then (if t607 < ((rd_L13 t557 t561).length : Int) then (if t586 = true then (if bt602.2.2 = true then (if t584 = t561 then (if ((rd_T30 (rd_L13 t557 t561) t607).f1 = true) then (if (¬ ((rd_T30 (rd_L13 t557 t561) t607).f1 = true)) then (some false) else (some (bt602.1 == (t557.length : Int)))) else (if bt602.1 = t561 then (some true) else (if (¬ ((rd_T30 (rd_L13 t557 t561) t607).f1 = true)) then (some false) else (some (bt602.1 == (t557.length : Int)))))) else (some false)) else (some false)) else (some false)) else (none)) else (none))) else (none)) else (none)) else (if t586 = true then (if bt602.2.2 = true then (if t584 = (t557.length : Int) then (some (bt602.1 == (t557.length : Int))) else (some false)) else (some false)) else (some false)))) = some r := by first | (rw [hy599]; with_reducible exact H) | (have H2_ := (Option.bind_some _ _).symm.trans H; rw [hy599]; with_reducible exact H2_) | (have H2_ := (Option.bind_some _ _).symm.trans H; with_reducible exact H2_) | with_reducible exact H | (rw [hy599]; exact H) | exact H
          have Ny599 := Aside0.mk hy599; clear hy599
          replace H := Option.bind_eq_some_iff.mp H
          obtain ⟨⟨t602, t603, t604⟩, A240, H⟩ := H
          replace H : (if t563 = true then (if 0 ≤ t561 then (if t561 < (t557.length : Int) then ((impl_UnitFind.f k4 (rd_L13 t557 t561) t560).bind fun t607 => (if 0 ≤ t607 then (if t607 < ((rd_L13 t557 t561).length : Int) then (if t586 = true then (if t604 = true then (if t584 = t561 then (if ((rd_T30 (rd_L13 t557 t561) t607).f1 = true) then (if (¬ ((rd_T30 (rd_L13 t557 t561) t607).f1 = true)) then (some false) else (some (t602 == (t557.length : Int)))) else (if t602 = t561 then (some true) else (if (¬ ((rd_T30 (rd_L13 t557 t561) t607).f1 = true)) then (some false) else (some (t602 == (t557.length : Int)))))) else (some false)) else (some false)) else (some false)) else (none)) else (none))) else (none)) else (none)) else (if t586 = true then (if t604 = true then (if t584 = (t557.length : Int) then (some (t602 == (t557.length : Int))) else (some false)) else (some false)) else (some false))) = some r := H
          have A24 := Aside0.mk A240; clear A240
          try go_wp2_with (first | ((with_reducible refine gate_dst (N := 78) rfl ?_); (try (refine gate_guard (by rfl) ?_; dsimp only)); refine Kd.N_lit (Kd.slice 30 k30) _ 23 ?hg (N' := 78) ?hd (xs := ([] : List (List (S30)))) (inner := []) (ok := (fun k_ => some k_ ≠ (.slice Ao9 t557.length co9 : Value).ownBlock)) (okp := (fun k_ => some k_ ≠ (.slice Ao9 t557.length co9 : Value).ownBlock)) ?hr ?hp (fun _ hk => hk) ((show ∀ k_, wr.heap.size ≤ k_ → (fun k_ => some k_ ≠ (.slice Ao9 t557.length co9 : Value).ownBlock) k_ from fun k_ hk => Kd.fresh' (Kd.N_lt (by (with_reducible repeat (first | apply Kd.N_alloc | apply Kd.N_drewN | apply Kd.N_drew)); exact HO_3.out)) k_ hk) _ (Nat.le_refl _)) (Below.refl _ _) (Nat.le_refl _) (by simp) ?_; (case hd => rfl); (case hg => rfl); (case hr => first | (go_simp; done) | (go_simp; rfl)); (case hp => exact (Reps.none _ _)); intro v570 w36 ho37 hb hg_ hnew_; clear hg_ hnew_; (first | rw [← Ny569.out] at ho37 | (simp only [Int.reduceToNat] at ho37; rw [← Ny569.out] at ho37)); have n0_ := Aside0.mk (Kd.N_elder' (by (with_reducible repeat (first | apply Kd.N_alloc | apply Kd.N_drewN | apply Kd.N_drew)); exact HO_3.out) (Kd.N_base ho37) hb); have n1_ := Aside0.mk (Kd.N_lower ho37 (below_size (by repeat (first | (with_reducible first | exact HB.out | apply below_alloc | apply pw_below_drewN | apply below_drew1) | exact HB.out)))); have n2_ := Aside0.mk (below_step (by repeat (first | (with_reducible first | exact HB.out | apply below_alloc | apply pw_below_drewN | apply below_drew1) | exact HB.out)) hb); clear HO_3 HB; have HO_3 := n0_; have HO571 := n1_; have HB := n2_; clear n0_ n1_ n2_ hb ho37) | ((with_reducible refine gate_builtin (b := .append) (xs := #[.tmp 78, .tmp 79]) rfl ?_); (try (refine gate_guard (by rfl) ?_; dsimp only)); at_builtin; refine Kd.N_append_rows (Kd.slice 30 k30) (w0 := w) w.heap.size rfl (.tmp 78) (.tmp 79) 42 23 (.slice none 0 0) 24 rfl Try.underlying42 info23 rfl (by decide) (by omega) v570 y569 t557 _ _ _ (fun _ => True) (fun k_ => ((fun _ => True)) k_ ∧ some k_ ≠ (v570 : Value).ownBlock) rfl rfl ?aO ?aR (fun _ hk => hk) ?aF ?aB ?aS ?aL ?_; (case aR => exact (by skip; exact Kd.N_F (Kd.N_mono (ok' := (fun k_ => ((fun _ => True)) k_ ∧ some k_ ≠ (v570 : Value).ownBlock)) (HO_3.out) (fun k_ hk => ⟨trivial, hk.2⟩)))); (case aB => exact (by repeat (first | (with_reducible first | exact HB.out | apply below_alloc | apply pw_below_drewN | apply below_drew1) | exact HB.out))); (case aF => exact (fun _ _ => trivial)); (case aO => exact (by (with_reducible repeat (first | apply Kd.N_alloc | apply Kd.N_drewN | apply Kd.N_drew)); exact Kd.N_mono HO571.out (fun _ hk => trivial))); (case aS => exact (below_size (by repeat (first | (with_reducible first | exact HB.out | apply below_alloc | apply pw_below_drewN | apply below_drew1) | exact HB.out)))); (case aL => have := LMc19.out; omega); intro v573 w38 ho hb hg hat; rw [← Ny572.out] at ho; have n0_ := Aside0.mk (Kd.N_afterv (ok := (fun _ => True)) (by (with_reducible repeat (first | apply Kd.N_alloc | apply Kd.N_drewN | apply Kd.N_drew)); exact HO_3.out) hg hat); have n1_ := Aside0.mk (hb); have n2_ := Aside0.mk (ho); clear HO_3 HB HO571; have HO_3 := n0_; have HB := n1_; have HO574 := n2_; clear n0_ n1_ n2_ ho hb hg hat) | ((with_reducible refine gate_dst (N := 83) rfl ?_); (try (refine gate_guard (by rfl) ?_; dsimp only)); refine Kd.R_lit k38 _ 38 ?hg (N := 83) ?hd (xs := ([(⟨6, 0, (⟨#[]⟩ : ByteArray)⟩ : S38)] : List (S38))) (inner := [.int .i64 6, .int .i64 0, .string (⟨#[]⟩ : ByteArray)]) (ok := fun _ => True) (okp := fun _ => True) ?hr ?hp (fun _ hk => hk) trivial (Below.refl _ _) (Nat.le_refl _) (by simp) ?_; (case hd => rfl); (case hg => rfl); (case hr => first | (go_simp; done) | (go_simp; rfl)); (case hp => exact (Reps.c3 (show Kd.M k38 _ _ _ (⟨6, 0, (⟨#[]⟩ : ByteArray)⟩ : S38) [.int .i64 6, .int .i64 0, .string (⟨#[]⟩ : ByteArray)] from (k38_mkM _ _ _ (⟨6, 0, (⟨#[]⟩ : ByteArray)⟩ : S38) )) (Reps.none _ _))); intro v576 w39 ho40 hb hg_ hnew_; clear hg_ hnew_; (first | rw [← Ny575.out] at ho40 | (simp only [Int.reduceToNat] at ho40; rw [← Ny575.out] at ho40)); have n0_ := Aside0.mk (Kd.N_elder' (by (with_reducible repeat (first | apply Kd.N_alloc | apply Kd.N_drewN | apply Kd.N_drew)); exact HO_3.out) (Kd.R_base ho40) hb); have n1_ := Aside0.mk (Kd.N_elder' (by (with_reducible repeat (first | apply Kd.N_alloc | apply Kd.N_drewN | apply Kd.N_drew)); exact HO574.out) (Kd.R_base ho40) hb); have n2_ := Aside0.mk (Kd.R_lower ho40 (below_size (by repeat (first | (with_reducible first | exact HB.out | apply below_alloc | apply pw_below_drewN | apply below_drew1) | exact HB.out)))); have n3_ := Aside0.mk (below_step (by repeat (first | (with_reducible first | exact HB.out | apply below_alloc | apply pw_below_drewN | apply below_drew1) | exact HB.out)) hb); clear HO_3 HO574 HB; have HO_3 := n0_; have HO574 := n1_; have HO577 := n2_; have HB := n3_; clear n0_ n1_ n2_ n3_ hb ho40; obtain ⟨Ao41, co41, eo41⟩ := Kd.R_slice HO577.out; subst eo41) | ((with_reducible refine gate_dst (N := 85) rfl ?_); (try (refine gate_guard (by rfl) ?_; dsimp only)); refine Kd.N_lit k30 _ 30 ?hg (N' := 85) ?hd (xs := ([(⟨t560, true, y575⟩ : S30)] : List (S30))) (inner := [.string t560, .bool true, .slice Ao41 y575.length co41]) (ok := (fun k_ => some k_ ≠ (.slice Ao9 t557.length co9 : Value).ownBlock ∧ some k_ ≠ (v573 : Value).ownBlock)) (okp := (fun k_ => some k_ ≠ (.slice Ao9 t557.length co9 : Value).ownBlock ∧ some k_ ≠ (v573 : Value).ownBlock)) ?hr ?hp (fun _ hk => hk) ((show ∀ k_, w39.heap.size ≤ k_ → (fun k_ => some k_ ≠ (.slice Ao9 t557.length co9 : Value).ownBlock ∧ some k_ ≠ (v573 : Value).ownBlock) k_ from fun k_ hk => ⟨Kd.fresh' (Kd.N_lt (by (with_reducible repeat (first | apply Kd.N_alloc | apply Kd.N_drewN | apply Kd.N_drew)); exact HO_3.out)) k_ hk, Kd.fresh' (Kd.N_lt (by (with_reducible repeat (first | apply Kd.N_alloc | apply Kd.N_drewN | apply Kd.N_drew)); exact HO574.out)) k_ hk⟩) _ (Nat.le_refl _)) (Below.refl _ _) (Nat.le_refl _) (by simp) ?_; (case hd => rfl); (case hg => rfl); (case hr => first | (go_simp; done) | (go_simp; rfl)); (case hp => exact (Reps.c3 (show Kd.FK k30 _ _ (⟨t560, true, y575⟩ : S30) [.string t560, .bool true, .slice Ao41 y575.length co41] from (k30_mkF _ _ (⟨t560, true, y575⟩ : S30) (Kd.R_reads' (Kd.R_mono (ok' := (fun k_ => some k_ ≠ (.slice Ao9 t557.length co9 : Value).ownBlock ∧ some k_ ≠ (v573 : Value).ownBlock)) (Kd.R_apart' (Kd.R_apart' (HO577.out) (Kd.N_typed HO_3.out) (by decide)) (Kd.N_typed HO574.out) (by decide)) (fun k_ hk => ⟨hk.1.2, hk.2⟩))).2.1 (Kd.R_F (Kd.R_mono (ok' := (fun k_ => some k_ ≠ (.slice Ao9 t557.length co9 : Value).ownBlock ∧ some k_ ≠ (v573 : Value).ownBlock)) (Kd.R_apart' (Kd.R_apart' (HO577.out) (Kd.N_typed HO_3.out) (by decide)) (Kd.N_typed HO574.out) (by decide)) (fun k_ hk => ⟨hk.1.2, hk.2⟩))))) (Reps.none _ _))); intro v579 w42 ho43 hb hg_ hnew_; clear hg_ hnew_; (first | rw [← Ny578.out] at ho43 | (simp only [Int.reduceToNat] at ho43; rw [← Ny578.out] at ho43)); have n0_ := Aside0.mk (Kd.N_elder' (by (with_reducible repeat (first | apply Kd.N_alloc | apply Kd.N_drewN | apply Kd.N_drew)); exact HO_3.out) (Kd.N_base ho43) hb); have n1_ := Aside0.mk (Kd.N_elder' (by (with_reducible repeat (first | apply Kd.N_alloc | apply Kd.N_drewN | apply Kd.N_drew)); exact HO574.out) (Kd.N_base ho43) hb); have n2_ := Aside0.mk (Kd.N_lower ho43 (below_size (by repeat (first | (with_reducible first | exact HB.out | apply below_alloc | apply pw_below_drewN | apply below_drew1) | exact HB.out)))); have n3_ := Aside0.mk (below_step (by repeat (first | (with_reducible first | exact HB.out | apply below_alloc | apply pw_below_drewN | apply below_drew1) | exact HB.out)) hb); clear HO_3 HO574 HB HO577; have HO_3 := n0_; have HO574 := n1_; have HO580 := n2_; have HB := n3_; clear n0_ n1_ n2_ n3_ hb ho43; obtain ⟨Ao45, co45, eo45⟩ := Kd.N_slice HO580.out; subst eo45) | ((with_reducible refine gate_builtin (b := .append) (xs := #[.tmp 80, .tmp 86]) rfl ?_); (try (refine gate_guard (by rfl) ?_; dsimp only)); at_builtin; refine Kd.N_append (Kd.slice 30 k30) (w0 := w) w.heap.size rfl (.tmp 80) (.tmp 86) 42 23 (.slice none 0 0) 24 rfl Try.underlying42 info23 rfl (by decide) (by omega) v573 y572 y578 [.slice Ao45 y578.length co45] (fun _ => True) (fun k_ => ((fun _ => True)) k_ ∧ some k_ ≠ (v573 : Value).ownBlock) rfl rfl ?aP (fun _ hk => hk) ?aF ?aO ?aB ?aS ?aL ?_; (case aP => exact (Kd.FK_slice_mk (Kd.N_reads' (Kd.N_mono (ok' := (fun k_ => ((fun _ => True)) k_ ∧ some k_ ≠ (v573 : Value).ownBlock)) (HO580.out) (fun k_ hk => ⟨trivial, hk.2⟩))).2.1 (Kd.N_F (Kd.N_mono (ok' := (fun k_ => ((fun _ => True)) k_ ∧ some k_ ≠ (v573 : Value).ownBlock)) (HO580.out) (fun k_ hk => ⟨trivial, hk.2⟩))))); (case aB => exact (by repeat (first | (with_reducible first | exact HB.out | apply below_alloc | apply pw_below_drewN | apply below_drew1) | exact HB.out))); (case aF => exact (fun _ _ => trivial)); (case aO => exact (by (with_reducible repeat (first | apply Kd.N_alloc | apply Kd.N_drewN | apply Kd.N_drew)); exact Kd.N_mono HO574.out (fun _ hk => trivial))); (case aS => exact (below_size (by repeat (first | (with_reducible first | exact HB.out | apply below_alloc | apply pw_below_drewN | apply below_drew1) | exact HB.out)))); (case aL => have := LMc20.out; omega); intro v582 w44 ho hb hg hat; rw [← Ny581.out] at ho; have n0_ := Aside0.mk (Kd.N_afterv (ok := (fun k_ => some k_ ≠ (.slice Ao45 y578.length co45 : Value).ownBlock)) (by (with_reducible repeat (first | apply Kd.N_alloc | apply Kd.N_drewN | apply Kd.N_drew)); exact Kd.N_mono HO_3.out (fun _ hk => ⟨hk.2, hk.1.1.2⟩)) hg hat); have n1_ := Aside0.mk (hb); have n2_ := Aside0.mk (ho); clear HO_3 HB HO574 HO580; have HO_3 := n0_; have HB := n1_; have HO583 := n2_; clear n0_ n1_ n2_ ho hb hg hat; obtain ⟨Ao46, co46, eo46⟩ := Kd.N_slice HO583.out; subst eo46) | ((with_reducible refine gate_callee (f := 31) rfl ?_); refine goesL_ (some 91) rfl rfl Try.func31 (by kernel_rfl) rfl #[.slice Ao46 y581.length co46, .string t560] rfl (by (try simp only [List.map_toArray, List.map_cons, List.map_nil]); first | done | rfl | (simp only [List.length_drop, List.length_take]; rfl)) ?_; (with_reducible refine (impl_PickAt.calls k4 _ _ y581 t560 t584 t585 t586 _ ?side1 ?side2 A21.out).mono ?_); (case side1 => repeat (first | exact (Kd.N_reads' HO583.out).2.2 | (with_reducible refine Kd.C_alloc ?_ _) | (with_reducible refine Kd.C_drewN ?_ _) | (with_reducible refine Kd.C_drew ?_))); (case side2 => exact (Kd.N_reads' HO583.out).2.1); rintro e w47 ⟨rfl, hb⟩; refine ⟨_, rfl, ?_⟩; have n0_ := Aside0.mk (Kd.N_below (by (with_reducible repeat (first | apply Kd.N_alloc | apply Kd.N_drewN | apply Kd.N_drew)); exact HO_3.out) hb); have n1_ := Aside0.mk (Kd.N_below (by (with_reducible repeat (first | apply Kd.N_alloc | apply Kd.N_drewN | apply Kd.N_drew)); exact HO583.out) hb); have n2_ := Aside0.mk (below_step (by repeat (first | (with_reducible first | exact HB.out | apply below_alloc | apply pw_below_drewN | apply below_drew1) | exact HB.out)) hb); clear HO_3 HO583 HB; have HO_3 := n0_; have HO583 := n1_; have HB := n2_; clear n0_ n1_ n2_; (try clear hb); (try clear hb2); (try clear hk); (try clear hi)) | ((with_reducible refine gate_dst (N := 95) rfl ?_); (try (refine gate_guard (by rfl) ?_; dsimp only)); refine Kd.N_lit (Kd.slice 30 k30) _ 23 ?hg (N' := 95) ?hd (xs := ([] : List (List (S30)))) (inner := []) (ok := (fun k_ => some k_ ≠ (.slice Ao9 t557.length co9 : Value).ownBlock ∧ some k_ ≠ (.slice Ao46 y581.length co46 : Value).ownBlock)) (okp := (fun k_ => some k_ ≠ (.slice Ao9 t557.length co9 : Value).ownBlock ∧ some k_ ≠ (.slice Ao46 y581.length co46 : Value).ownBlock)) ?hr ?hp (fun _ hk => hk) ((show ∀ k_, w47.heap.size ≤ k_ → (fun k_ => some k_ ≠ (.slice Ao9 t557.length co9 : Value).ownBlock ∧ some k_ ≠ (.slice Ao46 y581.length co46 : Value).ownBlock) k_ from fun k_ hk => ⟨Kd.fresh' (Kd.N_lt (by (with_reducible repeat (first | apply Kd.N_alloc | apply Kd.N_drewN | apply Kd.N_drew)); exact HO_3.out)) k_ hk, Kd.fresh' (Kd.N_lt (by (with_reducible repeat (first | apply Kd.N_alloc | apply Kd.N_drewN | apply Kd.N_drew)); exact HO583.out)) k_ hk⟩) _ (Nat.le_refl _)) (Below.refl _ _) (Nat.le_refl _) (by simp) ?_; (case hd => rfl); (case hg => rfl); (case hr => first | (go_simp; done) | (go_simp; rfl)); (case hp => exact (Reps.none _ _)); intro v588 w48 ho49 hb hg_ hnew_; clear hg_ hnew_; (first | rw [← Ny587.out] at ho49 | (simp only [Int.reduceToNat] at ho49; rw [← Ny587.out] at ho49)); have n0_ := Aside0.mk (Kd.N_elder' (by (with_reducible repeat (first | apply Kd.N_alloc | apply Kd.N_drewN | apply Kd.N_drew)); exact HO_3.out) (Kd.N_base ho49) hb); have n1_ := Aside0.mk (Kd.N_elder' (by (with_reducible repeat (first | apply Kd.N_alloc | apply Kd.N_drewN | apply Kd.N_drew)); exact HO583.out) (Kd.N_base ho49) hb); have n2_ := Aside0.mk (Kd.N_lower ho49 (below_size (by repeat (first | (with_reducible first | exact HB.out | apply below_alloc | apply pw_below_drewN | apply below_drew1) | exact HB.out)))); have n3_ := Aside0.mk (below_step (by repeat (first | (with_reducible first | exact HB.out | apply below_alloc | apply pw_below_drewN | apply below_drew1) | exact HB.out)) hb); clear HO_3 HO583 HB; have HO_3 := n0_; have HO583 := n1_; have HO589 := n2_; have HB := n3_; clear n0_ n1_ n2_ n3_ hb ho49) | ((with_reducible refine gate_builtin (b := .append) (xs := #[.tmp 95, .tmp 96]) rfl ?_); (try (refine gate_guard (by rfl) ?_; dsimp only)); at_builtin; refine Kd.N_append_rows (Kd.slice 30 k30) (w0 := w) w.heap.size rfl (.tmp 95) (.tmp 96) 42 23 (.slice none 0 0) 24 rfl Try.underlying42 info23 rfl (by decide) (by omega) v588 y587 t557 _ _ _ (fun k_ => some k_ ≠ (.slice Ao46 y581.length co46 : Value).ownBlock) (fun k_ => ((fun k_ => some k_ ≠ (.slice Ao46 y581.length co46 : Value).ownBlock)) k_ ∧ some k_ ≠ (v588 : Value).ownBlock) rfl rfl ?aO ?aR (fun _ hk => hk) ?aF ?aB ?aS ?aL ?_; (case aR => exact (by skip; exact Kd.N_F (Kd.N_mono (ok' := (fun k_ => ((fun k_ => some k_ ≠ (.slice Ao46 y581.length co46 : Value).ownBlock)) k_ ∧ some k_ ≠ (v588 : Value).ownBlock)) (HO_3.out) (fun k_ hk => ⟨hk.1.2, hk.2⟩)))); (case aB => exact (by repeat (first | (with_reducible first | exact HB.out | apply below_alloc | apply pw_below_drewN | apply below_drew1) | exact HB.out))); (case aF => exact (fun k_ hk => Kd.fresh' (Kd.N_lt (by (with_reducible repeat (first | apply Kd.N_alloc | apply Kd.N_drewN | apply Kd.N_drew)); exact HO583.out)) k_ hk)); (case aO => exact (by (with_reducible repeat (first | apply Kd.N_alloc | apply Kd.N_drewN | apply Kd.N_drew)); exact Kd.N_mono HO589.out (fun _ hk => hk.2))); (case aS => exact (below_size (by repeat (first | (with_reducible first | exact HB.out | apply below_alloc | apply pw_below_drewN | apply below_drew1) | exact HB.out)))); (case aL => have := LMc22.out; omega); intro v591 w50 ho hb hg hat; rw [← Ny590.out] at ho; have n0_ := Aside0.mk (Kd.N_afterv (ok := (fun k_ => some k_ ≠ (.slice Ao46 y581.length co46 : Value).ownBlock)) (by (with_reducible repeat (first | apply Kd.N_alloc | apply Kd.N_drewN | apply Kd.N_drew)); exact Kd.N_mono HO_3.out (fun _ hk => ⟨hk.1.2, hk.2⟩)) hg hat); have n1_ := Aside0.mk (Kd.N_afterv (ok := (fun _ => True)) (by (with_reducible repeat (first | apply Kd.N_alloc | apply Kd.N_drewN | apply Kd.N_drew)); exact HO583.out) hg hat); have n2_ := Aside0.mk (hb); have n3_ := Aside0.mk (ho); clear HO_3 HO583 HB HO589; have HO_3 := n0_; have HO583 := n1_; have HB := n2_; have HO592 := n3_; clear n0_ n1_ n2_ n3_ ho hb hg hat) | ((with_reducible refine gate_dst (N := 100) rfl ?_); (try (refine gate_guard (by rfl) ?_; dsimp only)); refine Kd.R_lit k38 _ 38 ?hg (N := 100) ?hd (xs := ([(⟨6, 0, (⟨#[]⟩ : ByteArray)⟩ : S38)] : List (S38))) (inner := [.int .i64 6, .int .i64 0, .string (⟨#[]⟩ : ByteArray)]) (ok := fun _ => True) (okp := fun _ => True) ?hr ?hp (fun _ hk => hk) trivial (Below.refl _ _) (Nat.le_refl _) (by simp) ?_; (case hd => rfl); (case hg => rfl); (case hr => first | (go_simp; done) | (go_simp; rfl)); (case hp => exact (Reps.c3 (show Kd.M k38 _ _ _ (⟨6, 0, (⟨#[]⟩ : ByteArray)⟩ : S38) [.int .i64 6, .int .i64 0, .string (⟨#[]⟩ : ByteArray)] from (k38_mkM _ _ _ (⟨6, 0, (⟨#[]⟩ : ByteArray)⟩ : S38) )) (Reps.none _ _))); intro v594 w51 ho52 hb hg_ hnew_; clear hg_ hnew_; (first | rw [← Ny593.out] at ho52 | (simp only [Int.reduceToNat] at ho52; rw [← Ny593.out] at ho52)); have n0_ := Aside0.mk (Kd.N_elder' (by (with_reducible repeat (first | apply Kd.N_alloc | apply Kd.N_drewN | apply Kd.N_drew)); exact HO_3.out) (Kd.R_base ho52) hb); have n1_ := Aside0.mk (Kd.N_elder' (by (with_reducible repeat (first | apply Kd.N_alloc | apply Kd.N_drewN | apply Kd.N_drew)); exact HO583.out) (Kd.R_base ho52) hb); have n2_ := Aside0.mk (Kd.N_elder' (by (with_reducible repeat (first | apply Kd.N_alloc | apply Kd.N_drewN | apply Kd.N_drew)); exact HO592.out) (Kd.R_base ho52) hb); have n3_ := Aside0.mk (Kd.R_lower ho52 (below_size (by repeat (first | (with_reducible first | exact HB.out | apply below_alloc | apply pw_below_drewN | apply below_drew1) | exact HB.out)))); have n4_ := Aside0.mk (below_step (by repeat (first | (with_reducible first | exact HB.out | apply below_alloc | apply pw_below_drewN | apply below_drew1) | exact HB.out)) hb); clear HO_3 HO583 HO592 HB; have HO_3 := n0_; have HO583 := n1_; have HO592 := n2_; have HO595 := n3_; have HB := n4_; clear n0_ n1_ n2_ n3_ n4_ hb ho52; obtain ⟨Ao53, co53, eo53⟩ := Kd.R_slice HO595.out; subst eo53) | ((with_reducible refine gate_dst (N := 102) rfl ?_); (try (refine gate_guard (by rfl) ?_; dsimp only)); refine Kd.N_lit k30 _ 30 ?hg (N' := 102) ?hd (xs := ([(⟨t560, false, y593⟩ : S30)] : List (S30))) (inner := [.string t560, .bool false, .slice Ao53 y593.length co53]) (ok := (fun k_ => some k_ ≠ (.slice Ao9 t557.length co9 : Value).ownBlock ∧ some k_ ≠ (.slice Ao46 y581.length co46 : Value).ownBlock ∧ some k_ ≠ (v591 : Value).ownBlock)) (okp := (fun k_ => some k_ ≠ (.slice Ao9 t557.length co9 : Value).ownBlock ∧ some k_ ≠ (.slice Ao46 y581.length co46 : Value).ownBlock ∧ some k_ ≠ (v591 : Value).ownBlock)) ?hr ?hp (fun _ hk => hk) ((show ∀ k_, w51.heap.size ≤ k_ → (fun k_ => some k_ ≠ (.slice Ao9 t557.length co9 : Value).ownBlock ∧ some k_ ≠ (.slice Ao46 y581.length co46 : Value).ownBlock ∧ some k_ ≠ (v591 : Value).ownBlock) k_ from fun k_ hk => ⟨Kd.fresh' (Kd.N_lt (by (with_reducible repeat (first | apply Kd.N_alloc | apply Kd.N_drewN | apply Kd.N_drew)); exact HO_3.out)) k_ hk, Kd.fresh' (Kd.N_lt (by (with_reducible repeat (first | apply Kd.N_alloc | apply Kd.N_drewN | apply Kd.N_drew)); exact HO583.out)) k_ hk, Kd.fresh' (Kd.N_lt (by (with_reducible repeat (first | apply Kd.N_alloc | apply Kd.N_drewN | apply Kd.N_drew)); exact HO592.out)) k_ hk⟩) _ (Nat.le_refl _)) (Below.refl _ _) (Nat.le_refl _) (by simp) ?_; (case hd => rfl); (case hg => rfl); (case hr => first | (go_simp; done) | (go_simp; rfl)); (case hp => exact (Reps.c3 (show Kd.FK k30 _ _ (⟨t560, false, y593⟩ : S30) [.string t560, .bool false, .slice Ao53 y593.length co53] from (k30_mkF _ _ (⟨t560, false, y593⟩ : S30) (Kd.R_reads' (Kd.R_mono (ok' := (fun k_ => some k_ ≠ (.slice Ao9 t557.length co9 : Value).ownBlock ∧ some k_ ≠ (.slice Ao46 y581.length co46 : Value).ownBlock ∧ some k_ ≠ (v591 : Value).ownBlock)) (Kd.R_apart' (Kd.R_apart' (Kd.R_apart' (HO595.out) (Kd.N_typed HO_3.out) (by decide)) (Kd.N_typed HO583.out) (by decide)) (Kd.N_typed HO592.out) (by decide)) (fun k_ hk => ⟨hk.1.1.2, ⟨hk.1.2, hk.2⟩⟩))).2.1 (Kd.R_F (Kd.R_mono (ok' := (fun k_ => some k_ ≠ (.slice Ao9 t557.length co9 : Value).ownBlock ∧ some k_ ≠ (.slice Ao46 y581.length co46 : Value).ownBlock ∧ some k_ ≠ (v591 : Value).ownBlock)) (Kd.R_apart' (Kd.R_apart' (Kd.R_apart' (HO595.out) (Kd.N_typed HO_3.out) (by decide)) (Kd.N_typed HO583.out) (by decide)) (Kd.N_typed HO592.out) (by decide)) (fun k_ hk => ⟨hk.1.1.2, ⟨hk.1.2, hk.2⟩⟩))))) (Reps.none _ _))); intro v597 w54 ho55 hb hg_ hnew_; clear hg_ hnew_; (first | rw [← Ny596.out] at ho55 | (simp only [Int.reduceToNat] at ho55; rw [← Ny596.out] at ho55)); have n0_ := Aside0.mk (Kd.N_elder' (by (with_reducible repeat (first | apply Kd.N_alloc | apply Kd.N_drewN | apply Kd.N_drew)); exact HO_3.out) (Kd.N_base ho55) hb); have n1_ := Aside0.mk (Kd.N_elder' (by (with_reducible repeat (first | apply Kd.N_alloc | apply Kd.N_drewN | apply Kd.N_drew)); exact HO583.out) (Kd.N_base ho55) hb); have n2_ := Aside0.mk (Kd.N_elder' (by (with_reducible repeat (first | apply Kd.N_alloc | apply Kd.N_drewN | apply Kd.N_drew)); exact HO592.out) (Kd.N_base ho55) hb); have n3_ := Aside0.mk (Kd.N_lower ho55 (below_size (by repeat (first | (with_reducible first | exact HB.out | apply below_alloc | apply pw_below_drewN | apply below_drew1) | exact HB.out)))); have n4_ := Aside0.mk (below_step (by repeat (first | (with_reducible first | exact HB.out | apply below_alloc | apply pw_below_drewN | apply below_drew1) | exact HB.out)) hb); clear HO_3 HO583 HO592 HB HO595; have HO_3 := n0_; have HO583 := n1_; have HO592 := n2_; have HO598 := n3_; have HB := n4_; clear n0_ n1_ n2_ n3_ n4_ hb ho55; obtain ⟨Ao57, co57, eo57⟩ := Kd.N_slice HO598.out; subst eo57) | ((with_reducible refine gate_builtin (b := .append) (xs := #[.tmp 97, .tmp 103]) rfl ?_); (try (refine gate_guard (by rfl) ?_; dsimp only)); at_builtin; refine Kd.N_append (Kd.slice 30 k30) (w0 := w) w.heap.size rfl (.tmp 97) (.tmp 103) 42 23 (.slice none 0 0) 24 rfl Try.underlying42 info23 rfl (by decide) (by omega) v591 y590 y596 [.slice Ao57 y596.length co57] (fun k_ => some k_ ≠ (.slice Ao46 y581.length co46 : Value).ownBlock) (fun k_ => ((fun k_ => some k_ ≠ (.slice Ao46 y581.length co46 : Value).ownBlock)) k_ ∧ some k_ ≠ (v591 : Value).ownBlock) rfl rfl ?aP (fun _ hk => hk) ?aF ?aO ?aB ?aS ?aL ?_; (case aP => exact (Kd.FK_slice_mk (Kd.N_reads' (Kd.N_mono (ok' := (fun k_ => ((fun k_ => some k_ ≠ (.slice Ao46 y581.length co46 : Value).ownBlock)) k_ ∧ some k_ ≠ (v591 : Value).ownBlock)) (HO598.out) (fun k_ hk => ⟨hk.2.1, hk.2.2⟩))).2.1 (Kd.N_F (Kd.N_mono (ok' := (fun k_ => ((fun k_ => some k_ ≠ (.slice Ao46 y581.length co46 : Value).ownBlock)) k_ ∧ some k_ ≠ (v591 : Value).ownBlock)) (HO598.out) (fun k_ hk => ⟨hk.2.1, hk.2.2⟩))))); (case aB => exact (by repeat (first | (with_reducible first | exact HB.out | apply below_alloc | apply pw_below_drewN | apply below_drew1) | exact HB.out))); (case aF => exact (fun k_ hk => Kd.fresh' (Kd.N_lt (by (with_reducible repeat (first | apply Kd.N_alloc | apply Kd.N_drewN | apply Kd.N_drew)); exact HO583.out)) k_ hk)); (case aO => exact (by (with_reducible repeat (first | apply Kd.N_alloc | apply Kd.N_drewN | apply Kd.N_drew)); exact Kd.N_mono HO592.out (fun _ hk => hk.1.1))); (case aS => exact (below_size (by repeat (first | (with_reducible first | exact HB.out | apply below_alloc | apply pw_below_drewN | apply below_drew1) | exact HB.out)))); (case aL => have := LMc23.out; omega); intro v600 w56 ho hb hg hat; rw [← Ny599.out] at ho; have n0_ := Aside0.mk (Kd.N_afterv (ok := (fun k_ => some k_ ≠ (.slice Ao46 y581.length co46 : Value).ownBlock ∧ some k_ ≠ (.slice Ao57 y596.length co57 : Value).ownBlock)) (by (with_reducible repeat (first | apply Kd.N_alloc | apply Kd.N_drewN | apply Kd.N_drew)); exact Kd.N_mono HO_3.out (fun _ hk => ⟨⟨hk.1.1.1, hk.2⟩, hk.1.1.2⟩)) hg hat); have n1_ := Aside0.mk (Kd.N_afterv (ok := (fun k_ => some k_ ≠ (.slice Ao57 y596.length co57 : Value).ownBlock)) (by (with_reducible repeat (first | apply Kd.N_alloc | apply Kd.N_drewN | apply Kd.N_drew)); exact Kd.N_mono HO583.out (fun _ hk => ⟨hk.2, hk.1.1.2⟩)) hg hat); have n2_ := Aside0.mk (hb); have n3_ := Aside0.mk (ho); clear HO_3 HO583 HB HO592 HO598; have HO_3 := n0_; have HO583 := n1_; have HB := n2_; have HO601 := n3_; clear n0_ n1_ n2_ n3_ ho hb hg hat; obtain ⟨Ao58, co58, eo58⟩ := Kd.N_slice HO601.out; subst eo58) | ((with_reducible refine gate_callee (f := 31) rfl ?_); refine goesL_ (some 108) rfl rfl Try.func31 (by kernel_rfl) rfl #[.slice Ao58 y599.length co58, .string t560] rfl (by (try simp only [List.map_toArray, List.map_cons, List.map_nil]); first | done | rfl | (simp only [List.length_drop, List.length_take]; rfl)) ?_; (with_reducible refine (impl_PickAt.calls k4 _ _ y599 t560 t602 t603 t604 _ ?side1 ?side2 A24.out).mono ?_); (case side1 => repeat (first | exact (Kd.N_reads' HO601.out).2.2 | (with_reducible refine Kd.C_alloc ?_ _) | (with_reducible refine Kd.C_drewN ?_ _) | (with_reducible refine Kd.C_drew ?_))); (case side2 => exact (Kd.N_reads' HO601.out).2.1); rintro e w59 ⟨rfl, hb⟩; refine ⟨_, rfl, ?_⟩; have n0_ := Aside0.mk (Kd.N_below (by (with_reducible repeat (first | apply Kd.N_alloc | apply Kd.N_drewN | apply Kd.N_drew)); exact HO_3.out) hb); have n1_ := Aside0.mk (Kd.N_below (by (with_reducible repeat (first | apply Kd.N_alloc | apply Kd.N_drewN | apply Kd.N_drew)); exact HO583.out) hb); have n2_ := Aside0.mk (Kd.N_below (by (with_reducible repeat (first | apply Kd.N_alloc | apply Kd.N_drewN | apply Kd.N_drew)); exact HO601.out) hb); have n3_ := Aside0.mk (below_step (by repeat (first | (with_reducible first | exact HB.out | apply below_alloc | apply pw_below_drewN | apply below_drew1) | exact HB.out)) hb); clear HO_3 HO583 HO601 HB; have HO_3 := n0_; have HO583 := n1_; have HO601 := n2_; have HB := n3_; clear n0_ n1_ n2_ n3_; (try clear hb); (try clear hb2); (try clear hk); (try clear hi)))
          by_cases c25 : t563 = true
          · subst c25
            have H1 : (if 0 ≤ t561 then (if t561 < (t557.length : Int) then ((impl_UnitFind.f k4 (rd_L13 t557 t561) t560).bind fun t607 => (if 0 ≤ t607 then (if t607 < ((rd_L13 t557 t561).length : Int) then (if t586 = true then (if t604 = true then (if t584 = t561 then (if ((rd_T30 (rd_L13 t557 t561) t607).f1 = true) then (if (¬ ((rd_T30 (rd_L13 t557 t561) t607).f1 = true)) then (some false) else (some (t602 == (t557.length : Int)))) else (if t602 = t561 then (some true) else (if (¬ ((rd_T30 (rd_L13 t557 t561) t607).f1 = true)) then (some false) else (some (t602 == (t557.length : Int)))))) else (some false)) else (some false)) else (some false)) else (none)) else (none))) else (none)) else (none)) = some r := by rw [if_pos rfl] at H; exact H
            clear H
            have H := H1
            clear H1
            by_cases c26 : 0 ≤ t561
            · rw [if_pos c26] at H
              have c26b0 : decide (0 ≤ t561) = true := decide_eq_true c26
              clear c26
              by_cases c27 : t561 < (t557.length : Int)
              · rw [if_pos c27] at H
                have c27b0 : decide (t561 < (t557.length : Int)) = true := decide_eq_true c27
                clear c27
                replace H := Option.bind_eq_some_iff.mp H
                obtain ⟨t607, A280, H⟩ := H
                replace H : (if 0 ≤ t607 then (if t607 < ((rd_L13 t557 t561).length : Int) then (if t586 = true then (if t604 = true then (if t584 = t561 then (if ((rd_T30 (rd_L13 t557 t561) t607).f1 = true) then (if (¬ ((rd_T30 (rd_L13 t557 t561) t607).f1 = true)) then (some false) else (some (t602 == (t557.length : Int)))) else (if t602 = t561 then (some true) else (if (¬ ((rd_T30 (rd_L13 t557 t561) t607).f1 = true)) then (some false) else (some (t602 == (t557.length : Int)))))) else (some false)) else (some false)) else (some false)) else (none)) else (none)) = some r := H
                have A28 := Aside0.mk A280; clear A280
                by_cases c29 : 0 ≤ t607
                · rw [if_pos c29] at H
                  have c29b0 : decide (0 ≤ t607) = true := decide_eq_true c29
                  clear c29
                  by_cases c30 : t607 < ((rd_L13 t557 t561).length : Int)
                  · rw [if_pos c30] at H
                    have c30b0 : decide (t607 < ((rd_L13 t557 t561).length : Int)) = true := decide_eq_true c30
                    clear c30
                    by_cases c31 : t586 = true
                    · subst c31
                      have H1 : (if t604 = true then (if t584 = t561 then (if ((rd_T30 (rd_L13 t557 t561) t607).f1 = true) then (if (¬ ((rd_T30 (rd_L13 t557 t561) t607).f1 = true)) then (some false) else (some (t602 == (t557.length : Int)))) else (if t602 = t561 then (some true) else (if (¬ ((rd_T30 (rd_L13 t557 t561) t607).f1 = true)) then (some false) else (some (t602 == (t557.length : Int)))))) else (some false)) else (some false)) = some r := by rw [if_pos rfl] at H; exact H
                      clear H
                      have H := H1
                      clear H1
                      by_cases c32 : t604 = true
                      · subst c32
                        have H1 : (if t584 = t561 then (if ((rd_T30 (rd_L13 t557 t561) t607).f1 = true) then (if (¬ ((rd_T30 (rd_L13 t557 t561) t607).f1 = true)) then (some false) else (some (t602 == (t557.length : Int)))) else (if t602 = t561 then (some true) else (if (¬ ((rd_T30 (rd_L13 t557 t561) t607).f1 = true)) then (some false) else (some (t602 == (t557.length : Int)))))) else (some false)) = some r := by rw [if_pos rfl] at H; exact H
                        clear H
                        have H := H1
                        clear H1
                        by_cases c33 : t584 = t561
                        · rw [if_pos c33] at H
                          have c33b0 : (t584 == t561) = true := beq_iff_eq.mpr c33
                          have c33b1 : (t584 != t561) = false := bne_eq_false_iff_eq.mpr c33
                          clear c33
                          obtain ⟨bq34, hbq34⟩ : ∃ b_ : Bool, b_ = ((rd_T30 (rd_L13 t557 t561) t607).f1) := ⟨_, rfl⟩
                          replace H : (if (bq34 = true) then (if (¬ (bq34 = true)) then (some false) else (some (t602 == (t557.length : Int)))) else (if t602 = t561 then (some true) else (if (¬ (bq34 = true)) then (some false) else (some (t602 == (t557.length : Int)))))) = some r := by rw [← hbq34] at H; exact H
                          have Nbq34 := Aside0.mk hbq34; clear hbq34
                          by_cases c35 : (bq34 = true)
                          · subst c35
                            have H1 : (if (¬ (true = true)) then (some false) else (some (t602 == (t557.length : Int)))) = some r := by rw [if_pos rfl] at H; exact H
                            clear H
                            have H := H1
                            clear H1
                            have H1 : (some (t602 == (t557.length : Int))) = some r := by rw [if_neg (by decide)] at H; exact H
                            clear H
                            have H := H1
                            clear H1
                            obtain rfl := Option.some.inj H
                            have n0_ := Aside0.mk (Kd.N_drew HO_3.out)
                            have n1_ := Aside0.mk (Kd.N_drew HO583.out)
                            have n2_ := Aside0.mk (Kd.N_drew HO601.out)
                            have n3_ := Aside0.mk (below_drew1 HB.out)
                            clear HO_3 HO583 HO601; clear HB
                            have HO_3 := n0_
                            have HO583 := n1_
                            have HO601 := n2_
                            have HB := n3_
                            clear n0_ n1_ n2_ n3_
                            have p605 : 0 ≤ (t561 : Int) := of_decide_eq_true (by first | (with_reducible assumption) | assumption)
                            have q605 : t561 < (t557.length : Int) := of_decide_eq_true (by first | (with_reducible assumption) | assumption)
                            obtain ⟨ad605, A605_0, c605_0, e605, hx605_0, hl605_0, hi605_0⟩ := at_L13 (Kd.N_reads' HO_3.out).2.2 t561 p605 q605
                            cases e605
                            obtain ⟨ce605, hce605, hMe605, hcc605⟩ := Kd.N_get HO_3.out [] t561 p605 (by first | exact q605 | exact of_decide_eq_true (by first | (with_reducible assumption) | assumption) | (have e_ := (Kd.N_reads' HO_3.out).1; omega))
                            obtain ⟨ua605_0, uc605_0, rfl, ul605_0, ge605_0⟩ := Kd.FK_slice_open hMe605
                            have hv605_0 := hcc605 0 _ rfl
                            rw [Nat.add_zero, show ((Kd.slice 30 k30)).sz = 1 from rfl, Nat.mul_one] at hv605_0
                            replace hv605_0 := Option.some.inj (hv605_0.symm.trans hx605_0)
                            injection hv605_0 with hva_ hvn_ hvc_
                            rw [hva_] at ge605_0
                            rw [hvc_] at ul605_0
                            have HL605_0 := Aside0.mk (show Kd.V k30 30 _ w.heap.size _ _ (rd_L13 t557 t561) from Kd.V_mk ul605_0 ge605_0)
                            clear hva_ hvn_ hvc_ ge605_0 ul605_0; clear hcc605 hce605; have HR605_0 := Aside0.mk hi605_0; have HC605_0 := Aside0.mk hl605_0; clear hi605_0 hl605_0; replace p605 := eq_true p605; replace q605 := eq_true q605
                            have p606 : 0 ≤ (t561 : Int) := of_decide_eq_true (by first | (with_reducible assumption) | assumption)
                            have q606 : t561 < (t557.length : Int) := of_decide_eq_true (by first | (with_reducible assumption) | assumption)
                            obtain ⟨ad606, A606_0, c606_0, e606, hx606_0, hl606_0, hi606_0⟩ := at_L13 (Kd.N_reads' HO_3.out).2.2 t561 p606 q606
                            obtain rfl : ad605 = ad606 := (by injection e606)
                            obtain ⟨ce606, hce606, hMe606, hcc606⟩ := Kd.N_get HO_3.out [] t561 p606 (by first | exact q606 | exact of_decide_eq_true (by first | (with_reducible assumption) | assumption) | (have e_ := (Kd.N_reads' HO_3.out).1; omega))
                            obtain ⟨ua606_0, uc606_0, rfl, ul606_0, ge606_0⟩ := Kd.FK_slice_open hMe606
                            have hv606_0 := hcc606 0 _ rfl
                            rw [Nat.add_zero, show ((Kd.slice 30 k30)).sz = 1 from rfl, Nat.mul_one] at hv606_0
                            replace hv606_0 := Option.some.inj (hv606_0.symm.trans hx606_0)
                            injection hv606_0 with hva_ hvn_ hvc_
                            rw [hva_] at ge606_0
                            rw [hvc_] at ul606_0
                            have HL606_0 := Aside0.mk (show Kd.V k30 30 _ w.heap.size _ _ (rd_L13 t557 t561) from Kd.V_mk ul606_0 ge606_0)
                            clear hva_ hvn_ hvc_ ge606_0 ul606_0; clear hcc606 hce606; have HR606_0 := Aside0.mk hi606_0; have HC606_0 := Aside0.mk hl606_0; clear hi606_0 hl606_0; replace p606 := eq_true p606; replace q606 := eq_true q606
                            have ea_ := Option.some.inj (hx605_0.symm.trans hx606_0)
                            injection ea_ with ea_ en_ ec_
                            subst ea_; subst ec_; clear en_
                            have p608 : 0 ≤ (t607 : Int) := of_decide_eq_true (by first | (with_reducible assumption) | assumption)
                            have q608 : t607 < ((rd_L13 t557 t561).length : Int) := of_decide_eq_true (by first | (with_reducible assumption) | assumption)
                            obtain ⟨ad608, A608_2, c608_2, e608, hx608_0, hx608_1, hx608_2, hl608_2, hi608_2⟩ := at_T30 (by repeat (first | (with_reducible exact HR605_0.out) | (with_reducible refine Kd.C_alloc ?_ _) | (with_reducible refine Kd.C_drewN ?_ _) | (with_reducible refine Kd.C_drew ?_) | exact HR605_0.out)) t607 p608 q608
                            (try rw [← Nbq34.out] at hx608_1)
                            cases e608
                            obtain ⟨ce608, hce608, hMe608, hcc608⟩ := Kd.V_get HL605_0.out z30 t607 p608 (by first | exact q608 | exact of_decide_eq_true (by first | (with_reducible assumption) | assumption) | (have e_ := (Kd.V_reads' HL605_0.out).1; omega))
                            obtain ⟨ua608_2, uc608_2, rfl, ul608_2, ge608_2⟩ := k30_openF hMe608
                            have hv608_2 := hcc608 2 _ rfl
                            rw [add_field _ _ 2 (by omega)] at hv608_2
                            replace hv608_2 := Option.some.inj (hv608_2.symm.trans hx608_2)
                            injection hv608_2 with hva_ hvn_ hvc_
                            rw [hva_] at ge608_2
                            rw [hvc_] at ul608_2
                            have HL608_2 := Aside0.mk (show Kd.V k38 38 _ w.heap.size _ _ ((rd_T30 (rd_L13 t557 t561) t607).f2) from Kd.V_mk ul608_2 ge608_2)
                            clear hva_ hvn_ hvc_ ge608_2 ul608_2; clear hcc608 hce608; have HR608_2 := Aside0.mk hi608_2; have HC608_2 := Aside0.mk hl608_2; clear hi608_2 hl608_2; replace p608 := eq_true p608; replace q608 := eq_true q608
                            refine start_ (n := 18) (S := fun w' => w'.cell? (ad605.add (t561).toNat) = some (.slice (some ad608) (rd_L13 t557 t561).length c605_0) ∧ w'.cell? (ad605.add (t561).toNat) = some (.slice (some ad608) (rd_L13 t557 t561).length c605_0) ∧ w'.cell? (ad608.add ((t607).toNat * 3)) = some (.string ((rd_T30 (rd_L13 t557 t561) t607).f0)) ∧ w'.cell? ⟨(ad608.add ((t607).toNat * 3)).block, (ad608.add ((t607).toNat * 3)).off + 1, none⟩ = some (.bool true) ∧ w'.cell? ⟨(ad608.add ((t607).toNat * 3)).block, (ad608.add ((t607).toNat * 3)).off + 2, none⟩ = some (.slice A608_2 ((rd_T30 (rd_L13 t557 t561) t607).f2).length c608_2)) (ds := []) #[false, false, false, false, false, false, false, false, false, false, false, false, false, false, false, false, false, false] (by kernel_rfl) rfl rfl ⟨hx605_0, hx606_0, hx608_0, hx608_1, hx608_2⟩ (fun hHeld => ?_); refine with_tabW laws_FnPickStrong.tab17 laws_FnPickStrong.bits17 (fun HT_ HW_ => ?_)
                            generalize w59.drew = w60 at HO_3 HO583 HO601 HB HL605_0 HL606_0 HR605_0 HR606_0 hx605_0 hx606_0 hHeld ⊢
                            refine pure_ (i := 0) (N := some 112) (v := ?_) (a' := ?_) #[true, false, false, false, false, false, false, false, false, false, false, false, false, false, false, false, false, false] rfl rfl (any_of HT_.out (by kernel_rfl)) (fun _ _ _ h => h) (Or.inl ⟨by rfl, ?_⟩) ?_ ?_
                            rotate_left
                            · intro w'
                              go_simp
                              with_reducible rfl
                            rotate_left
                            · simp only [Act.put, List.setIfInBounds_toArray, List.set_cons_zero, List.set_cons_succ, i64_w, i32_w]
                              rfl
                            refine pure_ (i := 1) (N := some 113) (v := ?_) (a' := ?_) #[true, true, false, false, false, false, false, false, false, false, false, false, false, false, false, false, false, false] rfl rfl (any_of HT_.out (by kernel_rfl)) (fun _ _ _ h => h) (Or.inl ⟨by rfl, ?_⟩) ?_ ?_
                            rotate_left
                            · intro w'
                              go_simp
                              with_reducible rfl
                            rotate_left
                            · simp only [Act.put, List.setIfInBounds_toArray, List.set_cons_zero, List.set_cons_succ, i64_w, i32_w]
                              rfl
                            refine pure_ (i := 2) (N := some 114) (v := ?_) (a' := ?_) #[true, true, true, false, false, false, false, false, false, false, false, false, false, false, false, false, false, false] rfl rfl (any_of HT_.out (by kernel_rfl)) (fun _ _ _ h => h) (Or.inl ⟨by rfl, ?_⟩) ?_ ?_
                            rotate_left
                            · intro w'
                              go_simp
                              with_reducible rfl
                            rotate_left
                            · simp only [Act.put, List.setIfInBounds_toArray, List.set_cons_zero, List.set_cons_succ, i64_w, i32_w]
                              rfl
                            refine pure_ (i := 3) (N := some 115) (v := ?_) (a' := ?_) #[true, true, true, true, false, false, false, false, false, false, false, false, false, false, false, false, false, false] rfl rfl (any_of HT_.out (by kernel_rfl)) (fun _ _ _ h => h) (Or.inl ⟨by rfl, ?_⟩) ?_ ?_
                            rotate_left
                            · intro w'
                              go_simp
                              with_reducible rfl
                            rotate_left
                            · simp only [Act.put, List.setIfInBounds_toArray, List.set_cons_zero, List.set_cons_succ, i64_w, i32_w]
                              rfl
                            refine pure_ (i := 4) (N := some 116) (v := ?_) (a' := ?_) #[true, true, true, true, true, false, false, false, false, false, false, false, false, false, false, false, false, false] rfl rfl (any_of HT_.out (by kernel_rfl)) (fun _ _ _ h => h) (Or.inl ⟨by rfl, ?_⟩) ?_ ?_
                            rotate_left
                            · intro w'
                              go_simp
                              with_reducible rfl
                            rotate_left
                            · simp only [Act.put, List.setIfInBounds_toArray, List.set_cons_zero, List.set_cons_succ, i64_w, i32_w]
                              rfl
                            refine pure_ (i := 6) (N := some 118) (v := ?_) (a' := ?_) #[true, true, true, true, true, false, true, false, false, false, false, false, false, false, false, false, false, false] rfl rfl (any_of HT_.out (by kernel_rfl)) (fun _ _ _ h => h) (Or.inl ⟨by rfl, ?_⟩) ?_ ?_
                            rotate_left
                            · intro w'
                              go_simp
                              with_reducible rfl
                            rotate_left
                            · simp only [Act.put, List.setIfInBounds_toArray, List.set_cons_zero, List.set_cons_succ, i64_w, i32_w]
                              rfl
                            refine pure_ (i := 7) (N := some 119) (v := ?_) (a' := ?_) #[true, true, true, true, true, false, true, true, false, false, false, false, false, false, false, false, false, false] rfl rfl (any_of HT_.out (by kernel_rfl)) (fun _ _ _ h => h) (Or.inl ⟨by rfl, ?_⟩) ?_ ?_
                            rotate_left
                            · intro w'
                              go_simp
                              with_reducible rfl
                            rotate_left
                            · simp only [Act.put, List.setIfInBounds_toArray, List.set_cons_zero, List.set_cons_succ, i64_w, i32_w]
                              rfl
                            refine pure_ (i := 8) (N := some 120) (v := ?_) (a' := ?_) #[true, true, true, true, true, false, true, true, true, false, false, false, false, false, false, false, false, false] rfl rfl (any_of HT_.out (by kernel_rfl)) (fun _ _ _ h => h) (Or.inl ⟨by rfl, ?_⟩) ?_ ?_
                            rotate_left
                            · intro w'
                              go_simp
                              with_reducible rfl
                            rotate_left
                            · simp only [Act.put, List.setIfInBounds_toArray, List.set_cons_zero, List.set_cons_succ, i64_w, i32_w]
                              rfl
                            refine pure_ (i := 10) (N := some 122) (v := ?_) (a' := ?_) #[true, true, true, true, true, false, true, true, true, false, true, false, false, false, false, false, false, false] rfl rfl (any_of HT_.out (by kernel_rfl)) (fun _ _ _ h => h) (Or.inl ⟨by rfl, ?_⟩) ?_ ?_
                            rotate_left
                            · intro w'
                              go_simp
                              with_reducible rfl
                            rotate_left
                            · simp only [Act.put, List.setIfInBounds_toArray, List.set_cons_zero, List.set_cons_succ, i64_w, i32_w]
                              rfl
                            refine take_ (i := 5) (N := some 117) (v := ?_) (a' := ?_) #[true, true, true, true, true, true, true, true, true, false, true, false, false, false, false, false, false, false] rfl rfl (take_ofW HT_.out HW_.out (by kernel_rfl)) (fun _ _ _ h => h) (Or.inl ⟨by rfl, ?_⟩) hHeld ?_ ?_
                            rotate_left
                            · rintro w' ⟨s0, s1, s2, s3, s4⟩
                              go_simp
                              with_reducible rfl
                            rotate_left
                            · simp only [Act.put, List.setIfInBounds_toArray, List.set_cons_zero, List.set_cons_succ, i64_w, i32_w]
                              rfl
                            refine take_ (i := 9) (N := some 121) (v := ?_) (a' := ?_) #[true, true, true, true, true, true, true, true, true, true, true, false, false, false, false, false, false, false] rfl rfl (take_ofW HT_.out HW_.out (by kernel_rfl)) (fun _ _ _ h => h) (Or.inl ⟨by rfl, ?_⟩) hHeld ?_ ?_
                            rotate_left
                            · rintro w' ⟨s0, s1, s2, s3, s4⟩
                              go_simp
                              with_reducible rfl
                            rotate_left
                            · simp only [Act.put, List.setIfInBounds_toArray, List.set_cons_zero, List.set_cons_succ, i64_w, i32_w]
                              rfl
                            refine one_ (i := 11) (N := some 123) #[true, true, true, true, true, true, true, true, true, true, true, true, false, false, false, false, false, false] rfl rfl (one_of HT_.out (by kernel_rfl)) (by decide) (fun K hK => ?_)
                            refine goes_ Try.func16 (by kernel_rfl) rfl #[.slice (some ad608) (rd_L13 t557 t561).length c605_0, .string t560] (by rfl) rfl rfl (by (try simp only [List.map_toArray, List.map_cons, List.map_nil]); first | done | rfl | (simp only [List.length_drop, List.length_take]; rfl)) ?_
                            with_reducible refine (impl_UnitFind.calls k4 _ _ (rd_L13 t557 t561) t560 t607 _ ?side1 ?side2 A28.out).mono ?_
                            (case side1 => repeat (first | exact (by repeat (first | (with_reducible exact HR606_0.out) | (with_reducible refine Kd.C_alloc ?_ _) | (with_reducible refine Kd.C_drewN ?_ _) | (with_reducible refine Kd.C_drew ?_) | exact HR606_0.out)) | (with_reducible refine Kd.C_alloc ?_ _) | (with_reducible refine Kd.C_drewN ?_ _) | (with_reducible refine Kd.C_drew ?_)))
                            (case side2 => exact HC606_0.out)
                            rintro e w61 ⟨rfl, hb⟩
                            have HS0_ := (hb.cell (World.block_lt_of_cell? _ _ (hHeld.1))).trans (hHeld.1)
                            have HS1_ := (hb.cell (World.block_lt_of_cell? _ _ (hHeld.2.1))).trans (hHeld.2.1)
                            have HS2_ := (hb.cell (World.block_lt_of_cell? _ _ (hHeld.2.2.1))).trans (hHeld.2.2.1)
                            have HS3_ := (hb.cell (World.block_lt_of_cell? _ _ (hHeld.2.2.2.1))).trans (hHeld.2.2.2.1)
                            have HS4_ := (hb.cell (World.block_lt_of_cell? _ _ (hHeld.2.2.2.2))).trans (hHeld.2.2.2.2)
                            refine ⟨_, rfl, ?_⟩
                            have n0_ := Aside0.mk (Kd.N_below (by (with_reducible repeat (first | apply Kd.N_alloc | apply Kd.N_drewN | apply Kd.N_drew)); exact HO_3.out) hb)
                            have n1_ := Aside0.mk (Kd.N_below (by (with_reducible repeat (first | apply Kd.N_alloc | apply Kd.N_drewN | apply Kd.N_drew)); exact HO583.out) hb)
                            have n2_ := Aside0.mk (Kd.N_below (by (with_reducible repeat (first | apply Kd.N_alloc | apply Kd.N_drewN | apply Kd.N_drew)); exact HO601.out) hb)
                            have n3_ := Aside0.mk (Kd.V_below (by (with_reducible repeat (first | apply Kd.V_alloc | apply Kd.V_drewN | apply Kd.V_drew)); exact HL605_0.out) hb)
                            have n4_ := Aside0.mk (Kd.V_below (by (with_reducible repeat (first | apply Kd.V_alloc | apply Kd.V_drewN | apply Kd.V_drew)); exact HL606_0.out) hb)
                            have n5_ := Aside0.mk (Kd.C_below (by repeat (first | (with_reducible exact HR605_0.out) | (with_reducible refine Kd.C_alloc ?_ _) | (with_reducible refine Kd.C_drewN ?_ _) | (with_reducible refine Kd.C_drew ?_) | exact HR605_0.out)) hb)
                            have n6_ := Aside0.mk (Kd.C_below (by repeat (first | (with_reducible exact HR606_0.out) | (with_reducible refine Kd.C_alloc ?_ _) | (with_reducible refine Kd.C_drewN ?_ _) | (with_reducible refine Kd.C_drew ?_) | exact HR606_0.out)) hb)
                            have n7_ := Aside0.mk (below_step (by repeat (first | (with_reducible first | exact HB.out | apply below_alloc | apply pw_below_drewN | apply below_drew1) | exact HB.out)) hb)
                            clear HO_3 HO583 HO601 HL605_0 HL606_0 HR605_0 HR606_0; clear HB
                            have HO_3 := n0_
                            have HO583 := n1_
                            have HO601 := n2_
                            have HL605_0 := n3_
                            have HL606_0 := n4_
                            have HR605_0 := n5_
                            have HR606_0 := n6_
                            have HB := n7_
                            clear n0_ n1_ n2_ n3_ n4_ n5_ n6_ n7_
                            (try clear hb)
                            (try clear hb2)
                            (try clear hk)
                            (try clear hi)
                            refine hK.out _ _ ⟨HS0_, HS1_, HS2_, HS3_, HS4_⟩ (fun hHeld => ?_)
                            clear hK K
                            refine norm_ (a' := ?_) ?_ ?_
                            rotate_left
                            · show Act.put _ (some 123) _ = _
                              simp only [Act.put, List.setIfInBounds_toArray, List.set_cons_zero, List.set_cons_succ, i64_w, i32_w]
                              rfl
                            refine pure_ (i := 12) (N := some 124) (v := ?_) (a' := ?_) #[true, true, true, true, true, true, true, true, true, true, true, true, true, false, false, false, false, false] rfl rfl (any_of HT_.out (by kernel_rfl)) (fun _ _ _ h => h) (Or.inl ⟨by rfl, ?_⟩) ?_ ?_
                            rotate_left
                            · intro w'
                              go_simp
                              with_reducible rfl
                            rotate_left
                            · simp only [Act.put, List.setIfInBounds_toArray, List.set_cons_zero, List.set_cons_succ, i64_w, i32_w]
                              rfl
                            refine pure_ (i := 13) (N := some 125) (v := ?_) (a' := ?_) #[true, true, true, true, true, true, true, true, true, true, true, true, true, true, false, false, false, false] rfl rfl (any_of HT_.out (by kernel_rfl)) (fun _ _ _ h => h) (Or.inl ⟨by rfl, ?_⟩) ?_ ?_
                            rotate_left
                            · intro w'
                              go_simp
                              with_reducible rfl
                            rotate_left
                            · simp only [Act.put, List.setIfInBounds_toArray, List.set_cons_zero, List.set_cons_succ, i64_w, i32_w]
                              rfl
                            refine take_ (i := 14) (N := some 126) (v := ?_) (a' := ?_) #[true, true, true, true, true, true, true, true, true, true, true, true, true, true, true, false, false, false] rfl rfl (take_ofW HT_.out HW_.out (by kernel_rfl)) (fun _ _ _ h => h) (Or.inl ⟨by rfl, ?_⟩) hHeld ?_ ?_
                            rotate_left
                            · rintro w' ⟨s0, s1, s2, s3, s4⟩
                              go_simp
                              with_reducible rfl
                            rotate_left
                            · simp only [Act.put, List.setIfInBounds_toArray, List.set_cons_zero, List.set_cons_succ, i64_w, i32_w]
                              rfl
                            refine pure_ (i := 15) (N := some 127) (v := ?_) (a' := ?_) #[true, true, true, true, true, true, true, true, true, true, true, true, true, true, true, true, false, false] rfl rfl (any_of HT_.out (by kernel_rfl)) (fun _ _ _ h => h) (Or.inl ⟨by rfl, ?_⟩) ?_ ?_
                            rotate_left
                            · intro w'
                              go_simp
                              with_reducible rfl
                            rotate_left
                            · simp only [Act.put, List.setIfInBounds_toArray, List.set_cons_zero, List.set_cons_succ, i64_w, i32_w]
                              rfl
                            refine pure_ (i := 16) (N := some 128) (v := ?_) (a' := ?_) #[true, true, true, true, true, true, true, true, true, true, true, true, true, true, true, true, true, false] rfl rfl (any_of HT_.out (by kernel_rfl)) (fun _ _ _ h => h) (Or.inl ⟨by rfl, ?_⟩) ?_ ?_
                            rotate_left
                            · intro w'
                              go_simp
                              with_reducible rfl
                            rotate_left
                            · simp only [Act.put, List.setIfInBounds_toArray, List.set_cons_zero, List.set_cons_succ, i64_w, i32_w]
                              rfl
                            refine pure_ (i := 17) (N := some 20) (v := ?_) (a' := ?_) #[true, true, true, true, true, true, true, true, true, true, true, true, true, true, true, true, true, true] rfl rfl (any_of HT_.out (by kernel_rfl)) (fun _ _ _ h => h) (Or.inl ⟨by rfl, ?_⟩) ?_ ?_
                            rotate_left
                            · intro w'
                              go_simp
                              with_reducible rfl
                            rotate_left
                            · simp only [Act.put, List.setIfInBounds_toArray, List.set_cons_zero, List.set_cons_succ, i64_w, i32_w]
                              rfl
                            refine done_ (done_of HT_.out (by kernel_rfl)) ?_
                            try go_wp2
                            go_ret
                            exact ⟨by first | rfl | (simp [errW_none, errW_some] <;> rfl) | (simp [*, errW_none, errW_some] <;> rfl), by repeat (first | (with_reducible first | exact HB.out | apply below_alloc | apply pw_below_drewN | apply below_drew1) | exact HB.out)⟩
                          replace c35 := Bool.eq_false_iff.mpr c35
                          subst c35
                          have H1 : (if t602 = t561 then (some true) else (if (¬ (false = true)) then (some false) else (some (t602 == (t557.length : Int))))) = some r := by rw [if_neg (show ¬ (false = true) by decide)] at H; exact H
                          clear H
                          have H := H1
                          clear H1
                          by_cases c62 : t602 = t561
                          · rw [if_pos c62] at H
                            have c62b0 : (t602 == t561) = true := beq_iff_eq.mpr c62
                            have c62b1 : (t602 != t561) = false := bne_eq_false_iff_eq.mpr c62
                            clear c62
                            obtain rfl := Option.some.inj H
                            have n0_ := Aside0.mk (Kd.N_drew HO_3.out)
                            have n1_ := Aside0.mk (Kd.N_drew HO583.out)
                            have n2_ := Aside0.mk (Kd.N_drew HO601.out)
                            have n3_ := Aside0.mk (below_drew1 HB.out)
                            clear HO_3 HO583 HO601; clear HB
                            have HO_3 := n0_
                            have HO583 := n1_
                            have HO601 := n2_
                            have HB := n3_
                            clear n0_ n1_ n2_ n3_
                            have p605 : 0 ≤ (t561 : Int) := of_decide_eq_true (by first | (with_reducible assumption) | assumption)
                            have q605 : t561 < (t557.length : Int) := of_decide_eq_true (by first | (with_reducible assumption) | assumption)
                            obtain ⟨ad605, A605_0, c605_0, e605, hx605_0, hl605_0, hi605_0⟩ := at_L13 (Kd.N_reads' HO_3.out).2.2 t561 p605 q605
                            cases e605
                            obtain ⟨ce605, hce605, hMe605, hcc605⟩ := Kd.N_get HO_3.out [] t561 p605 (by first | exact q605 | exact of_decide_eq_true (by first | (with_reducible assumption) | assumption) | (have e_ := (Kd.N_reads' HO_3.out).1; omega))
                            obtain ⟨ua605_0, uc605_0, rfl, ul605_0, ge605_0⟩ := Kd.FK_slice_open hMe605
                            have hv605_0 := hcc605 0 _ rfl
                            rw [Nat.add_zero, show ((Kd.slice 30 k30)).sz = 1 from rfl, Nat.mul_one] at hv605_0
                            replace hv605_0 := Option.some.inj (hv605_0.symm.trans hx605_0)
                            injection hv605_0 with hva_ hvn_ hvc_
                            rw [hva_] at ge605_0
                            rw [hvc_] at ul605_0
                            have HL605_0 := Aside0.mk (show Kd.V k30 30 _ w.heap.size _ _ (rd_L13 t557 t561) from Kd.V_mk ul605_0 ge605_0)
                            clear hva_ hvn_ hvc_ ge605_0 ul605_0; clear hcc605 hce605; have HR605_0 := Aside0.mk hi605_0; have HC605_0 := Aside0.mk hl605_0; clear hi605_0 hl605_0; replace p605 := eq_true p605; replace q605 := eq_true q605
                            have p606 : 0 ≤ (t561 : Int) := of_decide_eq_true (by first | (with_reducible assumption) | assumption)
                            have q606 : t561 < (t557.length : Int) := of_decide_eq_true (by first | (with_reducible assumption) | assumption)
                            obtain ⟨ad606, A606_0, c606_0, e606, hx606_0, hl606_0, hi606_0⟩ := at_L13 (Kd.N_reads' HO_3.out).2.2 t561 p606 q606
                            obtain rfl : ad605 = ad606 := (by injection e606)
                            obtain ⟨ce606, hce606, hMe606, hcc606⟩ := Kd.N_get HO_3.out [] t561 p606 (by first | exact q606 | exact of_decide_eq_true (by first | (with_reducible assumption) | assumption) | (have e_ := (Kd.N_reads' HO_3.out).1; omega))
                            obtain ⟨ua606_0, uc606_0, rfl, ul606_0, ge606_0⟩ := Kd.FK_slice_open hMe606
                            have hv606_0 := hcc606 0 _ rfl
                            rw [Nat.add_zero, show ((Kd.slice 30 k30)).sz = 1 from rfl, Nat.mul_one] at hv606_0
                            replace hv606_0 := Option.some.inj (hv606_0.symm.trans hx606_0)
                            injection hv606_0 with hva_ hvn_ hvc_
                            rw [hva_] at ge606_0
                            rw [hvc_] at ul606_0
                            have HL606_0 := Aside0.mk (show Kd.V k30 30 _ w.heap.size _ _ (rd_L13 t557 t561) from Kd.V_mk ul606_0 ge606_0)
                            clear hva_ hvn_ hvc_ ge606_0 ul606_0; clear hcc606 hce606; have HR606_0 := Aside0.mk hi606_0; have HC606_0 := Aside0.mk hl606_0; clear hi606_0 hl606_0; replace p606 := eq_true p606; replace q606 := eq_true q606
                            have ea_ := Option.some.inj (hx605_0.symm.trans hx606_0)
                            injection ea_ with ea_ en_ ec_
                            subst ea_; subst ec_; clear en_
                            have p608 : 0 ≤ (t607 : Int) := of_decide_eq_true (by first | (with_reducible assumption) | assumption)
                            have q608 : t607 < ((rd_L13 t557 t561).length : Int) := of_decide_eq_true (by first | (with_reducible assumption) | assumption)
                            obtain ⟨ad608, A608_2, c608_2, e608, hx608_0, hx608_1, hx608_2, hl608_2, hi608_2⟩ := at_T30 (by repeat (first | (with_reducible exact HR605_0.out) | (with_reducible refine Kd.C_alloc ?_ _) | (with_reducible refine Kd.C_drewN ?_ _) | (with_reducible refine Kd.C_drew ?_) | exact HR605_0.out)) t607 p608 q608
                            (try rw [← Nbq34.out] at hx608_1)
                            cases e608
                            obtain ⟨ce608, hce608, hMe608, hcc608⟩ := Kd.V_get HL605_0.out z30 t607 p608 (by first | exact q608 | exact of_decide_eq_true (by first | (with_reducible assumption) | assumption) | (have e_ := (Kd.V_reads' HL605_0.out).1; omega))
                            obtain ⟨ua608_2, uc608_2, rfl, ul608_2, ge608_2⟩ := k30_openF hMe608
                            have hv608_2 := hcc608 2 _ rfl
                            rw [add_field _ _ 2 (by omega)] at hv608_2
                            replace hv608_2 := Option.some.inj (hv608_2.symm.trans hx608_2)
                            injection hv608_2 with hva_ hvn_ hvc_
                            rw [hva_] at ge608_2
                            rw [hvc_] at ul608_2
                            have HL608_2 := Aside0.mk (show Kd.V k38 38 _ w.heap.size _ _ ((rd_T30 (rd_L13 t557 t561) t607).f2) from Kd.V_mk ul608_2 ge608_2)
                            clear hva_ hvn_ hvc_ ge608_2 ul608_2; clear hcc608 hce608; have HR608_2 := Aside0.mk hi608_2; have HC608_2 := Aside0.mk hl608_2; clear hi608_2 hl608_2; replace p608 := eq_true p608; replace q608 := eq_true q608
                            refine start_ (n := 18) (S := fun w' => w'.cell? (ad605.add (t561).toNat) = some (.slice (some ad608) (rd_L13 t557 t561).length c605_0) ∧ w'.cell? (ad605.add (t561).toNat) = some (.slice (some ad608) (rd_L13 t557 t561).length c605_0) ∧ w'.cell? (ad608.add ((t607).toNat * 3)) = some (.string ((rd_T30 (rd_L13 t557 t561) t607).f0)) ∧ w'.cell? ⟨(ad608.add ((t607).toNat * 3)).block, (ad608.add ((t607).toNat * 3)).off + 1, none⟩ = some (.bool false) ∧ w'.cell? ⟨(ad608.add ((t607).toNat * 3)).block, (ad608.add ((t607).toNat * 3)).off + 2, none⟩ = some (.slice A608_2 ((rd_T30 (rd_L13 t557 t561) t607).f2).length c608_2)) (ds := []) #[false, false, false, false, false, false, false, false, false, false, false, false, false, false, false, false, false, false] (by kernel_rfl) rfl rfl ⟨hx605_0, hx606_0, hx608_0, hx608_1, hx608_2⟩ (fun hHeld => ?_); refine with_tabW laws_FnPickStrong.tab17 laws_FnPickStrong.bits17 (fun HT_ HW_ => ?_)
                            generalize w59.drew = w87 at HO_3 HO583 HO601 HB HL605_0 HL606_0 HR605_0 HR606_0 hx605_0 hx606_0 hHeld ⊢
                            refine pure_ (i := 0) (N := some 112) (v := ?_) (a' := ?_) #[true, false, false, false, false, false, false, false, false, false, false, false, false, false, false, false, false, false] rfl rfl (any_of HT_.out (by kernel_rfl)) (fun _ _ _ h => h) (Or.inl ⟨by rfl, ?_⟩) ?_ ?_
                            rotate_left
                            · intro w'
                              go_simp
                              with_reducible rfl
                            rotate_left
                            · simp only [Act.put, List.setIfInBounds_toArray, List.set_cons_zero, List.set_cons_succ, i64_w, i32_w]
                              rfl
                            refine pure_ (i := 1) (N := some 113) (v := ?_) (a' := ?_) #[true, true, false, false, false, false, false, false, false, false, false, false, false, false, false, false, false, false] rfl rfl (any_of HT_.out (by kernel_rfl)) (fun _ _ _ h => h) (Or.inl ⟨by rfl, ?_⟩) ?_ ?_
                            rotate_left
                            · intro w'
                              go_simp
                              with_reducible rfl
                            rotate_left
                            · simp only [Act.put, List.setIfInBounds_toArray, List.set_cons_zero, List.set_cons_succ, i64_w, i32_w]
                              rfl
                            refine pure_ (i := 2) (N := some 114) (v := ?_) (a' := ?_) #[true, true, true, false, false, false, false, false, false, false, false, false, false, false, false, false, false, false] rfl rfl (any_of HT_.out (by kernel_rfl)) (fun _ _ _ h => h) (Or.inl ⟨by rfl, ?_⟩) ?_ ?_
                            rotate_left
                            · intro w'
                              go_simp
                              with_reducible rfl
                            rotate_left
                            · simp only [Act.put, List.setIfInBounds_toArray, List.set_cons_zero, List.set_cons_succ, i64_w, i32_w]
                              rfl
                            refine pure_ (i := 3) (N := some 115) (v := ?_) (a' := ?_) #[true, true, true, true, false, false, false, false, false, false, false, false, false, false, false, false, false, false] rfl rfl (any_of HT_.out (by kernel_rfl)) (fun _ _ _ h => h) (Or.inl ⟨by rfl, ?_⟩) ?_ ?_
                            rotate_left
                            · intro w'
                              go_simp
                              with_reducible rfl
                            rotate_left
                            · simp only [Act.put, List.setIfInBounds_toArray, List.set_cons_zero, List.set_cons_succ, i64_w, i32_w]
                              rfl
                            refine pure_ (i := 4) (N := some 116) (v := ?_) (a' := ?_) #[true, true, true, true, true, false, false, false, false, false, false, false, false, false, false, false, false, false] rfl rfl (any_of HT_.out (by kernel_rfl)) (fun _ _ _ h => h) (Or.inl ⟨by rfl, ?_⟩) ?_ ?_
                            rotate_left
                            · intro w'
                              go_simp
                              with_reducible rfl
                            rotate_left
                            · simp only [Act.put, List.setIfInBounds_toArray, List.set_cons_zero, List.set_cons_succ, i64_w, i32_w]
                              rfl
                            refine pure_ (i := 6) (N := some 118) (v := ?_) (a' := ?_) #[true, true, true, true, true, false, true, false, false, false, false, false, false, false, false, false, false, false] rfl rfl (any_of HT_.out (by kernel_rfl)) (fun _ _ _ h => h) (Or.inl ⟨by rfl, ?_⟩) ?_ ?_
                            rotate_left
                            · intro w'
                              go_simp
                              with_reducible rfl
                            rotate_left
                            · simp only [Act.put, List.setIfInBounds_toArray, List.set_cons_zero, List.set_cons_succ, i64_w, i32_w]
                              rfl
                            refine pure_ (i := 7) (N := some 119) (v := ?_) (a' := ?_) #[true, true, true, true, true, false, true, true, false, false, false, false, false, false, false, false, false, false] rfl rfl (any_of HT_.out (by kernel_rfl)) (fun _ _ _ h => h) (Or.inl ⟨by rfl, ?_⟩) ?_ ?_
                            rotate_left
                            · intro w'
                              go_simp
                              with_reducible rfl
                            rotate_left
                            · simp only [Act.put, List.setIfInBounds_toArray, List.set_cons_zero, List.set_cons_succ, i64_w, i32_w]
                              rfl
                            refine pure_ (i := 8) (N := some 120) (v := ?_) (a' := ?_) #[true, true, true, true, true, false, true, true, true, false, false, false, false, false, false, false, false, false] rfl rfl (any_of HT_.out (by kernel_rfl)) (fun _ _ _ h => h) (Or.inl ⟨by rfl, ?_⟩) ?_ ?_
                            rotate_left
                            · intro w'
                              go_simp
                              with_reducible rfl
                            rotate_left
                            · simp only [Act.put, List.setIfInBounds_toArray, List.set_cons_zero, List.set_cons_succ, i64_w, i32_w]
                              rfl
                            refine pure_ (i := 10) (N := some 122) (v := ?_) (a' := ?_) #[true, true, true, true, true, false, true, true, true, false, true, false, false, false, false, false, false, false] rfl rfl (any_of HT_.out (by kernel_rfl)) (fun _ _ _ h => h) (Or.inl ⟨by rfl, ?_⟩) ?_ ?_
                            rotate_left
                            · intro w'
                              go_simp
                              with_reducible rfl
                            rotate_left
                            · simp only [Act.put, List.setIfInBounds_toArray, List.set_cons_zero, List.set_cons_succ, i64_w, i32_w]
                              rfl
                            refine take_ (i := 5) (N := some 117) (v := ?_) (a' := ?_) #[true, true, true, true, true, true, true, true, true, false, true, false, false, false, false, false, false, false] rfl rfl (take_ofW HT_.out HW_.out (by kernel_rfl)) (fun _ _ _ h => h) (Or.inl ⟨by rfl, ?_⟩) hHeld ?_ ?_
                            rotate_left
                            · rintro w' ⟨s0, s1, s2, s3, s4⟩
                              go_simp
                              with_reducible rfl
                            rotate_left
                            · simp only [Act.put, List.setIfInBounds_toArray, List.set_cons_zero, List.set_cons_succ, i64_w, i32_w]
                              rfl
                            refine take_ (i := 9) (N := some 121) (v := ?_) (a' := ?_) #[true, true, true, true, true, true, true, true, true, true, true, false, false, false, false, false, false, false] rfl rfl (take_ofW HT_.out HW_.out (by kernel_rfl)) (fun _ _ _ h => h) (Or.inl ⟨by rfl, ?_⟩) hHeld ?_ ?_
                            rotate_left
                            · rintro w' ⟨s0, s1, s2, s3, s4⟩
                              go_simp
                              with_reducible rfl
                            rotate_left
                            · simp only [Act.put, List.setIfInBounds_toArray, List.set_cons_zero, List.set_cons_succ, i64_w, i32_w]
                              rfl
                            refine one_ (i := 11) (N := some 123) #[true, true, true, true, true, true, true, true, true, true, true, true, false, false, false, false, false, false] rfl rfl (one_of HT_.out (by kernel_rfl)) (by decide) (fun K hK => ?_)
                            refine goes_ Try.func16 (by kernel_rfl) rfl #[.slice (some ad608) (rd_L13 t557 t561).length c605_0, .string t560] (by rfl) rfl rfl (by (try simp only [List.map_toArray, List.map_cons, List.map_nil]); first | done | rfl | (simp only [List.length_drop, List.length_take]; rfl)) ?_
                            with_reducible refine (impl_UnitFind.calls k4 _ _ (rd_L13 t557 t561) t560 t607 _ ?side1 ?side2 A28.out).mono ?_
                            (case side1 => repeat (first | exact (by repeat (first | (with_reducible exact HR606_0.out) | (with_reducible refine Kd.C_alloc ?_ _) | (with_reducible refine Kd.C_drewN ?_ _) | (with_reducible refine Kd.C_drew ?_) | exact HR606_0.out)) | (with_reducible refine Kd.C_alloc ?_ _) | (with_reducible refine Kd.C_drewN ?_ _) | (with_reducible refine Kd.C_drew ?_)))
                            (case side2 => exact HC606_0.out)
                            rintro e w88 ⟨rfl, hb⟩
                            have HS0_ := (hb.cell (World.block_lt_of_cell? _ _ (hHeld.1))).trans (hHeld.1)
                            have HS1_ := (hb.cell (World.block_lt_of_cell? _ _ (hHeld.2.1))).trans (hHeld.2.1)
                            have HS2_ := (hb.cell (World.block_lt_of_cell? _ _ (hHeld.2.2.1))).trans (hHeld.2.2.1)
                            have HS3_ := (hb.cell (World.block_lt_of_cell? _ _ (hHeld.2.2.2.1))).trans (hHeld.2.2.2.1)
                            have HS4_ := (hb.cell (World.block_lt_of_cell? _ _ (hHeld.2.2.2.2))).trans (hHeld.2.2.2.2)
                            refine ⟨_, rfl, ?_⟩
                            have n0_ := Aside0.mk (Kd.N_below (by (with_reducible repeat (first | apply Kd.N_alloc | apply Kd.N_drewN | apply Kd.N_drew)); exact HO_3.out) hb)
                            have n1_ := Aside0.mk (Kd.N_below (by (with_reducible repeat (first | apply Kd.N_alloc | apply Kd.N_drewN | apply Kd.N_drew)); exact HO583.out) hb)
                            have n2_ := Aside0.mk (Kd.N_below (by (with_reducible repeat (first | apply Kd.N_alloc | apply Kd.N_drewN | apply Kd.N_drew)); exact HO601.out) hb)
                            have n3_ := Aside0.mk (Kd.V_below (by (with_reducible repeat (first | apply Kd.V_alloc | apply Kd.V_drewN | apply Kd.V_drew)); exact HL605_0.out) hb)
                            have n4_ := Aside0.mk (Kd.V_below (by (with_reducible repeat (first | apply Kd.V_alloc | apply Kd.V_drewN | apply Kd.V_drew)); exact HL606_0.out) hb)
                            have n5_ := Aside0.mk (Kd.C_below (by repeat (first | (with_reducible exact HR605_0.out) | (with_reducible refine Kd.C_alloc ?_ _) | (with_reducible refine Kd.C_drewN ?_ _) | (with_reducible refine Kd.C_drew ?_) | exact HR605_0.out)) hb)
                            have n6_ := Aside0.mk (Kd.C_below (by repeat (first | (with_reducible exact HR606_0.out) | (with_reducible refine Kd.C_alloc ?_ _) | (with_reducible refine Kd.C_drewN ?_ _) | (with_reducible refine Kd.C_drew ?_) | exact HR606_0.out)) hb)
                            have n7_ := Aside0.mk (below_step (by repeat (first | (with_reducible first | exact HB.out | apply below_alloc | apply pw_below_drewN | apply below_drew1) | exact HB.out)) hb)
                            clear HO_3 HO583 HO601 HL605_0 HL606_0 HR605_0 HR606_0; clear HB
                            have HO_3 := n0_
                            have HO583 := n1_
                            have HO601 := n2_
                            have HL605_0 := n3_
                            have HL606_0 := n4_
                            have HR605_0 := n5_
                            have HR606_0 := n6_
                            have HB := n7_
                            clear n0_ n1_ n2_ n3_ n4_ n5_ n6_ n7_
                            (try clear hb)
                            (try clear hb2)
                            (try clear hk)
                            (try clear hi)
                            refine hK.out _ _ ⟨HS0_, HS1_, HS2_, HS3_, HS4_⟩ (fun hHeld => ?_)
                            clear hK K
                            refine norm_ (a' := ?_) ?_ ?_
                            rotate_left
                            · show Act.put _ (some 123) _ = _
                              simp only [Act.put, List.setIfInBounds_toArray, List.set_cons_zero, List.set_cons_succ, i64_w, i32_w]
                              rfl
                            refine pure_ (i := 12) (N := some 124) (v := ?_) (a' := ?_) #[true, true, true, true, true, true, true, true, true, true, true, true, true, false, false, false, false, false] rfl rfl (any_of HT_.out (by kernel_rfl)) (fun _ _ _ h => h) (Or.inl ⟨by rfl, ?_⟩) ?_ ?_
                            rotate_left
                            · intro w'
                              go_simp
                              with_reducible rfl
                            rotate_left
                            · simp only [Act.put, List.setIfInBounds_toArray, List.set_cons_zero, List.set_cons_succ, i64_w, i32_w]
                              rfl
                            refine pure_ (i := 13) (N := some 125) (v := ?_) (a' := ?_) #[true, true, true, true, true, true, true, true, true, true, true, true, true, true, false, false, false, false] rfl rfl (any_of HT_.out (by kernel_rfl)) (fun _ _ _ h => h) (Or.inl ⟨by rfl, ?_⟩) ?_ ?_
                            rotate_left
                            · intro w'
                              go_simp
                              with_reducible rfl
                            rotate_left
                            · simp only [Act.put, List.setIfInBounds_toArray, List.set_cons_zero, List.set_cons_succ, i64_w, i32_w]
                              rfl
                            refine take_ (i := 14) (N := some 126) (v := ?_) (a' := ?_) #[true, true, true, true, true, true, true, true, true, true, true, true, true, true, true, false, false, false] rfl rfl (take_ofW HT_.out HW_.out (by kernel_rfl)) (fun _ _ _ h => h) (Or.inl ⟨by rfl, ?_⟩) hHeld ?_ ?_
                            rotate_left
                            · rintro w' ⟨s0, s1, s2, s3, s4⟩
                              go_simp
                              with_reducible rfl
                            rotate_left
                            · simp only [Act.put, List.setIfInBounds_toArray, List.set_cons_zero, List.set_cons_succ, i64_w, i32_w]
                              rfl
                            refine pure_ (i := 15) (N := some 127) (v := ?_) (a' := ?_) #[true, true, true, true, true, true, true, true, true, true, true, true, true, true, true, true, false, false] rfl rfl (any_of HT_.out (by kernel_rfl)) (fun _ _ _ h => h) (Or.inl ⟨by rfl, ?_⟩) ?_ ?_
                            rotate_left
                            · intro w'
                              go_simp
                              with_reducible rfl
                            rotate_left
                            · simp only [Act.put, List.setIfInBounds_toArray, List.set_cons_zero, List.set_cons_succ, i64_w, i32_w]
                              rfl
                            refine pure_ (i := 16) (N := some 128) (v := ?_) (a' := ?_) #[true, true, true, true, true, true, true, true, true, true, true, true, true, true, true, true, true, false] rfl rfl (any_of HT_.out (by kernel_rfl)) (fun _ _ _ h => h) (Or.inl ⟨by rfl, ?_⟩) ?_ ?_
                            rotate_left
                            · intro w'
                              go_simp
                              with_reducible rfl
                            rotate_left
                            · simp only [Act.put, List.setIfInBounds_toArray, List.set_cons_zero, List.set_cons_succ, i64_w, i32_w]
                              rfl
                            refine pure_ (i := 17) (N := some 20) (v := ?_) (a' := ?_) #[true, true, true, true, true, true, true, true, true, true, true, true, true, true, true, true, true, true] rfl rfl (any_of HT_.out (by kernel_rfl)) (fun _ _ _ h => h) (Or.inl ⟨by rfl, ?_⟩) ?_ ?_
                            rotate_left
                            · intro w'
                              go_simp
                              with_reducible rfl
                            rotate_left
                            · simp only [Act.put, List.setIfInBounds_toArray, List.set_cons_zero, List.set_cons_succ, i64_w, i32_w]
                              rfl
                            refine done_ (done_of HT_.out (by kernel_rfl)) ?_
                            try go_wp2
                            go_ret
                            exact ⟨by first | rfl | (simp [errW_none, errW_some] <;> rfl) | (simp [*, errW_none, errW_some] <;> rfl), by repeat (first | (with_reducible first | exact HB.out | apply below_alloc | apply pw_below_drewN | apply below_drew1) | exact HB.out)⟩
                          rw [if_neg c62] at H
                          have c62b0 : (t602 == t561) = false := beq_eq_false_iff_ne.mpr c62
                          have c62b1 : (t602 != t561) = true := bne_iff_ne.mpr c62
                          have H1 : (some false) = some r := by rw [if_pos (by decide)] at H; exact H
                          clear H
                          have H := H1
                          clear H1
                          obtain rfl := Option.some.inj H
                          have n0_ := Aside0.mk (Kd.N_drew HO_3.out)
                          have n1_ := Aside0.mk (Kd.N_drew HO583.out)
                          have n2_ := Aside0.mk (Kd.N_drew HO601.out)
                          have n3_ := Aside0.mk (below_drew1 HB.out)
                          clear HO_3 HO583 HO601; clear HB
                          have HO_3 := n0_
                          have HO583 := n1_
                          have HO601 := n2_
                          have HB := n3_
                          clear n0_ n1_ n2_ n3_
                          have p605 : 0 ≤ (t561 : Int) := of_decide_eq_true (by first | (with_reducible assumption) | assumption)
                          have q605 : t561 < (t557.length : Int) := of_decide_eq_true (by first | (with_reducible assumption) | assumption)
                          obtain ⟨ad605, A605_0, c605_0, e605, hx605_0, hl605_0, hi605_0⟩ := at_L13 (Kd.N_reads' HO_3.out).2.2 t561 p605 q605
                          cases e605
                          obtain ⟨ce605, hce605, hMe605, hcc605⟩ := Kd.N_get HO_3.out [] t561 p605 (by first | exact q605 | exact of_decide_eq_true (by first | (with_reducible assumption) | assumption) | (have e_ := (Kd.N_reads' HO_3.out).1; omega))
                          obtain ⟨ua605_0, uc605_0, rfl, ul605_0, ge605_0⟩ := Kd.FK_slice_open hMe605
                          have hv605_0 := hcc605 0 _ rfl
                          rw [Nat.add_zero, show ((Kd.slice 30 k30)).sz = 1 from rfl, Nat.mul_one] at hv605_0
                          replace hv605_0 := Option.some.inj (hv605_0.symm.trans hx605_0)
                          injection hv605_0 with hva_ hvn_ hvc_
                          rw [hva_] at ge605_0
                          rw [hvc_] at ul605_0
                          have HL605_0 := Aside0.mk (show Kd.V k30 30 _ w.heap.size _ _ (rd_L13 t557 t561) from Kd.V_mk ul605_0 ge605_0)
                          clear hva_ hvn_ hvc_ ge605_0 ul605_0; clear hcc605 hce605; have HR605_0 := Aside0.mk hi605_0; have HC605_0 := Aside0.mk hl605_0; clear hi605_0 hl605_0; replace p605 := eq_true p605; replace q605 := eq_true q605
                          have p606 : 0 ≤ (t561 : Int) := of_decide_eq_true (by first | (with_reducible assumption) | assumption)
                          have q606 : t561 < (t557.length : Int) := of_decide_eq_true (by first | (with_reducible assumption) | assumption)
                          obtain ⟨ad606, A606_0, c606_0, e606, hx606_0, hl606_0, hi606_0⟩ := at_L13 (Kd.N_reads' HO_3.out).2.2 t561 p606 q606
                          obtain rfl : ad605 = ad606 := (by injection e606)
                          obtain ⟨ce606, hce606, hMe606, hcc606⟩ := Kd.N_get HO_3.out [] t561 p606 (by first | exact q606 | exact of_decide_eq_true (by first | (with_reducible assumption) | assumption) | (have e_ := (Kd.N_reads' HO_3.out).1; omega))
                          obtain ⟨ua606_0, uc606_0, rfl, ul606_0, ge606_0⟩ := Kd.FK_slice_open hMe606
                          have hv606_0 := hcc606 0 _ rfl
                          rw [Nat.add_zero, show ((Kd.slice 30 k30)).sz = 1 from rfl, Nat.mul_one] at hv606_0
                          replace hv606_0 := Option.some.inj (hv606_0.symm.trans hx606_0)
                          injection hv606_0 with hva_ hvn_ hvc_
                          rw [hva_] at ge606_0
                          rw [hvc_] at ul606_0
                          have HL606_0 := Aside0.mk (show Kd.V k30 30 _ w.heap.size _ _ (rd_L13 t557 t561) from Kd.V_mk ul606_0 ge606_0)
                          clear hva_ hvn_ hvc_ ge606_0 ul606_0; clear hcc606 hce606; have HR606_0 := Aside0.mk hi606_0; have HC606_0 := Aside0.mk hl606_0; clear hi606_0 hl606_0; replace p606 := eq_true p606; replace q606 := eq_true q606
                          have ea_ := Option.some.inj (hx605_0.symm.trans hx606_0)
                          injection ea_ with ea_ en_ ec_
                          subst ea_; subst ec_; clear en_
                          have p608 : 0 ≤ (t607 : Int) := of_decide_eq_true (by first | (with_reducible assumption) | assumption)
                          have q608 : t607 < ((rd_L13 t557 t561).length : Int) := of_decide_eq_true (by first | (with_reducible assumption) | assumption)
                          obtain ⟨ad608, A608_2, c608_2, e608, hx608_0, hx608_1, hx608_2, hl608_2, hi608_2⟩ := at_T30 (by repeat (first | (with_reducible exact HR605_0.out) | (with_reducible refine Kd.C_alloc ?_ _) | (with_reducible refine Kd.C_drewN ?_ _) | (with_reducible refine Kd.C_drew ?_) | exact HR605_0.out)) t607 p608 q608
                          (try rw [← Nbq34.out] at hx608_1)
                          cases e608
                          obtain ⟨ce608, hce608, hMe608, hcc608⟩ := Kd.V_get HL605_0.out z30 t607 p608 (by first | exact q608 | exact of_decide_eq_true (by first | (with_reducible assumption) | assumption) | (have e_ := (Kd.V_reads' HL605_0.out).1; omega))
                          obtain ⟨ua608_2, uc608_2, rfl, ul608_2, ge608_2⟩ := k30_openF hMe608
                          have hv608_2 := hcc608 2 _ rfl
                          rw [add_field _ _ 2 (by omega)] at hv608_2
                          replace hv608_2 := Option.some.inj (hv608_2.symm.trans hx608_2)
                          injection hv608_2 with hva_ hvn_ hvc_
                          rw [hva_] at ge608_2
                          rw [hvc_] at ul608_2
                          have HL608_2 := Aside0.mk (show Kd.V k38 38 _ w.heap.size _ _ ((rd_T30 (rd_L13 t557 t561) t607).f2) from Kd.V_mk ul608_2 ge608_2)
                          clear hva_ hvn_ hvc_ ge608_2 ul608_2; clear hcc608 hce608; have HR608_2 := Aside0.mk hi608_2; have HC608_2 := Aside0.mk hl608_2; clear hi608_2 hl608_2; replace p608 := eq_true p608; replace q608 := eq_true q608
                          refine start_ (n := 18) (S := fun w' => w'.cell? (ad605.add (t561).toNat) = some (.slice (some ad608) (rd_L13 t557 t561).length c605_0) ∧ w'.cell? (ad605.add (t561).toNat) = some (.slice (some ad608) (rd_L13 t557 t561).length c605_0) ∧ w'.cell? (ad608.add ((t607).toNat * 3)) = some (.string ((rd_T30 (rd_L13 t557 t561) t607).f0)) ∧ w'.cell? ⟨(ad608.add ((t607).toNat * 3)).block, (ad608.add ((t607).toNat * 3)).off + 1, none⟩ = some (.bool false) ∧ w'.cell? ⟨(ad608.add ((t607).toNat * 3)).block, (ad608.add ((t607).toNat * 3)).off + 2, none⟩ = some (.slice A608_2 ((rd_T30 (rd_L13 t557 t561) t607).f2).length c608_2)) (ds := []) #[false, false, false, false, false, false, false, false, false, false, false, false, false, false, false, false, false, false] (by kernel_rfl) rfl rfl ⟨hx605_0, hx606_0, hx608_0, hx608_1, hx608_2⟩ (fun hHeld => ?_); refine with_tabW laws_FnPickStrong.tab17 laws_FnPickStrong.bits17 (fun HT_ HW_ => ?_)
                          generalize w59.drew = w113 at HO_3 HO583 HO601 HB HL605_0 HL606_0 HR605_0 HR606_0 hx605_0 hx606_0 hHeld ⊢
                          refine pure_ (i := 0) (N := some 112) (v := ?_) (a' := ?_) #[true, false, false, false, false, false, false, false, false, false, false, false, false, false, false, false, false, false] rfl rfl (any_of HT_.out (by kernel_rfl)) (fun _ _ _ h => h) (Or.inl ⟨by rfl, ?_⟩) ?_ ?_
                          rotate_left
                          · intro w'
                            go_simp
                            with_reducible rfl
                          rotate_left
                          · simp only [Act.put, List.setIfInBounds_toArray, List.set_cons_zero, List.set_cons_succ, i64_w, i32_w]
                            rfl
                          refine pure_ (i := 1) (N := some 113) (v := ?_) (a' := ?_) #[true, true, false, false, false, false, false, false, false, false, false, false, false, false, false, false, false, false] rfl rfl (any_of HT_.out (by kernel_rfl)) (fun _ _ _ h => h) (Or.inl ⟨by rfl, ?_⟩) ?_ ?_
                          rotate_left
                          · intro w'
                            go_simp
                            with_reducible rfl
                          rotate_left
                          · simp only [Act.put, List.setIfInBounds_toArray, List.set_cons_zero, List.set_cons_succ, i64_w, i32_w]
                            rfl
                          refine pure_ (i := 2) (N := some 114) (v := ?_) (a' := ?_) #[true, true, true, false, false, false, false, false, false, false, false, false, false, false, false, false, false, false] rfl rfl (any_of HT_.out (by kernel_rfl)) (fun _ _ _ h => h) (Or.inl ⟨by rfl, ?_⟩) ?_ ?_
                          rotate_left
                          · intro w'
                            go_simp
                            with_reducible rfl
                          rotate_left
                          · simp only [Act.put, List.setIfInBounds_toArray, List.set_cons_zero, List.set_cons_succ, i64_w, i32_w]
                            rfl
                          refine pure_ (i := 3) (N := some 115) (v := ?_) (a' := ?_) #[true, true, true, true, false, false, false, false, false, false, false, false, false, false, false, false, false, false] rfl rfl (any_of HT_.out (by kernel_rfl)) (fun _ _ _ h => h) (Or.inl ⟨by rfl, ?_⟩) ?_ ?_
                          rotate_left
                          · intro w'
                            go_simp
                            with_reducible rfl
                          rotate_left
                          · simp only [Act.put, List.setIfInBounds_toArray, List.set_cons_zero, List.set_cons_succ, i64_w, i32_w]
                            rfl
                          refine pure_ (i := 4) (N := some 116) (v := ?_) (a' := ?_) #[true, true, true, true, true, false, false, false, false, false, false, false, false, false, false, false, false, false] rfl rfl (any_of HT_.out (by kernel_rfl)) (fun _ _ _ h => h) (Or.inl ⟨by rfl, ?_⟩) ?_ ?_
                          rotate_left
                          · intro w'
                            go_simp
                            with_reducible rfl
                          rotate_left
                          · simp only [Act.put, List.setIfInBounds_toArray, List.set_cons_zero, List.set_cons_succ, i64_w, i32_w]
                            rfl
                          refine pure_ (i := 6) (N := some 118) (v := ?_) (a' := ?_) #[true, true, true, true, true, false, true, false, false, false, false, false, false, false, false, false, false, false] rfl rfl (any_of HT_.out (by kernel_rfl)) (fun _ _ _ h => h) (Or.inl ⟨by rfl, ?_⟩) ?_ ?_
                          rotate_left
                          · intro w'
                            go_simp
                            with_reducible rfl
                          rotate_left
                          · simp only [Act.put, List.setIfInBounds_toArray, List.set_cons_zero, List.set_cons_succ, i64_w, i32_w]
                            rfl
                          refine pure_ (i := 7) (N := some 119) (v := ?_) (a' := ?_) #[true, true, true, true, true, false, true, true, false, false, false, false, false, false, false, false, false, false] rfl rfl (any_of HT_.out (by kernel_rfl)) (fun _ _ _ h => h) (Or.inl ⟨by rfl, ?_⟩) ?_ ?_
                          rotate_left
                          · intro w'
                            go_simp
                            with_reducible rfl
                          rotate_left
                          · simp only [Act.put, List.setIfInBounds_toArray, List.set_cons_zero, List.set_cons_succ, i64_w, i32_w]
                            rfl
                          refine pure_ (i := 8) (N := some 120) (v := ?_) (a' := ?_) #[true, true, true, true, true, false, true, true, true, false, false, false, false, false, false, false, false, false] rfl rfl (any_of HT_.out (by kernel_rfl)) (fun _ _ _ h => h) (Or.inl ⟨by rfl, ?_⟩) ?_ ?_
                          rotate_left
                          · intro w'
                            go_simp
                            with_reducible rfl
                          rotate_left
                          · simp only [Act.put, List.setIfInBounds_toArray, List.set_cons_zero, List.set_cons_succ, i64_w, i32_w]
                            rfl
                          refine pure_ (i := 10) (N := some 122) (v := ?_) (a' := ?_) #[true, true, true, true, true, false, true, true, true, false, true, false, false, false, false, false, false, false] rfl rfl (any_of HT_.out (by kernel_rfl)) (fun _ _ _ h => h) (Or.inl ⟨by rfl, ?_⟩) ?_ ?_
                          rotate_left
                          · intro w'
                            go_simp
                            with_reducible rfl
                          rotate_left
                          · simp only [Act.put, List.setIfInBounds_toArray, List.set_cons_zero, List.set_cons_succ, i64_w, i32_w]
                            rfl
                          refine take_ (i := 5) (N := some 117) (v := ?_) (a' := ?_) #[true, true, true, true, true, true, true, true, true, false, true, false, false, false, false, false, false, false] rfl rfl (take_ofW HT_.out HW_.out (by kernel_rfl)) (fun _ _ _ h => h) (Or.inl ⟨by rfl, ?_⟩) hHeld ?_ ?_
                          rotate_left
                          · rintro w' ⟨s0, s1, s2, s3, s4⟩
                            go_simp
                            with_reducible rfl
                          rotate_left
                          · simp only [Act.put, List.setIfInBounds_toArray, List.set_cons_zero, List.set_cons_succ, i64_w, i32_w]
                            rfl
                          refine take_ (i := 9) (N := some 121) (v := ?_) (a' := ?_) #[true, true, true, true, true, true, true, true, true, true, true, false, false, false, false, false, false, false] rfl rfl (take_ofW HT_.out HW_.out (by kernel_rfl)) (fun _ _ _ h => h) (Or.inl ⟨by rfl, ?_⟩) hHeld ?_ ?_
                          rotate_left
                          · rintro w' ⟨s0, s1, s2, s3, s4⟩
                            go_simp
                            with_reducible rfl
                          rotate_left
                          · simp only [Act.put, List.setIfInBounds_toArray, List.set_cons_zero, List.set_cons_succ, i64_w, i32_w]
                            rfl
                          refine one_ (i := 11) (N := some 123) #[true, true, true, true, true, true, true, true, true, true, true, true, false, false, false, false, false, false] rfl rfl (one_of HT_.out (by kernel_rfl)) (by decide) (fun K hK => ?_)
                          refine goes_ Try.func16 (by kernel_rfl) rfl #[.slice (some ad608) (rd_L13 t557 t561).length c605_0, .string t560] (by rfl) rfl rfl (by (try simp only [List.map_toArray, List.map_cons, List.map_nil]); first | done | rfl | (simp only [List.length_drop, List.length_take]; rfl)) ?_
                          with_reducible refine (impl_UnitFind.calls k4 _ _ (rd_L13 t557 t561) t560 t607 _ ?side1 ?side2 A28.out).mono ?_
                          (case side1 => repeat (first | exact (by repeat (first | (with_reducible exact HR606_0.out) | (with_reducible refine Kd.C_alloc ?_ _) | (with_reducible refine Kd.C_drewN ?_ _) | (with_reducible refine Kd.C_drew ?_) | exact HR606_0.out)) | (with_reducible refine Kd.C_alloc ?_ _) | (with_reducible refine Kd.C_drewN ?_ _) | (with_reducible refine Kd.C_drew ?_)))
                          (case side2 => exact HC606_0.out)
                          rintro e w114 ⟨rfl, hb⟩
                          have HS0_ := (hb.cell (World.block_lt_of_cell? _ _ (hHeld.1))).trans (hHeld.1)
                          have HS1_ := (hb.cell (World.block_lt_of_cell? _ _ (hHeld.2.1))).trans (hHeld.2.1)
                          have HS2_ := (hb.cell (World.block_lt_of_cell? _ _ (hHeld.2.2.1))).trans (hHeld.2.2.1)
                          have HS3_ := (hb.cell (World.block_lt_of_cell? _ _ (hHeld.2.2.2.1))).trans (hHeld.2.2.2.1)
                          have HS4_ := (hb.cell (World.block_lt_of_cell? _ _ (hHeld.2.2.2.2))).trans (hHeld.2.2.2.2)
                          refine ⟨_, rfl, ?_⟩
                          have n0_ := Aside0.mk (Kd.N_below (by (with_reducible repeat (first | apply Kd.N_alloc | apply Kd.N_drewN | apply Kd.N_drew)); exact HO_3.out) hb)
                          have n1_ := Aside0.mk (Kd.N_below (by (with_reducible repeat (first | apply Kd.N_alloc | apply Kd.N_drewN | apply Kd.N_drew)); exact HO583.out) hb)
                          have n2_ := Aside0.mk (Kd.N_below (by (with_reducible repeat (first | apply Kd.N_alloc | apply Kd.N_drewN | apply Kd.N_drew)); exact HO601.out) hb)
                          have n3_ := Aside0.mk (Kd.V_below (by (with_reducible repeat (first | apply Kd.V_alloc | apply Kd.V_drewN | apply Kd.V_drew)); exact HL605_0.out) hb)
                          have n4_ := Aside0.mk (Kd.V_below (by (with_reducible repeat (first | apply Kd.V_alloc | apply Kd.V_drewN | apply Kd.V_drew)); exact HL606_0.out) hb)
                          have n5_ := Aside0.mk (Kd.C_below (by repeat (first | (with_reducible exact HR605_0.out) | (with_reducible refine Kd.C_alloc ?_ _) | (with_reducible refine Kd.C_drewN ?_ _) | (with_reducible refine Kd.C_drew ?_) | exact HR605_0.out)) hb)
                          have n6_ := Aside0.mk (Kd.C_below (by repeat (first | (with_reducible exact HR606_0.out) | (with_reducible refine Kd.C_alloc ?_ _) | (with_reducible refine Kd.C_drewN ?_ _) | (with_reducible refine Kd.C_drew ?_) | exact HR606_0.out)) hb)
                          have n7_ := Aside0.mk (below_step (by repeat (first | (with_reducible first | exact HB.out | apply below_alloc | apply pw_below_drewN | apply below_drew1) | exact HB.out)) hb)
                          clear HO_3 HO583 HO601 HL605_0 HL606_0 HR605_0 HR606_0; clear HB
                          have HO_3 := n0_
                          have HO583 := n1_
                          have HO601 := n2_
                          have HL605_0 := n3_
                          have HL606_0 := n4_
                          have HR605_0 := n5_
                          have HR606_0 := n6_
                          have HB := n7_
                          clear n0_ n1_ n2_ n3_ n4_ n5_ n6_ n7_
                          (try clear hb)
                          (try clear hb2)
                          (try clear hk)
                          (try clear hi)
                          refine hK.out _ _ ⟨HS0_, HS1_, HS2_, HS3_, HS4_⟩ (fun hHeld => ?_)
                          clear hK K
                          refine norm_ (a' := ?_) ?_ ?_
                          rotate_left
                          · show Act.put _ (some 123) _ = _
                            simp only [Act.put, List.setIfInBounds_toArray, List.set_cons_zero, List.set_cons_succ, i64_w, i32_w]
                            rfl
                          refine pure_ (i := 12) (N := some 124) (v := ?_) (a' := ?_) #[true, true, true, true, true, true, true, true, true, true, true, true, true, false, false, false, false, false] rfl rfl (any_of HT_.out (by kernel_rfl)) (fun _ _ _ h => h) (Or.inl ⟨by rfl, ?_⟩) ?_ ?_
                          rotate_left
                          · intro w'
                            go_simp
                            with_reducible rfl
                          rotate_left
                          · simp only [Act.put, List.setIfInBounds_toArray, List.set_cons_zero, List.set_cons_succ, i64_w, i32_w]
                            rfl
                          refine pure_ (i := 13) (N := some 125) (v := ?_) (a' := ?_) #[true, true, true, true, true, true, true, true, true, true, true, true, true, true, false, false, false, false] rfl rfl (any_of HT_.out (by kernel_rfl)) (fun _ _ _ h => h) (Or.inl ⟨by rfl, ?_⟩) ?_ ?_
                          rotate_left
                          · intro w'
                            go_simp
                            with_reducible rfl
                          rotate_left
                          · simp only [Act.put, List.setIfInBounds_toArray, List.set_cons_zero, List.set_cons_succ, i64_w, i32_w]
                            rfl
                          refine take_ (i := 14) (N := some 126) (v := ?_) (a' := ?_) #[true, true, true, true, true, true, true, true, true, true, true, true, true, true, true, false, false, false] rfl rfl (take_ofW HT_.out HW_.out (by kernel_rfl)) (fun _ _ _ h => h) (Or.inl ⟨by rfl, ?_⟩) hHeld ?_ ?_
                          rotate_left
                          · rintro w' ⟨s0, s1, s2, s3, s4⟩
                            go_simp
                            with_reducible rfl
                          rotate_left
                          · simp only [Act.put, List.setIfInBounds_toArray, List.set_cons_zero, List.set_cons_succ, i64_w, i32_w]
                            rfl
                          refine pure_ (i := 15) (N := some 127) (v := ?_) (a' := ?_) #[true, true, true, true, true, true, true, true, true, true, true, true, true, true, true, true, false, false] rfl rfl (any_of HT_.out (by kernel_rfl)) (fun _ _ _ h => h) (Or.inl ⟨by rfl, ?_⟩) ?_ ?_
                          rotate_left
                          · intro w'
                            go_simp
                            with_reducible rfl
                          rotate_left
                          · simp only [Act.put, List.setIfInBounds_toArray, List.set_cons_zero, List.set_cons_succ, i64_w, i32_w]
                            rfl
                          refine pure_ (i := 16) (N := some 128) (v := ?_) (a' := ?_) #[true, true, true, true, true, true, true, true, true, true, true, true, true, true, true, true, true, false] rfl rfl (any_of HT_.out (by kernel_rfl)) (fun _ _ _ h => h) (Or.inl ⟨by rfl, ?_⟩) ?_ ?_
                          rotate_left
                          · intro w'
                            go_simp
                            with_reducible rfl
                          rotate_left
                          · simp only [Act.put, List.setIfInBounds_toArray, List.set_cons_zero, List.set_cons_succ, i64_w, i32_w]
                            rfl
                          refine pure_ (i := 17) (N := some 20) (v := ?_) (a' := ?_) #[true, true, true, true, true, true, true, true, true, true, true, true, true, true, true, true, true, true] rfl rfl (any_of HT_.out (by kernel_rfl)) (fun _ _ _ h => h) (Or.inl ⟨by rfl, ?_⟩) ?_ ?_
                          rotate_left
                          · intro w'
                            go_simp
                            with_reducible rfl
                          rotate_left
                          · simp only [Act.put, List.setIfInBounds_toArray, List.set_cons_zero, List.set_cons_succ, i64_w, i32_w]
                            rfl
                          refine done_ (done_of HT_.out (by kernel_rfl)) ?_
                          try go_wp2
                          go_ret
                          exact ⟨by first | rfl | (simp [errW_none, errW_some] <;> rfl) | (simp [*, errW_none, errW_some] <;> rfl), by repeat (first | (with_reducible first | exact HB.out | apply below_alloc | apply pw_below_drewN | apply below_drew1) | exact HB.out)⟩
                        rw [if_neg c33] at H
                        have c33b0 : (t584 == t561) = false := beq_eq_false_iff_ne.mpr c33
                        have c33b1 : (t584 != t561) = true := bne_iff_ne.mpr c33
                        obtain rfl := Option.some.inj H
                        have n0_ := Aside0.mk (Kd.N_drew HO_3.out)
                        have n1_ := Aside0.mk (Kd.N_drew HO583.out)
                        have n2_ := Aside0.mk (Kd.N_drew HO601.out)
                        have n3_ := Aside0.mk (below_drew1 HB.out)
                        clear HO_3 HO583 HO601; clear HB
                        have HO_3 := n0_
                        have HO583 := n1_
                        have HO601 := n2_
                        have HB := n3_
                        clear n0_ n1_ n2_ n3_
                        have p605 : 0 ≤ (t561 : Int) := of_decide_eq_true (by first | (with_reducible assumption) | assumption)
                        have q605 : t561 < (t557.length : Int) := of_decide_eq_true (by first | (with_reducible assumption) | assumption)
                        obtain ⟨ad605, A605_0, c605_0, e605, hx605_0, hl605_0, hi605_0⟩ := at_L13 (Kd.N_reads' HO_3.out).2.2 t561 p605 q605
                        cases e605
                        obtain ⟨ce605, hce605, hMe605, hcc605⟩ := Kd.N_get HO_3.out [] t561 p605 (by first | exact q605 | exact of_decide_eq_true (by first | (with_reducible assumption) | assumption) | (have e_ := (Kd.N_reads' HO_3.out).1; omega))
                        obtain ⟨ua605_0, uc605_0, rfl, ul605_0, ge605_0⟩ := Kd.FK_slice_open hMe605
                        have hv605_0 := hcc605 0 _ rfl
                        rw [Nat.add_zero, show ((Kd.slice 30 k30)).sz = 1 from rfl, Nat.mul_one] at hv605_0
                        replace hv605_0 := Option.some.inj (hv605_0.symm.trans hx605_0)
                        injection hv605_0 with hva_ hvn_ hvc_
                        rw [hva_] at ge605_0
                        rw [hvc_] at ul605_0
                        have HL605_0 := Aside0.mk (show Kd.V k30 30 _ w.heap.size _ _ (rd_L13 t557 t561) from Kd.V_mk ul605_0 ge605_0)
                        clear hva_ hvn_ hvc_ ge605_0 ul605_0; clear hcc605 hce605; have HR605_0 := Aside0.mk hi605_0; have HC605_0 := Aside0.mk hl605_0; clear hi605_0 hl605_0; replace p605 := eq_true p605; replace q605 := eq_true q605
                        have p606 : 0 ≤ (t561 : Int) := of_decide_eq_true (by first | (with_reducible assumption) | assumption)
                        have q606 : t561 < (t557.length : Int) := of_decide_eq_true (by first | (with_reducible assumption) | assumption)
                        obtain ⟨ad606, A606_0, c606_0, e606, hx606_0, hl606_0, hi606_0⟩ := at_L13 (Kd.N_reads' HO_3.out).2.2 t561 p606 q606
                        obtain rfl : ad605 = ad606 := (by injection e606)
                        obtain ⟨ce606, hce606, hMe606, hcc606⟩ := Kd.N_get HO_3.out [] t561 p606 (by first | exact q606 | exact of_decide_eq_true (by first | (with_reducible assumption) | assumption) | (have e_ := (Kd.N_reads' HO_3.out).1; omega))
                        obtain ⟨ua606_0, uc606_0, rfl, ul606_0, ge606_0⟩ := Kd.FK_slice_open hMe606
                        have hv606_0 := hcc606 0 _ rfl
                        rw [Nat.add_zero, show ((Kd.slice 30 k30)).sz = 1 from rfl, Nat.mul_one] at hv606_0
                        replace hv606_0 := Option.some.inj (hv606_0.symm.trans hx606_0)
                        injection hv606_0 with hva_ hvn_ hvc_
                        rw [hva_] at ge606_0
                        rw [hvc_] at ul606_0
                        have HL606_0 := Aside0.mk (show Kd.V k30 30 _ w.heap.size _ _ (rd_L13 t557 t561) from Kd.V_mk ul606_0 ge606_0)
                        clear hva_ hvn_ hvc_ ge606_0 ul606_0; clear hcc606 hce606; have HR606_0 := Aside0.mk hi606_0; have HC606_0 := Aside0.mk hl606_0; clear hi606_0 hl606_0; replace p606 := eq_true p606; replace q606 := eq_true q606
                        have ea_ := Option.some.inj (hx605_0.symm.trans hx606_0)
                        injection ea_ with ea_ en_ ec_
                        subst ea_; subst ec_; clear en_
                        have p608 : 0 ≤ (t607 : Int) := of_decide_eq_true (by first | (with_reducible assumption) | assumption)
                        have q608 : t607 < ((rd_L13 t557 t561).length : Int) := of_decide_eq_true (by first | (with_reducible assumption) | assumption)
                        obtain ⟨ad608, A608_2, c608_2, e608, hx608_0, hx608_1, hx608_2, hl608_2, hi608_2⟩ := at_T30 (by repeat (first | (with_reducible exact HR605_0.out) | (with_reducible refine Kd.C_alloc ?_ _) | (with_reducible refine Kd.C_drewN ?_ _) | (with_reducible refine Kd.C_drew ?_) | exact HR605_0.out)) t607 p608 q608
                        cases e608
                        obtain ⟨ce608, hce608, hMe608, hcc608⟩ := Kd.V_get HL605_0.out z30 t607 p608 (by first | exact q608 | exact of_decide_eq_true (by first | (with_reducible assumption) | assumption) | (have e_ := (Kd.V_reads' HL605_0.out).1; omega))
                        obtain ⟨ua608_2, uc608_2, rfl, ul608_2, ge608_2⟩ := k30_openF hMe608
                        have hv608_2 := hcc608 2 _ rfl
                        rw [add_field _ _ 2 (by omega)] at hv608_2
                        replace hv608_2 := Option.some.inj (hv608_2.symm.trans hx608_2)
                        injection hv608_2 with hva_ hvn_ hvc_
                        rw [hva_] at ge608_2
                        rw [hvc_] at ul608_2
                        have HL608_2 := Aside0.mk (show Kd.V k38 38 _ w.heap.size _ _ ((rd_T30 (rd_L13 t557 t561) t607).f2) from Kd.V_mk ul608_2 ge608_2)
                        clear hva_ hvn_ hvc_ ge608_2 ul608_2; clear hcc608 hce608; have HR608_2 := Aside0.mk hi608_2; have HC608_2 := Aside0.mk hl608_2; clear hi608_2 hl608_2; replace p608 := eq_true p608; replace q608 := eq_true q608
                        refine start_ (n := 18) (S := fun w' => w'.cell? (ad605.add (t561).toNat) = some (.slice (some ad608) (rd_L13 t557 t561).length c605_0) ∧ w'.cell? (ad605.add (t561).toNat) = some (.slice (some ad608) (rd_L13 t557 t561).length c605_0) ∧ w'.cell? (ad608.add ((t607).toNat * 3)) = some (.string ((rd_T30 (rd_L13 t557 t561) t607).f0)) ∧ w'.cell? ⟨(ad608.add ((t607).toNat * 3)).block, (ad608.add ((t607).toNat * 3)).off + 1, none⟩ = some (.bool ((rd_T30 (rd_L13 t557 t561) t607).f1)) ∧ w'.cell? ⟨(ad608.add ((t607).toNat * 3)).block, (ad608.add ((t607).toNat * 3)).off + 2, none⟩ = some (.slice A608_2 ((rd_T30 (rd_L13 t557 t561) t607).f2).length c608_2)) (ds := []) #[false, false, false, false, false, false, false, false, false, false, false, false, false, false, false, false, false, false] (by kernel_rfl) rfl rfl ⟨hx605_0, hx606_0, hx608_0, hx608_1, hx608_2⟩ (fun hHeld => ?_); refine with_tabW laws_FnPickStrong.tab17 laws_FnPickStrong.bits17 (fun HT_ HW_ => ?_)
                        generalize w59.drew = w139 at HO_3 HO583 HO601 HB HL605_0 HL606_0 HR605_0 HR606_0 hx605_0 hx606_0 hHeld ⊢
                        refine pure_ (i := 0) (N := some 112) (v := ?_) (a' := ?_) #[true, false, false, false, false, false, false, false, false, false, false, false, false, false, false, false, false, false] rfl rfl (any_of HT_.out (by kernel_rfl)) (fun _ _ _ h => h) (Or.inl ⟨by rfl, ?_⟩) ?_ ?_
                        rotate_left
                        · intro w'
                          go_simp
                          with_reducible rfl
                        rotate_left
                        · simp only [Act.put, List.setIfInBounds_toArray, List.set_cons_zero, List.set_cons_succ, i64_w, i32_w]
                          rfl
                        refine pure_ (i := 1) (N := some 113) (v := ?_) (a' := ?_) #[true, true, false, false, false, false, false, false, false, false, false, false, false, false, false, false, false, false] rfl rfl (any_of HT_.out (by kernel_rfl)) (fun _ _ _ h => h) (Or.inl ⟨by rfl, ?_⟩) ?_ ?_
                        rotate_left
                        · intro w'
                          go_simp
                          with_reducible rfl
                        rotate_left
                        · simp only [Act.put, List.setIfInBounds_toArray, List.set_cons_zero, List.set_cons_succ, i64_w, i32_w]
                          rfl
                        refine pure_ (i := 2) (N := some 114) (v := ?_) (a' := ?_) #[true, true, true, false, false, false, false, false, false, false, false, false, false, false, false, false, false, false] rfl rfl (any_of HT_.out (by kernel_rfl)) (fun _ _ _ h => h) (Or.inl ⟨by rfl, ?_⟩) ?_ ?_
                        rotate_left
                        · intro w'
                          go_simp
                          with_reducible rfl
                        rotate_left
                        · simp only [Act.put, List.setIfInBounds_toArray, List.set_cons_zero, List.set_cons_succ, i64_w, i32_w]
                          rfl
                        refine pure_ (i := 3) (N := some 115) (v := ?_) (a' := ?_) #[true, true, true, true, false, false, false, false, false, false, false, false, false, false, false, false, false, false] rfl rfl (any_of HT_.out (by kernel_rfl)) (fun _ _ _ h => h) (Or.inl ⟨by rfl, ?_⟩) ?_ ?_
                        rotate_left
                        · intro w'
                          go_simp
                          with_reducible rfl
                        rotate_left
                        · simp only [Act.put, List.setIfInBounds_toArray, List.set_cons_zero, List.set_cons_succ, i64_w, i32_w]
                          rfl
                        refine pure_ (i := 4) (N := some 116) (v := ?_) (a' := ?_) #[true, true, true, true, true, false, false, false, false, false, false, false, false, false, false, false, false, false] rfl rfl (any_of HT_.out (by kernel_rfl)) (fun _ _ _ h => h) (Or.inl ⟨by rfl, ?_⟩) ?_ ?_
                        rotate_left
                        · intro w'
                          go_simp
                          with_reducible rfl
                        rotate_left
                        · simp only [Act.put, List.setIfInBounds_toArray, List.set_cons_zero, List.set_cons_succ, i64_w, i32_w]
                          rfl
                        refine pure_ (i := 6) (N := some 118) (v := ?_) (a' := ?_) #[true, true, true, true, true, false, true, false, false, false, false, false, false, false, false, false, false, false] rfl rfl (any_of HT_.out (by kernel_rfl)) (fun _ _ _ h => h) (Or.inl ⟨by rfl, ?_⟩) ?_ ?_
                        rotate_left
                        · intro w'
                          go_simp
                          with_reducible rfl
                        rotate_left
                        · simp only [Act.put, List.setIfInBounds_toArray, List.set_cons_zero, List.set_cons_succ, i64_w, i32_w]
                          rfl
                        refine pure_ (i := 7) (N := some 119) (v := ?_) (a' := ?_) #[true, true, true, true, true, false, true, true, false, false, false, false, false, false, false, false, false, false] rfl rfl (any_of HT_.out (by kernel_rfl)) (fun _ _ _ h => h) (Or.inl ⟨by rfl, ?_⟩) ?_ ?_
                        rotate_left
                        · intro w'
                          go_simp
                          with_reducible rfl
                        rotate_left
                        · simp only [Act.put, List.setIfInBounds_toArray, List.set_cons_zero, List.set_cons_succ, i64_w, i32_w]
                          rfl
                        refine pure_ (i := 8) (N := some 120) (v := ?_) (a' := ?_) #[true, true, true, true, true, false, true, true, true, false, false, false, false, false, false, false, false, false] rfl rfl (any_of HT_.out (by kernel_rfl)) (fun _ _ _ h => h) (Or.inl ⟨by rfl, ?_⟩) ?_ ?_
                        rotate_left
                        · intro w'
                          go_simp
                          with_reducible rfl
                        rotate_left
                        · simp only [Act.put, List.setIfInBounds_toArray, List.set_cons_zero, List.set_cons_succ, i64_w, i32_w]
                          rfl
                        refine pure_ (i := 10) (N := some 122) (v := ?_) (a' := ?_) #[true, true, true, true, true, false, true, true, true, false, true, false, false, false, false, false, false, false] rfl rfl (any_of HT_.out (by kernel_rfl)) (fun _ _ _ h => h) (Or.inl ⟨by rfl, ?_⟩) ?_ ?_
                        rotate_left
                        · intro w'
                          go_simp
                          with_reducible rfl
                        rotate_left
                        · simp only [Act.put, List.setIfInBounds_toArray, List.set_cons_zero, List.set_cons_succ, i64_w, i32_w]
                          rfl
                        refine take_ (i := 5) (N := some 117) (v := ?_) (a' := ?_) #[true, true, true, true, true, true, true, true, true, false, true, false, false, false, false, false, false, false] rfl rfl (take_ofW HT_.out HW_.out (by kernel_rfl)) (fun _ _ _ h => h) (Or.inl ⟨by rfl, ?_⟩) hHeld ?_ ?_
                        rotate_left
                        · rintro w' ⟨s0, s1, s2, s3, s4⟩
                          go_simp
                          with_reducible rfl
                        rotate_left
                        · simp only [Act.put, List.setIfInBounds_toArray, List.set_cons_zero, List.set_cons_succ, i64_w, i32_w]
                          rfl
                        refine take_ (i := 9) (N := some 121) (v := ?_) (a' := ?_) #[true, true, true, true, true, true, true, true, true, true, true, false, false, false, false, false, false, false] rfl rfl (take_ofW HT_.out HW_.out (by kernel_rfl)) (fun _ _ _ h => h) (Or.inl ⟨by rfl, ?_⟩) hHeld ?_ ?_
                        rotate_left
                        · rintro w' ⟨s0, s1, s2, s3, s4⟩
                          go_simp
                          with_reducible rfl
                        rotate_left
                        · simp only [Act.put, List.setIfInBounds_toArray, List.set_cons_zero, List.set_cons_succ, i64_w, i32_w]
                          rfl
                        refine one_ (i := 11) (N := some 123) #[true, true, true, true, true, true, true, true, true, true, true, true, false, false, false, false, false, false] rfl rfl (one_of HT_.out (by kernel_rfl)) (by decide) (fun K hK => ?_)
                        refine goes_ Try.func16 (by kernel_rfl) rfl #[.slice (some ad608) (rd_L13 t557 t561).length c605_0, .string t560] (by rfl) rfl rfl (by (try simp only [List.map_toArray, List.map_cons, List.map_nil]); first | done | rfl | (simp only [List.length_drop, List.length_take]; rfl)) ?_
                        with_reducible refine (impl_UnitFind.calls k4 _ _ (rd_L13 t557 t561) t560 t607 _ ?side1 ?side2 A28.out).mono ?_
                        (case side1 => repeat (first | exact (by repeat (first | (with_reducible exact HR606_0.out) | (with_reducible refine Kd.C_alloc ?_ _) | (with_reducible refine Kd.C_drewN ?_ _) | (with_reducible refine Kd.C_drew ?_) | exact HR606_0.out)) | (with_reducible refine Kd.C_alloc ?_ _) | (with_reducible refine Kd.C_drewN ?_ _) | (with_reducible refine Kd.C_drew ?_)))
                        (case side2 => exact HC606_0.out)
                        rintro e w140 ⟨rfl, hb⟩
                        have HS0_ := (hb.cell (World.block_lt_of_cell? _ _ (hHeld.1))).trans (hHeld.1)
                        have HS1_ := (hb.cell (World.block_lt_of_cell? _ _ (hHeld.2.1))).trans (hHeld.2.1)
                        have HS2_ := (hb.cell (World.block_lt_of_cell? _ _ (hHeld.2.2.1))).trans (hHeld.2.2.1)
                        have HS3_ := (hb.cell (World.block_lt_of_cell? _ _ (hHeld.2.2.2.1))).trans (hHeld.2.2.2.1)
                        have HS4_ := (hb.cell (World.block_lt_of_cell? _ _ (hHeld.2.2.2.2))).trans (hHeld.2.2.2.2)
                        refine ⟨_, rfl, ?_⟩
                        have n0_ := Aside0.mk (Kd.N_below (by (with_reducible repeat (first | apply Kd.N_alloc | apply Kd.N_drewN | apply Kd.N_drew)); exact HO_3.out) hb)
                        have n1_ := Aside0.mk (Kd.N_below (by (with_reducible repeat (first | apply Kd.N_alloc | apply Kd.N_drewN | apply Kd.N_drew)); exact HO583.out) hb)
                        have n2_ := Aside0.mk (Kd.N_below (by (with_reducible repeat (first | apply Kd.N_alloc | apply Kd.N_drewN | apply Kd.N_drew)); exact HO601.out) hb)
                        have n3_ := Aside0.mk (Kd.V_below (by (with_reducible repeat (first | apply Kd.V_alloc | apply Kd.V_drewN | apply Kd.V_drew)); exact HL605_0.out) hb)
                        have n4_ := Aside0.mk (Kd.V_below (by (with_reducible repeat (first | apply Kd.V_alloc | apply Kd.V_drewN | apply Kd.V_drew)); exact HL606_0.out) hb)
                        have n5_ := Aside0.mk (Kd.C_below (by repeat (first | (with_reducible exact HR605_0.out) | (with_reducible refine Kd.C_alloc ?_ _) | (with_reducible refine Kd.C_drewN ?_ _) | (with_reducible refine Kd.C_drew ?_) | exact HR605_0.out)) hb)
                        have n6_ := Aside0.mk (Kd.C_below (by repeat (first | (with_reducible exact HR606_0.out) | (with_reducible refine Kd.C_alloc ?_ _) | (with_reducible refine Kd.C_drewN ?_ _) | (with_reducible refine Kd.C_drew ?_) | exact HR606_0.out)) hb)
                        have n7_ := Aside0.mk (below_step (by repeat (first | (with_reducible first | exact HB.out | apply below_alloc | apply pw_below_drewN | apply below_drew1) | exact HB.out)) hb)
                        clear HO_3 HO583 HO601 HL605_0 HL606_0 HR605_0 HR606_0; clear HB
                        have HO_3 := n0_
                        have HO583 := n1_
                        have HO601 := n2_
                        have HL605_0 := n3_
                        have HL606_0 := n4_
                        have HR605_0 := n5_
                        have HR606_0 := n6_
                        have HB := n7_
                        clear n0_ n1_ n2_ n3_ n4_ n5_ n6_ n7_
                        (try clear hb)
                        (try clear hb2)
                        (try clear hk)
                        (try clear hi)
                        refine hK.out _ _ ⟨HS0_, HS1_, HS2_, HS3_, HS4_⟩ (fun hHeld => ?_)
                        clear hK K
                        refine norm_ (a' := ?_) ?_ ?_
                        rotate_left
                        · show Act.put _ (some 123) _ = _
                          simp only [Act.put, List.setIfInBounds_toArray, List.set_cons_zero, List.set_cons_succ, i64_w, i32_w]
                          rfl
                        refine pure_ (i := 12) (N := some 124) (v := ?_) (a' := ?_) #[true, true, true, true, true, true, true, true, true, true, true, true, true, false, false, false, false, false] rfl rfl (any_of HT_.out (by kernel_rfl)) (fun _ _ _ h => h) (Or.inl ⟨by rfl, ?_⟩) ?_ ?_
                        rotate_left
                        · intro w'
                          go_simp
                          with_reducible rfl
                        rotate_left
                        · simp only [Act.put, List.setIfInBounds_toArray, List.set_cons_zero, List.set_cons_succ, i64_w, i32_w]
                          rfl
                        refine pure_ (i := 13) (N := some 125) (v := ?_) (a' := ?_) #[true, true, true, true, true, true, true, true, true, true, true, true, true, true, false, false, false, false] rfl rfl (any_of HT_.out (by kernel_rfl)) (fun _ _ _ h => h) (Or.inl ⟨by rfl, ?_⟩) ?_ ?_
                        rotate_left
                        · intro w'
                          go_simp
                          with_reducible rfl
                        rotate_left
                        · simp only [Act.put, List.setIfInBounds_toArray, List.set_cons_zero, List.set_cons_succ, i64_w, i32_w]
                          rfl
                        refine take_ (i := 14) (N := some 126) (v := ?_) (a' := ?_) #[true, true, true, true, true, true, true, true, true, true, true, true, true, true, true, false, false, false] rfl rfl (take_ofW HT_.out HW_.out (by kernel_rfl)) (fun _ _ _ h => h) (Or.inl ⟨by rfl, ?_⟩) hHeld ?_ ?_
                        rotate_left
                        · rintro w' ⟨s0, s1, s2, s3, s4⟩
                          go_simp
                          with_reducible rfl
                        rotate_left
                        · simp only [Act.put, List.setIfInBounds_toArray, List.set_cons_zero, List.set_cons_succ, i64_w, i32_w]
                          rfl
                        refine pure_ (i := 15) (N := some 127) (v := ?_) (a' := ?_) #[true, true, true, true, true, true, true, true, true, true, true, true, true, true, true, true, false, false] rfl rfl (any_of HT_.out (by kernel_rfl)) (fun _ _ _ h => h) (Or.inl ⟨by rfl, ?_⟩) ?_ ?_
                        rotate_left
                        · intro w'
                          go_simp
                          with_reducible rfl
                        rotate_left
                        · simp only [Act.put, List.setIfInBounds_toArray, List.set_cons_zero, List.set_cons_succ, i64_w, i32_w]
                          rfl
                        refine pure_ (i := 16) (N := some 128) (v := ?_) (a' := ?_) #[true, true, true, true, true, true, true, true, true, true, true, true, true, true, true, true, true, false] rfl rfl (any_of HT_.out (by kernel_rfl)) (fun _ _ _ h => h) (Or.inl ⟨by rfl, ?_⟩) ?_ ?_
                        rotate_left
                        · intro w'
                          go_simp
                          with_reducible rfl
                        rotate_left
                        · simp only [Act.put, List.setIfInBounds_toArray, List.set_cons_zero, List.set_cons_succ, i64_w, i32_w]
                          rfl
                        refine pure_ (i := 17) (N := some 20) (v := ?_) (a' := ?_) #[true, true, true, true, true, true, true, true, true, true, true, true, true, true, true, true, true, true] rfl rfl (any_of HT_.out (by kernel_rfl)) (fun _ _ _ h => h) (Or.inl ⟨by rfl, ?_⟩) ?_ ?_
                        rotate_left
                        · intro w'
                          go_simp
                          with_reducible rfl
                        rotate_left
                        · simp only [Act.put, List.setIfInBounds_toArray, List.set_cons_zero, List.set_cons_succ, i64_w, i32_w]
                          rfl
                        refine done_ (done_of HT_.out (by kernel_rfl)) ?_
                        try go_wp2
                        go_ret
                        exact ⟨by first | rfl | (simp [errW_none, errW_some] <;> rfl) | (simp [*, errW_none, errW_some] <;> rfl), by repeat (first | (with_reducible first | exact HB.out | apply below_alloc | apply pw_below_drewN | apply below_drew1) | exact HB.out)⟩
                      replace c32 := Bool.eq_false_iff.mpr c32
                      subst c32
                      have H1 : (some false) = some r := by rw [if_neg (show ¬ (false = true) by decide)] at H; exact H
                      clear H
                      have H := H1
                      clear H1
                      obtain rfl := Option.some.inj H
                      have n0_ := Aside0.mk (Kd.N_drew HO_3.out)
                      have n1_ := Aside0.mk (Kd.N_drew HO583.out)
                      have n2_ := Aside0.mk (Kd.N_drew HO601.out)
                      have n3_ := Aside0.mk (below_drew1 HB.out)
                      clear HO_3 HO583 HO601; clear HB
                      have HO_3 := n0_
                      have HO583 := n1_
                      have HO601 := n2_
                      have HB := n3_
                      clear n0_ n1_ n2_ n3_
                      have p605 : 0 ≤ (t561 : Int) := of_decide_eq_true (by first | (with_reducible assumption) | assumption)
                      have q605 : t561 < (t557.length : Int) := of_decide_eq_true (by first | (with_reducible assumption) | assumption)
                      obtain ⟨ad605, A605_0, c605_0, e605, hx605_0, hl605_0, hi605_0⟩ := at_L13 (Kd.N_reads' HO_3.out).2.2 t561 p605 q605
                      cases e605
                      obtain ⟨ce605, hce605, hMe605, hcc605⟩ := Kd.N_get HO_3.out [] t561 p605 (by first | exact q605 | exact of_decide_eq_true (by first | (with_reducible assumption) | assumption) | (have e_ := (Kd.N_reads' HO_3.out).1; omega))
                      obtain ⟨ua605_0, uc605_0, rfl, ul605_0, ge605_0⟩ := Kd.FK_slice_open hMe605
                      have hv605_0 := hcc605 0 _ rfl
                      rw [Nat.add_zero, show ((Kd.slice 30 k30)).sz = 1 from rfl, Nat.mul_one] at hv605_0
                      replace hv605_0 := Option.some.inj (hv605_0.symm.trans hx605_0)
                      injection hv605_0 with hva_ hvn_ hvc_
                      rw [hva_] at ge605_0
                      rw [hvc_] at ul605_0
                      have HL605_0 := Aside0.mk (show Kd.V k30 30 _ w.heap.size _ _ (rd_L13 t557 t561) from Kd.V_mk ul605_0 ge605_0)
                      clear hva_ hvn_ hvc_ ge605_0 ul605_0; clear hcc605 hce605; have HR605_0 := Aside0.mk hi605_0; have HC605_0 := Aside0.mk hl605_0; clear hi605_0 hl605_0; replace p605 := eq_true p605; replace q605 := eq_true q605
                      have p606 : 0 ≤ (t561 : Int) := of_decide_eq_true (by first | (with_reducible assumption) | assumption)
                      have q606 : t561 < (t557.length : Int) := of_decide_eq_true (by first | (with_reducible assumption) | assumption)
                      obtain ⟨ad606, A606_0, c606_0, e606, hx606_0, hl606_0, hi606_0⟩ := at_L13 (Kd.N_reads' HO_3.out).2.2 t561 p606 q606
                      obtain rfl : ad605 = ad606 := (by injection e606)
                      obtain ⟨ce606, hce606, hMe606, hcc606⟩ := Kd.N_get HO_3.out [] t561 p606 (by first | exact q606 | exact of_decide_eq_true (by first | (with_reducible assumption) | assumption) | (have e_ := (Kd.N_reads' HO_3.out).1; omega))
                      obtain ⟨ua606_0, uc606_0, rfl, ul606_0, ge606_0⟩ := Kd.FK_slice_open hMe606
                      have hv606_0 := hcc606 0 _ rfl
                      rw [Nat.add_zero, show ((Kd.slice 30 k30)).sz = 1 from rfl, Nat.mul_one] at hv606_0
                      replace hv606_0 := Option.some.inj (hv606_0.symm.trans hx606_0)
                      injection hv606_0 with hva_ hvn_ hvc_
                      rw [hva_] at ge606_0
                      rw [hvc_] at ul606_0
                      have HL606_0 := Aside0.mk (show Kd.V k30 30 _ w.heap.size _ _ (rd_L13 t557 t561) from Kd.V_mk ul606_0 ge606_0)
                      clear hva_ hvn_ hvc_ ge606_0 ul606_0; clear hcc606 hce606; have HR606_0 := Aside0.mk hi606_0; have HC606_0 := Aside0.mk hl606_0; clear hi606_0 hl606_0; replace p606 := eq_true p606; replace q606 := eq_true q606
                      have ea_ := Option.some.inj (hx605_0.symm.trans hx606_0)
                      injection ea_ with ea_ en_ ec_
                      subst ea_; subst ec_; clear en_
                      have p608 : 0 ≤ (t607 : Int) := of_decide_eq_true (by first | (with_reducible assumption) | assumption)
                      have q608 : t607 < ((rd_L13 t557 t561).length : Int) := of_decide_eq_true (by first | (with_reducible assumption) | assumption)
                      obtain ⟨ad608, A608_2, c608_2, e608, hx608_0, hx608_1, hx608_2, hl608_2, hi608_2⟩ := at_T30 (by repeat (first | (with_reducible exact HR605_0.out) | (with_reducible refine Kd.C_alloc ?_ _) | (with_reducible refine Kd.C_drewN ?_ _) | (with_reducible refine Kd.C_drew ?_) | exact HR605_0.out)) t607 p608 q608
                      cases e608
                      obtain ⟨ce608, hce608, hMe608, hcc608⟩ := Kd.V_get HL605_0.out z30 t607 p608 (by first | exact q608 | exact of_decide_eq_true (by first | (with_reducible assumption) | assumption) | (have e_ := (Kd.V_reads' HL605_0.out).1; omega))
                      obtain ⟨ua608_2, uc608_2, rfl, ul608_2, ge608_2⟩ := k30_openF hMe608
                      have hv608_2 := hcc608 2 _ rfl
                      rw [add_field _ _ 2 (by omega)] at hv608_2
                      replace hv608_2 := Option.some.inj (hv608_2.symm.trans hx608_2)
                      injection hv608_2 with hva_ hvn_ hvc_
                      rw [hva_] at ge608_2
                      rw [hvc_] at ul608_2
                      have HL608_2 := Aside0.mk (show Kd.V k38 38 _ w.heap.size _ _ ((rd_T30 (rd_L13 t557 t561) t607).f2) from Kd.V_mk ul608_2 ge608_2)
                      clear hva_ hvn_ hvc_ ge608_2 ul608_2; clear hcc608 hce608; have HR608_2 := Aside0.mk hi608_2; have HC608_2 := Aside0.mk hl608_2; clear hi608_2 hl608_2; replace p608 := eq_true p608; replace q608 := eq_true q608
                      refine start_ (n := 18) (S := fun w' => w'.cell? (ad605.add (t561).toNat) = some (.slice (some ad608) (rd_L13 t557 t561).length c605_0) ∧ w'.cell? (ad605.add (t561).toNat) = some (.slice (some ad608) (rd_L13 t557 t561).length c605_0) ∧ w'.cell? (ad608.add ((t607).toNat * 3)) = some (.string ((rd_T30 (rd_L13 t557 t561) t607).f0)) ∧ w'.cell? ⟨(ad608.add ((t607).toNat * 3)).block, (ad608.add ((t607).toNat * 3)).off + 1, none⟩ = some (.bool ((rd_T30 (rd_L13 t557 t561) t607).f1)) ∧ w'.cell? ⟨(ad608.add ((t607).toNat * 3)).block, (ad608.add ((t607).toNat * 3)).off + 2, none⟩ = some (.slice A608_2 ((rd_T30 (rd_L13 t557 t561) t607).f2).length c608_2)) (ds := []) #[false, false, false, false, false, false, false, false, false, false, false, false, false, false, false, false, false, false] (by kernel_rfl) rfl rfl ⟨hx605_0, hx606_0, hx608_0, hx608_1, hx608_2⟩ (fun hHeld => ?_); refine with_tabW laws_FnPickStrong.tab17 laws_FnPickStrong.bits17 (fun HT_ HW_ => ?_)
                      generalize w59.drew = w165 at HO_3 HO583 HO601 HB HL605_0 HL606_0 HR605_0 HR606_0 hx605_0 hx606_0 hHeld ⊢
                      refine pure_ (i := 0) (N := some 112) (v := ?_) (a' := ?_) #[true, false, false, false, false, false, false, false, false, false, false, false, false, false, false, false, false, false] rfl rfl (any_of HT_.out (by kernel_rfl)) (fun _ _ _ h => h) (Or.inl ⟨by rfl, ?_⟩) ?_ ?_
                      rotate_left
                      · intro w'
                        go_simp
                        with_reducible rfl
                      rotate_left
                      · simp only [Act.put, List.setIfInBounds_toArray, List.set_cons_zero, List.set_cons_succ, i64_w, i32_w]
                        rfl
                      refine pure_ (i := 1) (N := some 113) (v := ?_) (a' := ?_) #[true, true, false, false, false, false, false, false, false, false, false, false, false, false, false, false, false, false] rfl rfl (any_of HT_.out (by kernel_rfl)) (fun _ _ _ h => h) (Or.inl ⟨by rfl, ?_⟩) ?_ ?_
                      rotate_left
                      · intro w'
                        go_simp
                        with_reducible rfl
                      rotate_left
                      · simp only [Act.put, List.setIfInBounds_toArray, List.set_cons_zero, List.set_cons_succ, i64_w, i32_w]
                        rfl
                      refine pure_ (i := 2) (N := some 114) (v := ?_) (a' := ?_) #[true, true, true, false, false, false, false, false, false, false, false, false, false, false, false, false, false, false] rfl rfl (any_of HT_.out (by kernel_rfl)) (fun _ _ _ h => h) (Or.inl ⟨by rfl, ?_⟩) ?_ ?_
                      rotate_left
                      · intro w'
                        go_simp
                        with_reducible rfl
                      rotate_left
                      · simp only [Act.put, List.setIfInBounds_toArray, List.set_cons_zero, List.set_cons_succ, i64_w, i32_w]
                        rfl
                      refine pure_ (i := 3) (N := some 115) (v := ?_) (a' := ?_) #[true, true, true, true, false, false, false, false, false, false, false, false, false, false, false, false, false, false] rfl rfl (any_of HT_.out (by kernel_rfl)) (fun _ _ _ h => h) (Or.inl ⟨by rfl, ?_⟩) ?_ ?_
                      rotate_left
                      · intro w'
                        go_simp
                        with_reducible rfl
                      rotate_left
                      · simp only [Act.put, List.setIfInBounds_toArray, List.set_cons_zero, List.set_cons_succ, i64_w, i32_w]
                        rfl
                      refine pure_ (i := 4) (N := some 116) (v := ?_) (a' := ?_) #[true, true, true, true, true, false, false, false, false, false, false, false, false, false, false, false, false, false] rfl rfl (any_of HT_.out (by kernel_rfl)) (fun _ _ _ h => h) (Or.inl ⟨by rfl, ?_⟩) ?_ ?_
                      rotate_left
                      · intro w'
                        go_simp
                        with_reducible rfl
                      rotate_left
                      · simp only [Act.put, List.setIfInBounds_toArray, List.set_cons_zero, List.set_cons_succ, i64_w, i32_w]
                        rfl
                      refine pure_ (i := 6) (N := some 118) (v := ?_) (a' := ?_) #[true, true, true, true, true, false, true, false, false, false, false, false, false, false, false, false, false, false] rfl rfl (any_of HT_.out (by kernel_rfl)) (fun _ _ _ h => h) (Or.inl ⟨by rfl, ?_⟩) ?_ ?_
                      rotate_left
                      · intro w'
                        go_simp
                        with_reducible rfl
                      rotate_left
                      · simp only [Act.put, List.setIfInBounds_toArray, List.set_cons_zero, List.set_cons_succ, i64_w, i32_w]
                        rfl
                      refine pure_ (i := 7) (N := some 119) (v := ?_) (a' := ?_) #[true, true, true, true, true, false, true, true, false, false, false, false, false, false, false, false, false, false] rfl rfl (any_of HT_.out (by kernel_rfl)) (fun _ _ _ h => h) (Or.inl ⟨by rfl, ?_⟩) ?_ ?_
                      rotate_left
                      · intro w'
                        go_simp
                        with_reducible rfl
                      rotate_left
                      · simp only [Act.put, List.setIfInBounds_toArray, List.set_cons_zero, List.set_cons_succ, i64_w, i32_w]
                        rfl
                      refine pure_ (i := 8) (N := some 120) (v := ?_) (a' := ?_) #[true, true, true, true, true, false, true, true, true, false, false, false, false, false, false, false, false, false] rfl rfl (any_of HT_.out (by kernel_rfl)) (fun _ _ _ h => h) (Or.inl ⟨by rfl, ?_⟩) ?_ ?_
                      rotate_left
                      · intro w'
                        go_simp
                        with_reducible rfl
                      rotate_left
                      · simp only [Act.put, List.setIfInBounds_toArray, List.set_cons_zero, List.set_cons_succ, i64_w, i32_w]
                        rfl
                      refine pure_ (i := 10) (N := some 122) (v := ?_) (a' := ?_) #[true, true, true, true, true, false, true, true, true, false, true, false, false, false, false, false, false, false] rfl rfl (any_of HT_.out (by kernel_rfl)) (fun _ _ _ h => h) (Or.inl ⟨by rfl, ?_⟩) ?_ ?_
                      rotate_left
                      · intro w'
                        go_simp
                        with_reducible rfl
                      rotate_left
                      · simp only [Act.put, List.setIfInBounds_toArray, List.set_cons_zero, List.set_cons_succ, i64_w, i32_w]
                        rfl
                      refine take_ (i := 5) (N := some 117) (v := ?_) (a' := ?_) #[true, true, true, true, true, true, true, true, true, false, true, false, false, false, false, false, false, false] rfl rfl (take_ofW HT_.out HW_.out (by kernel_rfl)) (fun _ _ _ h => h) (Or.inl ⟨by rfl, ?_⟩) hHeld ?_ ?_
                      rotate_left
                      · rintro w' ⟨s0, s1, s2, s3, s4⟩
                        go_simp
                        with_reducible rfl
                      rotate_left
                      · simp only [Act.put, List.setIfInBounds_toArray, List.set_cons_zero, List.set_cons_succ, i64_w, i32_w]
                        rfl
                      refine take_ (i := 9) (N := some 121) (v := ?_) (a' := ?_) #[true, true, true, true, true, true, true, true, true, true, true, false, false, false, false, false, false, false] rfl rfl (take_ofW HT_.out HW_.out (by kernel_rfl)) (fun _ _ _ h => h) (Or.inl ⟨by rfl, ?_⟩) hHeld ?_ ?_
                      rotate_left
                      · rintro w' ⟨s0, s1, s2, s3, s4⟩
                        go_simp
                        with_reducible rfl
                      rotate_left
                      · simp only [Act.put, List.setIfInBounds_toArray, List.set_cons_zero, List.set_cons_succ, i64_w, i32_w]
                        rfl
                      refine one_ (i := 11) (N := some 123) #[true, true, true, true, true, true, true, true, true, true, true, true, false, false, false, false, false, false] rfl rfl (one_of HT_.out (by kernel_rfl)) (by decide) (fun K hK => ?_)
                      refine goes_ Try.func16 (by kernel_rfl) rfl #[.slice (some ad608) (rd_L13 t557 t561).length c605_0, .string t560] (by rfl) rfl rfl (by (try simp only [List.map_toArray, List.map_cons, List.map_nil]); first | done | rfl | (simp only [List.length_drop, List.length_take]; rfl)) ?_
                      with_reducible refine (impl_UnitFind.calls k4 _ _ (rd_L13 t557 t561) t560 t607 _ ?side1 ?side2 A28.out).mono ?_
                      (case side1 => repeat (first | exact (by repeat (first | (with_reducible exact HR606_0.out) | (with_reducible refine Kd.C_alloc ?_ _) | (with_reducible refine Kd.C_drewN ?_ _) | (with_reducible refine Kd.C_drew ?_) | exact HR606_0.out)) | (with_reducible refine Kd.C_alloc ?_ _) | (with_reducible refine Kd.C_drewN ?_ _) | (with_reducible refine Kd.C_drew ?_)))
                      (case side2 => exact HC606_0.out)
                      rintro e w166 ⟨rfl, hb⟩
                      have HS0_ := (hb.cell (World.block_lt_of_cell? _ _ (hHeld.1))).trans (hHeld.1)
                      have HS1_ := (hb.cell (World.block_lt_of_cell? _ _ (hHeld.2.1))).trans (hHeld.2.1)
                      have HS2_ := (hb.cell (World.block_lt_of_cell? _ _ (hHeld.2.2.1))).trans (hHeld.2.2.1)
                      have HS3_ := (hb.cell (World.block_lt_of_cell? _ _ (hHeld.2.2.2.1))).trans (hHeld.2.2.2.1)
                      have HS4_ := (hb.cell (World.block_lt_of_cell? _ _ (hHeld.2.2.2.2))).trans (hHeld.2.2.2.2)
                      refine ⟨_, rfl, ?_⟩
                      have n0_ := Aside0.mk (Kd.N_below (by (with_reducible repeat (first | apply Kd.N_alloc | apply Kd.N_drewN | apply Kd.N_drew)); exact HO_3.out) hb)
                      have n1_ := Aside0.mk (Kd.N_below (by (with_reducible repeat (first | apply Kd.N_alloc | apply Kd.N_drewN | apply Kd.N_drew)); exact HO583.out) hb)
                      have n2_ := Aside0.mk (Kd.N_below (by (with_reducible repeat (first | apply Kd.N_alloc | apply Kd.N_drewN | apply Kd.N_drew)); exact HO601.out) hb)
                      have n3_ := Aside0.mk (Kd.V_below (by (with_reducible repeat (first | apply Kd.V_alloc | apply Kd.V_drewN | apply Kd.V_drew)); exact HL605_0.out) hb)
                      have n4_ := Aside0.mk (Kd.V_below (by (with_reducible repeat (first | apply Kd.V_alloc | apply Kd.V_drewN | apply Kd.V_drew)); exact HL606_0.out) hb)
                      have n5_ := Aside0.mk (Kd.C_below (by repeat (first | (with_reducible exact HR605_0.out) | (with_reducible refine Kd.C_alloc ?_ _) | (with_reducible refine Kd.C_drewN ?_ _) | (with_reducible refine Kd.C_drew ?_) | exact HR605_0.out)) hb)
                      have n6_ := Aside0.mk (Kd.C_below (by repeat (first | (with_reducible exact HR606_0.out) | (with_reducible refine Kd.C_alloc ?_ _) | (with_reducible refine Kd.C_drewN ?_ _) | (with_reducible refine Kd.C_drew ?_) | exact HR606_0.out)) hb)
                      have n7_ := Aside0.mk (below_step (by repeat (first | (with_reducible first | exact HB.out | apply below_alloc | apply pw_below_drewN | apply below_drew1) | exact HB.out)) hb)
                      clear HO_3 HO583 HO601 HL605_0 HL606_0 HR605_0 HR606_0; clear HB
                      have HO_3 := n0_
                      have HO583 := n1_
                      have HO601 := n2_
                      have HL605_0 := n3_
                      have HL606_0 := n4_
                      have HR605_0 := n5_
                      have HR606_0 := n6_
                      have HB := n7_
                      clear n0_ n1_ n2_ n3_ n4_ n5_ n6_ n7_
                      (try clear hb)
                      (try clear hb2)
                      (try clear hk)
                      (try clear hi)
                      refine hK.out _ _ ⟨HS0_, HS1_, HS2_, HS3_, HS4_⟩ (fun hHeld => ?_)
                      clear hK K
                      refine norm_ (a' := ?_) ?_ ?_
                      rotate_left
                      · show Act.put _ (some 123) _ = _
                        simp only [Act.put, List.setIfInBounds_toArray, List.set_cons_zero, List.set_cons_succ, i64_w, i32_w]
                        rfl
                      refine pure_ (i := 12) (N := some 124) (v := ?_) (a' := ?_) #[true, true, true, true, true, true, true, true, true, true, true, true, true, false, false, false, false, false] rfl rfl (any_of HT_.out (by kernel_rfl)) (fun _ _ _ h => h) (Or.inl ⟨by rfl, ?_⟩) ?_ ?_
                      rotate_left
                      · intro w'
                        go_simp
                        with_reducible rfl
                      rotate_left
                      · simp only [Act.put, List.setIfInBounds_toArray, List.set_cons_zero, List.set_cons_succ, i64_w, i32_w]
                        rfl
                      refine pure_ (i := 13) (N := some 125) (v := ?_) (a' := ?_) #[true, true, true, true, true, true, true, true, true, true, true, true, true, true, false, false, false, false] rfl rfl (any_of HT_.out (by kernel_rfl)) (fun _ _ _ h => h) (Or.inl ⟨by rfl, ?_⟩) ?_ ?_
                      rotate_left
                      · intro w'
                        go_simp
                        with_reducible rfl
                      rotate_left
                      · simp only [Act.put, List.setIfInBounds_toArray, List.set_cons_zero, List.set_cons_succ, i64_w, i32_w]
                        rfl
                      refine take_ (i := 14) (N := some 126) (v := ?_) (a' := ?_) #[true, true, true, true, true, true, true, true, true, true, true, true, true, true, true, false, false, false] rfl rfl (take_ofW HT_.out HW_.out (by kernel_rfl)) (fun _ _ _ h => h) (Or.inl ⟨by rfl, ?_⟩) hHeld ?_ ?_
                      rotate_left
                      · rintro w' ⟨s0, s1, s2, s3, s4⟩
                        go_simp
                        with_reducible rfl
                      rotate_left
                      · simp only [Act.put, List.setIfInBounds_toArray, List.set_cons_zero, List.set_cons_succ, i64_w, i32_w]
                        rfl
                      refine pure_ (i := 15) (N := some 127) (v := ?_) (a' := ?_) #[true, true, true, true, true, true, true, true, true, true, true, true, true, true, true, true, false, false] rfl rfl (any_of HT_.out (by kernel_rfl)) (fun _ _ _ h => h) (Or.inl ⟨by rfl, ?_⟩) ?_ ?_
                      rotate_left
                      · intro w'
                        go_simp
                        with_reducible rfl
                      rotate_left
                      · simp only [Act.put, List.setIfInBounds_toArray, List.set_cons_zero, List.set_cons_succ, i64_w, i32_w]
                        rfl
                      refine pure_ (i := 16) (N := some 128) (v := ?_) (a' := ?_) #[true, true, true, true, true, true, true, true, true, true, true, true, true, true, true, true, true, false] rfl rfl (any_of HT_.out (by kernel_rfl)) (fun _ _ _ h => h) (Or.inl ⟨by rfl, ?_⟩) ?_ ?_
                      rotate_left
                      · intro w'
                        go_simp
                        with_reducible rfl
                      rotate_left
                      · simp only [Act.put, List.setIfInBounds_toArray, List.set_cons_zero, List.set_cons_succ, i64_w, i32_w]
                        rfl
                      refine pure_ (i := 17) (N := some 20) (v := ?_) (a' := ?_) #[true, true, true, true, true, true, true, true, true, true, true, true, true, true, true, true, true, true] rfl rfl (any_of HT_.out (by kernel_rfl)) (fun _ _ _ h => h) (Or.inl ⟨by rfl, ?_⟩) ?_ ?_
                      rotate_left
                      · intro w'
                        go_simp
                        with_reducible rfl
                      rotate_left
                      · simp only [Act.put, List.setIfInBounds_toArray, List.set_cons_zero, List.set_cons_succ, i64_w, i32_w]
                        rfl
                      refine done_ (done_of HT_.out (by kernel_rfl)) ?_
                      try go_wp2
                      go_ret
                      exact ⟨by first | rfl | (simp [errW_none, errW_some] <;> rfl) | (simp [*, errW_none, errW_some] <;> rfl), by repeat (first | (with_reducible first | exact HB.out | apply below_alloc | apply pw_below_drewN | apply below_drew1) | exact HB.out)⟩
                    replace c31 := Bool.eq_false_iff.mpr c31
                    subst c31
                    have H1 : (some false) = some r := by rw [if_neg (show ¬ (false = true) by decide)] at H; exact H
                    clear H
                    have H := H1
                    clear H1
                    obtain rfl := Option.some.inj H
                    have n0_ := Aside0.mk (Kd.N_drew HO_3.out)
                    have n1_ := Aside0.mk (Kd.N_drew HO583.out)
                    have n2_ := Aside0.mk (Kd.N_drew HO601.out)
                    have n3_ := Aside0.mk (below_drew1 HB.out)
                    clear HO_3 HO583 HO601; clear HB
                    have HO_3 := n0_
                    have HO583 := n1_
                    have HO601 := n2_
                    have HB := n3_
                    clear n0_ n1_ n2_ n3_
                    have p605 : 0 ≤ (t561 : Int) := of_decide_eq_true (by first | (with_reducible assumption) | assumption)
                    have q605 : t561 < (t557.length : Int) := of_decide_eq_true (by first | (with_reducible assumption) | assumption)
                    obtain ⟨ad605, A605_0, c605_0, e605, hx605_0, hl605_0, hi605_0⟩ := at_L13 (Kd.N_reads' HO_3.out).2.2 t561 p605 q605
                    cases e605
                    obtain ⟨ce605, hce605, hMe605, hcc605⟩ := Kd.N_get HO_3.out [] t561 p605 (by first | exact q605 | exact of_decide_eq_true (by first | (with_reducible assumption) | assumption) | (have e_ := (Kd.N_reads' HO_3.out).1; omega))
                    obtain ⟨ua605_0, uc605_0, rfl, ul605_0, ge605_0⟩ := Kd.FK_slice_open hMe605
                    have hv605_0 := hcc605 0 _ rfl
                    rw [Nat.add_zero, show ((Kd.slice 30 k30)).sz = 1 from rfl, Nat.mul_one] at hv605_0
                    replace hv605_0 := Option.some.inj (hv605_0.symm.trans hx605_0)
                    injection hv605_0 with hva_ hvn_ hvc_
                    rw [hva_] at ge605_0
                    rw [hvc_] at ul605_0
                    have HL605_0 := Aside0.mk (show Kd.V k30 30 _ w.heap.size _ _ (rd_L13 t557 t561) from Kd.V_mk ul605_0 ge605_0)
                    clear hva_ hvn_ hvc_ ge605_0 ul605_0; clear hcc605 hce605; have HR605_0 := Aside0.mk hi605_0; have HC605_0 := Aside0.mk hl605_0; clear hi605_0 hl605_0; replace p605 := eq_true p605; replace q605 := eq_true q605
                    have p606 : 0 ≤ (t561 : Int) := of_decide_eq_true (by first | (with_reducible assumption) | assumption)
                    have q606 : t561 < (t557.length : Int) := of_decide_eq_true (by first | (with_reducible assumption) | assumption)
                    obtain ⟨ad606, A606_0, c606_0, e606, hx606_0, hl606_0, hi606_0⟩ := at_L13 (Kd.N_reads' HO_3.out).2.2 t561 p606 q606
                    obtain rfl : ad605 = ad606 := (by injection e606)
                    obtain ⟨ce606, hce606, hMe606, hcc606⟩ := Kd.N_get HO_3.out [] t561 p606 (by first | exact q606 | exact of_decide_eq_true (by first | (with_reducible assumption) | assumption) | (have e_ := (Kd.N_reads' HO_3.out).1; omega))
                    obtain ⟨ua606_0, uc606_0, rfl, ul606_0, ge606_0⟩ := Kd.FK_slice_open hMe606
                    have hv606_0 := hcc606 0 _ rfl
                    rw [Nat.add_zero, show ((Kd.slice 30 k30)).sz = 1 from rfl, Nat.mul_one] at hv606_0
                    replace hv606_0 := Option.some.inj (hv606_0.symm.trans hx606_0)
                    injection hv606_0 with hva_ hvn_ hvc_
                    rw [hva_] at ge606_0
                    rw [hvc_] at ul606_0
                    have HL606_0 := Aside0.mk (show Kd.V k30 30 _ w.heap.size _ _ (rd_L13 t557 t561) from Kd.V_mk ul606_0 ge606_0)
                    clear hva_ hvn_ hvc_ ge606_0 ul606_0; clear hcc606 hce606; have HR606_0 := Aside0.mk hi606_0; have HC606_0 := Aside0.mk hl606_0; clear hi606_0 hl606_0; replace p606 := eq_true p606; replace q606 := eq_true q606
                    have ea_ := Option.some.inj (hx605_0.symm.trans hx606_0)
                    injection ea_ with ea_ en_ ec_
                    subst ea_; subst ec_; clear en_
                    have p608 : 0 ≤ (t607 : Int) := of_decide_eq_true (by first | (with_reducible assumption) | assumption)
                    have q608 : t607 < ((rd_L13 t557 t561).length : Int) := of_decide_eq_true (by first | (with_reducible assumption) | assumption)
                    obtain ⟨ad608, A608_2, c608_2, e608, hx608_0, hx608_1, hx608_2, hl608_2, hi608_2⟩ := at_T30 (by repeat (first | (with_reducible exact HR605_0.out) | (with_reducible refine Kd.C_alloc ?_ _) | (with_reducible refine Kd.C_drewN ?_ _) | (with_reducible refine Kd.C_drew ?_) | exact HR605_0.out)) t607 p608 q608
                    cases e608
                    obtain ⟨ce608, hce608, hMe608, hcc608⟩ := Kd.V_get HL605_0.out z30 t607 p608 (by first | exact q608 | exact of_decide_eq_true (by first | (with_reducible assumption) | assumption) | (have e_ := (Kd.V_reads' HL605_0.out).1; omega))
                    obtain ⟨ua608_2, uc608_2, rfl, ul608_2, ge608_2⟩ := k30_openF hMe608
                    have hv608_2 := hcc608 2 _ rfl
                    rw [add_field _ _ 2 (by omega)] at hv608_2
                    replace hv608_2 := Option.some.inj (hv608_2.symm.trans hx608_2)
                    injection hv608_2 with hva_ hvn_ hvc_
                    rw [hva_] at ge608_2
                    rw [hvc_] at ul608_2
                    have HL608_2 := Aside0.mk (show Kd.V k38 38 _ w.heap.size _ _ ((rd_T30 (rd_L13 t557 t561) t607).f2) from Kd.V_mk ul608_2 ge608_2)
                    clear hva_ hvn_ hvc_ ge608_2 ul608_2; clear hcc608 hce608; have HR608_2 := Aside0.mk hi608_2; have HC608_2 := Aside0.mk hl608_2; clear hi608_2 hl608_2; replace p608 := eq_true p608; replace q608 := eq_true q608
                    refine start_ (n := 18) (S := fun w' => w'.cell? (ad605.add (t561).toNat) = some (.slice (some ad608) (rd_L13 t557 t561).length c605_0) ∧ w'.cell? (ad605.add (t561).toNat) = some (.slice (some ad608) (rd_L13 t557 t561).length c605_0) ∧ w'.cell? (ad608.add ((t607).toNat * 3)) = some (.string ((rd_T30 (rd_L13 t557 t561) t607).f0)) ∧ w'.cell? ⟨(ad608.add ((t607).toNat * 3)).block, (ad608.add ((t607).toNat * 3)).off + 1, none⟩ = some (.bool ((rd_T30 (rd_L13 t557 t561) t607).f1)) ∧ w'.cell? ⟨(ad608.add ((t607).toNat * 3)).block, (ad608.add ((t607).toNat * 3)).off + 2, none⟩ = some (.slice A608_2 ((rd_T30 (rd_L13 t557 t561) t607).f2).length c608_2)) (ds := []) #[false, false, false, false, false, false, false, false, false, false, false, false, false, false, false, false, false, false] (by kernel_rfl) rfl rfl ⟨hx605_0, hx606_0, hx608_0, hx608_1, hx608_2⟩ (fun hHeld => ?_); refine with_tabW laws_FnPickStrong.tab17 laws_FnPickStrong.bits17 (fun HT_ HW_ => ?_)
                    generalize w59.drew = w191 at HO_3 HO583 HO601 HB HL605_0 HL606_0 HR605_0 HR606_0 hx605_0 hx606_0 hHeld ⊢
                    refine pure_ (i := 0) (N := some 112) (v := ?_) (a' := ?_) #[true, false, false, false, false, false, false, false, false, false, false, false, false, false, false, false, false, false] rfl rfl (any_of HT_.out (by kernel_rfl)) (fun _ _ _ h => h) (Or.inl ⟨by rfl, ?_⟩) ?_ ?_
                    rotate_left
                    · intro w'
                      go_simp
                      with_reducible rfl
                    rotate_left
                    · simp only [Act.put, List.setIfInBounds_toArray, List.set_cons_zero, List.set_cons_succ, i64_w, i32_w]
                      rfl
                    refine pure_ (i := 1) (N := some 113) (v := ?_) (a' := ?_) #[true, true, false, false, false, false, false, false, false, false, false, false, false, false, false, false, false, false] rfl rfl (any_of HT_.out (by kernel_rfl)) (fun _ _ _ h => h) (Or.inl ⟨by rfl, ?_⟩) ?_ ?_
                    rotate_left
                    · intro w'
                      go_simp
                      with_reducible rfl
                    rotate_left
                    · simp only [Act.put, List.setIfInBounds_toArray, List.set_cons_zero, List.set_cons_succ, i64_w, i32_w]
                      rfl
                    refine pure_ (i := 2) (N := some 114) (v := ?_) (a' := ?_) #[true, true, true, false, false, false, false, false, false, false, false, false, false, false, false, false, false, false] rfl rfl (any_of HT_.out (by kernel_rfl)) (fun _ _ _ h => h) (Or.inl ⟨by rfl, ?_⟩) ?_ ?_
                    rotate_left
                    · intro w'
                      go_simp
                      with_reducible rfl
                    rotate_left
                    · simp only [Act.put, List.setIfInBounds_toArray, List.set_cons_zero, List.set_cons_succ, i64_w, i32_w]
                      rfl
                    refine pure_ (i := 3) (N := some 115) (v := ?_) (a' := ?_) #[true, true, true, true, false, false, false, false, false, false, false, false, false, false, false, false, false, false] rfl rfl (any_of HT_.out (by kernel_rfl)) (fun _ _ _ h => h) (Or.inl ⟨by rfl, ?_⟩) ?_ ?_
                    rotate_left
                    · intro w'
                      go_simp
                      with_reducible rfl
                    rotate_left
                    · simp only [Act.put, List.setIfInBounds_toArray, List.set_cons_zero, List.set_cons_succ, i64_w, i32_w]
                      rfl
                    refine pure_ (i := 4) (N := some 116) (v := ?_) (a' := ?_) #[true, true, true, true, true, false, false, false, false, false, false, false, false, false, false, false, false, false] rfl rfl (any_of HT_.out (by kernel_rfl)) (fun _ _ _ h => h) (Or.inl ⟨by rfl, ?_⟩) ?_ ?_
                    rotate_left
                    · intro w'
                      go_simp
                      with_reducible rfl
                    rotate_left
                    · simp only [Act.put, List.setIfInBounds_toArray, List.set_cons_zero, List.set_cons_succ, i64_w, i32_w]
                      rfl
                    refine pure_ (i := 6) (N := some 118) (v := ?_) (a' := ?_) #[true, true, true, true, true, false, true, false, false, false, false, false, false, false, false, false, false, false] rfl rfl (any_of HT_.out (by kernel_rfl)) (fun _ _ _ h => h) (Or.inl ⟨by rfl, ?_⟩) ?_ ?_
                    rotate_left
                    · intro w'
                      go_simp
                      with_reducible rfl
                    rotate_left
                    · simp only [Act.put, List.setIfInBounds_toArray, List.set_cons_zero, List.set_cons_succ, i64_w, i32_w]
                      rfl
                    refine pure_ (i := 7) (N := some 119) (v := ?_) (a' := ?_) #[true, true, true, true, true, false, true, true, false, false, false, false, false, false, false, false, false, false] rfl rfl (any_of HT_.out (by kernel_rfl)) (fun _ _ _ h => h) (Or.inl ⟨by rfl, ?_⟩) ?_ ?_
                    rotate_left
                    · intro w'
                      go_simp
                      with_reducible rfl
                    rotate_left
                    · simp only [Act.put, List.setIfInBounds_toArray, List.set_cons_zero, List.set_cons_succ, i64_w, i32_w]
                      rfl
                    refine pure_ (i := 8) (N := some 120) (v := ?_) (a' := ?_) #[true, true, true, true, true, false, true, true, true, false, false, false, false, false, false, false, false, false] rfl rfl (any_of HT_.out (by kernel_rfl)) (fun _ _ _ h => h) (Or.inl ⟨by rfl, ?_⟩) ?_ ?_
                    rotate_left
                    · intro w'
                      go_simp
                      with_reducible rfl
                    rotate_left
                    · simp only [Act.put, List.setIfInBounds_toArray, List.set_cons_zero, List.set_cons_succ, i64_w, i32_w]
                      rfl
                    refine pure_ (i := 10) (N := some 122) (v := ?_) (a' := ?_) #[true, true, true, true, true, false, true, true, true, false, true, false, false, false, false, false, false, false] rfl rfl (any_of HT_.out (by kernel_rfl)) (fun _ _ _ h => h) (Or.inl ⟨by rfl, ?_⟩) ?_ ?_
                    rotate_left
                    · intro w'
                      go_simp
                      with_reducible rfl
                    rotate_left
                    · simp only [Act.put, List.setIfInBounds_toArray, List.set_cons_zero, List.set_cons_succ, i64_w, i32_w]
                      rfl
                    refine take_ (i := 5) (N := some 117) (v := ?_) (a' := ?_) #[true, true, true, true, true, true, true, true, true, false, true, false, false, false, false, false, false, false] rfl rfl (take_ofW HT_.out HW_.out (by kernel_rfl)) (fun _ _ _ h => h) (Or.inl ⟨by rfl, ?_⟩) hHeld ?_ ?_
                    rotate_left
                    · rintro w' ⟨s0, s1, s2, s3, s4⟩
                      go_simp
                      with_reducible rfl
                    rotate_left
                    · simp only [Act.put, List.setIfInBounds_toArray, List.set_cons_zero, List.set_cons_succ, i64_w, i32_w]
                      rfl
                    refine take_ (i := 9) (N := some 121) (v := ?_) (a' := ?_) #[true, true, true, true, true, true, true, true, true, true, true, false, false, false, false, false, false, false] rfl rfl (take_ofW HT_.out HW_.out (by kernel_rfl)) (fun _ _ _ h => h) (Or.inl ⟨by rfl, ?_⟩) hHeld ?_ ?_
                    rotate_left
                    · rintro w' ⟨s0, s1, s2, s3, s4⟩
                      go_simp
                      with_reducible rfl
                    rotate_left
                    · simp only [Act.put, List.setIfInBounds_toArray, List.set_cons_zero, List.set_cons_succ, i64_w, i32_w]
                      rfl
                    refine one_ (i := 11) (N := some 123) #[true, true, true, true, true, true, true, true, true, true, true, true, false, false, false, false, false, false] rfl rfl (one_of HT_.out (by kernel_rfl)) (by decide) (fun K hK => ?_)
                    refine goes_ Try.func16 (by kernel_rfl) rfl #[.slice (some ad608) (rd_L13 t557 t561).length c605_0, .string t560] (by rfl) rfl rfl (by (try simp only [List.map_toArray, List.map_cons, List.map_nil]); first | done | rfl | (simp only [List.length_drop, List.length_take]; rfl)) ?_
                    with_reducible refine (impl_UnitFind.calls k4 _ _ (rd_L13 t557 t561) t560 t607 _ ?side1 ?side2 A28.out).mono ?_
                    (case side1 => repeat (first | exact (by repeat (first | (with_reducible exact HR606_0.out) | (with_reducible refine Kd.C_alloc ?_ _) | (with_reducible refine Kd.C_drewN ?_ _) | (with_reducible refine Kd.C_drew ?_) | exact HR606_0.out)) | (with_reducible refine Kd.C_alloc ?_ _) | (with_reducible refine Kd.C_drewN ?_ _) | (with_reducible refine Kd.C_drew ?_)))
                    (case side2 => exact HC606_0.out)
                    rintro e w192 ⟨rfl, hb⟩
                    have HS0_ := (hb.cell (World.block_lt_of_cell? _ _ (hHeld.1))).trans (hHeld.1)
                    have HS1_ := (hb.cell (World.block_lt_of_cell? _ _ (hHeld.2.1))).trans (hHeld.2.1)
                    have HS2_ := (hb.cell (World.block_lt_of_cell? _ _ (hHeld.2.2.1))).trans (hHeld.2.2.1)
                    have HS3_ := (hb.cell (World.block_lt_of_cell? _ _ (hHeld.2.2.2.1))).trans (hHeld.2.2.2.1)
                    have HS4_ := (hb.cell (World.block_lt_of_cell? _ _ (hHeld.2.2.2.2))).trans (hHeld.2.2.2.2)
                    refine ⟨_, rfl, ?_⟩
                    have n0_ := Aside0.mk (Kd.N_below (by (with_reducible repeat (first | apply Kd.N_alloc | apply Kd.N_drewN | apply Kd.N_drew)); exact HO_3.out) hb)
                    have n1_ := Aside0.mk (Kd.N_below (by (with_reducible repeat (first | apply Kd.N_alloc | apply Kd.N_drewN | apply Kd.N_drew)); exact HO583.out) hb)
                    have n2_ := Aside0.mk (Kd.N_below (by (with_reducible repeat (first | apply Kd.N_alloc | apply Kd.N_drewN | apply Kd.N_drew)); exact HO601.out) hb)
                    have n3_ := Aside0.mk (Kd.V_below (by (with_reducible repeat (first | apply Kd.V_alloc | apply Kd.V_drewN | apply Kd.V_drew)); exact HL605_0.out) hb)
                    have n4_ := Aside0.mk (Kd.V_below (by (with_reducible repeat (first | apply Kd.V_alloc | apply Kd.V_drewN | apply Kd.V_drew)); exact HL606_0.out) hb)
                    have n5_ := Aside0.mk (Kd.C_below (by repeat (first | (with_reducible exact HR605_0.out) | (with_reducible refine Kd.C_alloc ?_ _) | (with_reducible refine Kd.C_drewN ?_ _) | (with_reducible refine Kd.C_drew ?_) | exact HR605_0.out)) hb)
                    have n6_ := Aside0.mk (Kd.C_below (by repeat (first | (with_reducible exact HR606_0.out) | (with_reducible refine Kd.C_alloc ?_ _) | (with_reducible refine Kd.C_drewN ?_ _) | (with_reducible refine Kd.C_drew ?_) | exact HR606_0.out)) hb)
                    have n7_ := Aside0.mk (below_step (by repeat (first | (with_reducible first | exact HB.out | apply below_alloc | apply pw_below_drewN | apply below_drew1) | exact HB.out)) hb)
                    clear HO_3 HO583 HO601 HL605_0 HL606_0 HR605_0 HR606_0; clear HB
                    have HO_3 := n0_
                    have HO583 := n1_
                    have HO601 := n2_
                    have HL605_0 := n3_
                    have HL606_0 := n4_
                    have HR605_0 := n5_
                    have HR606_0 := n6_
                    have HB := n7_
                    clear n0_ n1_ n2_ n3_ n4_ n5_ n6_ n7_
                    (try clear hb)
                    (try clear hb2)
                    (try clear hk)
                    (try clear hi)
                    refine hK.out _ _ ⟨HS0_, HS1_, HS2_, HS3_, HS4_⟩ (fun hHeld => ?_)
                    clear hK K
                    refine norm_ (a' := ?_) ?_ ?_
                    rotate_left
                    · show Act.put _ (some 123) _ = _
                      simp only [Act.put, List.setIfInBounds_toArray, List.set_cons_zero, List.set_cons_succ, i64_w, i32_w]
                      rfl
                    refine pure_ (i := 12) (N := some 124) (v := ?_) (a' := ?_) #[true, true, true, true, true, true, true, true, true, true, true, true, true, false, false, false, false, false] rfl rfl (any_of HT_.out (by kernel_rfl)) (fun _ _ _ h => h) (Or.inl ⟨by rfl, ?_⟩) ?_ ?_
                    rotate_left
                    · intro w'
                      go_simp
                      with_reducible rfl
                    rotate_left
                    · simp only [Act.put, List.setIfInBounds_toArray, List.set_cons_zero, List.set_cons_succ, i64_w, i32_w]
                      rfl
                    refine pure_ (i := 13) (N := some 125) (v := ?_) (a' := ?_) #[true, true, true, true, true, true, true, true, true, true, true, true, true, true, false, false, false, false] rfl rfl (any_of HT_.out (by kernel_rfl)) (fun _ _ _ h => h) (Or.inl ⟨by rfl, ?_⟩) ?_ ?_
                    rotate_left
                    · intro w'
                      go_simp
                      with_reducible rfl
                    rotate_left
                    · simp only [Act.put, List.setIfInBounds_toArray, List.set_cons_zero, List.set_cons_succ, i64_w, i32_w]
                      rfl
                    refine take_ (i := 14) (N := some 126) (v := ?_) (a' := ?_) #[true, true, true, true, true, true, true, true, true, true, true, true, true, true, true, false, false, false] rfl rfl (take_ofW HT_.out HW_.out (by kernel_rfl)) (fun _ _ _ h => h) (Or.inl ⟨by rfl, ?_⟩) hHeld ?_ ?_
                    rotate_left
                    · rintro w' ⟨s0, s1, s2, s3, s4⟩
                      go_simp
                      with_reducible rfl
                    rotate_left
                    · simp only [Act.put, List.setIfInBounds_toArray, List.set_cons_zero, List.set_cons_succ, i64_w, i32_w]
                      rfl
                    refine pure_ (i := 15) (N := some 127) (v := ?_) (a' := ?_) #[true, true, true, true, true, true, true, true, true, true, true, true, true, true, true, true, false, false] rfl rfl (any_of HT_.out (by kernel_rfl)) (fun _ _ _ h => h) (Or.inl ⟨by rfl, ?_⟩) ?_ ?_
                    rotate_left
                    · intro w'
                      go_simp
                      with_reducible rfl
                    rotate_left
                    · simp only [Act.put, List.setIfInBounds_toArray, List.set_cons_zero, List.set_cons_succ, i64_w, i32_w]
                      rfl
                    refine pure_ (i := 16) (N := some 128) (v := ?_) (a' := ?_) #[true, true, true, true, true, true, true, true, true, true, true, true, true, true, true, true, true, false] rfl rfl (any_of HT_.out (by kernel_rfl)) (fun _ _ _ h => h) (Or.inl ⟨by rfl, ?_⟩) ?_ ?_
                    rotate_left
                    · intro w'
                      go_simp
                      with_reducible rfl
                    rotate_left
                    · simp only [Act.put, List.setIfInBounds_toArray, List.set_cons_zero, List.set_cons_succ, i64_w, i32_w]
                      rfl
                    refine pure_ (i := 17) (N := some 20) (v := ?_) (a' := ?_) #[true, true, true, true, true, true, true, true, true, true, true, true, true, true, true, true, true, true] rfl rfl (any_of HT_.out (by kernel_rfl)) (fun _ _ _ h => h) (Or.inl ⟨by rfl, ?_⟩) ?_ ?_
                    rotate_left
                    · intro w'
                      go_simp
                      with_reducible rfl
                    rotate_left
                    · simp only [Act.put, List.setIfInBounds_toArray, List.set_cons_zero, List.set_cons_succ, i64_w, i32_w]
                      rfl
                    refine done_ (done_of HT_.out (by kernel_rfl)) ?_
                    try go_wp2
                    go_ret
                    exact ⟨by first | rfl | (simp [errW_none, errW_some] <;> rfl) | (simp [*, errW_none, errW_some] <;> rfl), by repeat (first | (with_reducible first | exact HB.out | apply below_alloc | apply pw_below_drewN | apply below_drew1) | exact HB.out)⟩
                  rw [if_neg c30] at H
                  exact absurd H (by simp)
                rw [if_neg c29] at H
                exact absurd H (by simp)
              rw [if_neg c27] at H
              exact absurd H (by simp)
            rw [if_neg c26] at H
            exact absurd H (by simp)
          replace c25 := Bool.eq_false_iff.mpr c25
          subst c25
          have H1 : (if t586 = true then (if t604 = true then (if t584 = (t557.length : Int) then (some (t602 == (t557.length : Int))) else (some false)) else (some false)) else (some false)) = some r := by rw [if_neg (show ¬ (false = true) by decide)] at H; exact H
          clear H
          have H := H1
          clear H1
          by_cases c193 : t586 = true
          · subst c193
            have H1 : (if t604 = true then (if t584 = (t557.length : Int) then (some (t602 == (t557.length : Int))) else (some false)) else (some false)) = some r := by rw [if_pos rfl] at H; exact H
            clear H
            have H := H1
            clear H1
            by_cases c194 : t604 = true
            · subst c194
              have H1 : (if t584 = (t557.length : Int) then (some (t602 == (t557.length : Int))) else (some false)) = some r := by rw [if_pos rfl] at H; exact H
              clear H
              have H := H1
              clear H1
              by_cases c195 : t584 = (t557.length : Int)
              · rw [if_pos c195] at H
                have c195b0 : (t584 == (t557.length : Int)) = true := beq_iff_eq.mpr c195
                have c195b1 : (t584 != (t557.length : Int)) = false := bne_eq_false_iff_eq.mpr c195
                clear c195
                obtain rfl := Option.some.inj H
                have n0_ := Aside0.mk (Kd.N_drew HO_3.out)
                have n1_ := Aside0.mk (Kd.N_drew HO583.out)
                have n2_ := Aside0.mk (Kd.N_drew HO601.out)
                have n3_ := Aside0.mk (below_drew1 HB.out)
                clear HO_3 HO583 HO601; clear HB
                have HO_3 := n0_
                have HO583 := n1_
                have HO601 := n2_
                have HB := n3_
                clear n0_ n1_ n2_ n3_
                refine start_ (n := 18) (S := fun w' => True) (ds := []) #[false, false, false, false, false, false, false, false, false, false, false, false, false, false, false, false, false, false] (by kernel_rfl) rfl rfl trivial (fun hHeld => ?_); refine with_tabW laws_FnPickStrong.tab17 laws_FnPickStrong.bits17 (fun HT_ HW_ => ?_)
                generalize w59.drew = w220 at HO_3 HO583 HO601 HB hHeld ⊢
                refine pure_ (i := 0) (N := some 112) (v := ?_) (a' := ?_) #[true, false, false, false, false, false, false, false, false, false, false, false, false, false, false, false, false, false] rfl rfl (any_of HT_.out (by kernel_rfl)) (fun _ _ _ h => h) (Or.inl ⟨by rfl, ?_⟩) ?_ ?_
                rotate_left
                · intro w'
                  go_simp
                  with_reducible rfl
                rotate_left
                · simp only [Act.put, List.setIfInBounds_toArray, List.set_cons_zero, List.set_cons_succ, i64_w, i32_w]
                  rfl
                refine pure_ (i := 1) (N := some 113) (v := ?_) (a' := ?_) #[true, true, false, false, false, false, false, false, false, false, false, false, false, false, false, false, false, false] rfl rfl (any_of HT_.out (by kernel_rfl)) (fun _ _ _ h => h) (Or.inl ⟨by rfl, ?_⟩) ?_ ?_
                rotate_left
                · intro w'
                  go_simp
                  with_reducible rfl
                rotate_left
                · simp only [Act.put, List.setIfInBounds_toArray, List.set_cons_zero, List.set_cons_succ, i64_w, i32_w]
                  rfl
                refine pure_ (i := 2) (N := some 114) (v := undef) (a' := ?_) #[true, true, true, false, false, false, false, false, false, false, false, false, false, false, false, false, false, false] rfl rfl (any_of HT_.out (by kernel_rfl)) (fun _ _ _ h => h) (Or.inr ⟨by rfl, rfl⟩) ?_ ?_
                rotate_left
                · simp only [Act.put, List.setIfInBounds_toArray, List.set_cons_zero, List.set_cons_succ, i64_w, i32_w]
                  rfl
                refine pure_ (i := 3) (N := some 115) (v := undef) (a' := ?_) #[true, true, true, true, false, false, false, false, false, false, false, false, false, false, false, false, false, false] rfl rfl (any_of HT_.out (by kernel_rfl)) (fun _ _ _ h => h) (Or.inr ⟨by rfl, rfl⟩) ?_ ?_
                rotate_left
                · simp only [Act.put, List.setIfInBounds_toArray, List.set_cons_zero, List.set_cons_succ, i64_w, i32_w]
                  rfl
                refine pure_ (i := 4) (N := some 116) (v := undef) (a' := ?_) #[true, true, true, true, true, false, false, false, false, false, false, false, false, false, false, false, false, false] rfl rfl (any_of HT_.out (by kernel_rfl)) (fun _ _ _ h => h) (Or.inr ⟨by rfl, rfl⟩) ?_ ?_
                rotate_left
                · simp only [Act.put, List.setIfInBounds_toArray, List.set_cons_zero, List.set_cons_succ, i64_w, i32_w]
                  rfl
                refine pure_ (i := 5) (N := some 117) (v := undef) (a' := ?_) #[true, true, true, true, true, true, false, false, false, false, false, false, false, false, false, false, false, false] rfl rfl (any_of HT_.out (by kernel_rfl)) (fun _ _ _ h => h) (Or.inr ⟨by rfl, rfl⟩) ?_ ?_
                rotate_left
                · simp only [Act.put, List.setIfInBounds_toArray, List.set_cons_zero, List.set_cons_succ, i64_w, i32_w]
                  rfl
                refine pure_ (i := 6) (N := some 118) (v := undef) (a' := ?_) #[true, true, true, true, true, true, true, false, false, false, false, false, false, false, false, false, false, false] rfl rfl (any_of HT_.out (by kernel_rfl)) (fun _ _ _ h => h) (Or.inr ⟨by rfl, rfl⟩) ?_ ?_
                rotate_left
                · simp only [Act.put, List.setIfInBounds_toArray, List.set_cons_zero, List.set_cons_succ, i64_w, i32_w]
                  rfl
                refine pure_ (i := 7) (N := some 119) (v := undef) (a' := ?_) #[true, true, true, true, true, true, true, true, false, false, false, false, false, false, false, false, false, false] rfl rfl (any_of HT_.out (by kernel_rfl)) (fun _ _ _ h => h) (Or.inr ⟨by rfl, rfl⟩) ?_ ?_
                rotate_left
                · simp only [Act.put, List.setIfInBounds_toArray, List.set_cons_zero, List.set_cons_succ, i64_w, i32_w]
                  rfl
                refine pure_ (i := 8) (N := some 120) (v := undef) (a' := ?_) #[true, true, true, true, true, true, true, true, true, false, false, false, false, false, false, false, false, false] rfl rfl (any_of HT_.out (by kernel_rfl)) (fun _ _ _ h => h) (Or.inr ⟨by rfl, rfl⟩) ?_ ?_
                rotate_left
                · simp only [Act.put, List.setIfInBounds_toArray, List.set_cons_zero, List.set_cons_succ, i64_w, i32_w]
                  rfl
                refine pure_ (i := 9) (N := some 121) (v := undef) (a' := ?_) #[true, true, true, true, true, true, true, true, true, true, false, false, false, false, false, false, false, false] rfl rfl (any_of HT_.out (by kernel_rfl)) (fun _ _ _ h => h) (Or.inr ⟨by rfl, rfl⟩) ?_ ?_
                rotate_left
                · simp only [Act.put, List.setIfInBounds_toArray, List.set_cons_zero, List.set_cons_succ, i64_w, i32_w]
                  rfl
                refine pure_ (i := 10) (N := some 122) (v := undef) (a' := ?_) #[true, true, true, true, true, true, true, true, true, true, true, false, false, false, false, false, false, false] rfl rfl (any_of HT_.out (by kernel_rfl)) (fun _ _ _ h => h) (Or.inr ⟨by rfl, rfl⟩) ?_ ?_
                rotate_left
                · simp only [Act.put, List.setIfInBounds_toArray, List.set_cons_zero, List.set_cons_succ, i64_w, i32_w]
                  rfl
                refine pure_ (i := 11) (N := some 123) (v := undef) (a' := ?_) #[true, true, true, true, true, true, true, true, true, true, true, true, false, false, false, false, false, false] rfl rfl (any_of HT_.out (by kernel_rfl)) (fun _ _ _ h => h) (Or.inr ⟨by rfl, rfl⟩) ?_ ?_
                rotate_left
                · simp only [Act.put, List.setIfInBounds_toArray, List.set_cons_zero, List.set_cons_succ, i64_w, i32_w]
                  rfl
                refine pure_ (i := 12) (N := some 124) (v := undef) (a' := ?_) #[true, true, true, true, true, true, true, true, true, true, true, true, true, false, false, false, false, false] rfl rfl (any_of HT_.out (by kernel_rfl)) (fun _ _ _ h => h) (Or.inr ⟨by rfl, rfl⟩) ?_ ?_
                rotate_left
                · simp only [Act.put, List.setIfInBounds_toArray, List.set_cons_zero, List.set_cons_succ, i64_w, i32_w]
                  rfl
                refine pure_ (i := 13) (N := some 125) (v := undef) (a' := ?_) #[true, true, true, true, true, true, true, true, true, true, true, true, true, true, false, false, false, false] rfl rfl (any_of HT_.out (by kernel_rfl)) (fun _ _ _ h => h) (Or.inr ⟨by rfl, rfl⟩) ?_ ?_
                rotate_left
                · simp only [Act.put, List.setIfInBounds_toArray, List.set_cons_zero, List.set_cons_succ, i64_w, i32_w]
                  rfl
                refine pure_ (i := 14) (N := some 126) (v := undef) (a' := ?_) #[true, true, true, true, true, true, true, true, true, true, true, true, true, true, true, false, false, false] rfl rfl (any_of HT_.out (by kernel_rfl)) (fun _ _ _ h => h) (Or.inr ⟨by rfl, rfl⟩) ?_ ?_
                rotate_left
                · simp only [Act.put, List.setIfInBounds_toArray, List.set_cons_zero, List.set_cons_succ, i64_w, i32_w]
                  rfl
                refine pure_ (i := 15) (N := some 127) (v := undef) (a' := ?_) #[true, true, true, true, true, true, true, true, true, true, true, true, true, true, true, true, false, false] rfl rfl (any_of HT_.out (by kernel_rfl)) (fun _ _ _ h => h) (Or.inr ⟨by rfl, rfl⟩) ?_ ?_
                rotate_left
                · simp only [Act.put, List.setIfInBounds_toArray, List.set_cons_zero, List.set_cons_succ, i64_w, i32_w]
                  rfl
                refine pure_ (i := 16) (N := some 128) (v := ?_) (a' := ?_) #[true, true, true, true, true, true, true, true, true, true, true, true, true, true, true, true, true, false] rfl rfl (any_of HT_.out (by kernel_rfl)) (fun _ _ _ h => h) (Or.inl ⟨by rfl, ?_⟩) ?_ ?_
                rotate_left
                · intro w'
                  go_simp
                  with_reducible rfl
                rotate_left
                · simp only [Act.put, List.setIfInBounds_toArray, List.set_cons_zero, List.set_cons_succ, i64_w, i32_w]
                  rfl
                refine pure_ (i := 17) (N := some 20) (v := ?_) (a' := ?_) #[true, true, true, true, true, true, true, true, true, true, true, true, true, true, true, true, true, true] rfl rfl (any_of HT_.out (by kernel_rfl)) (fun _ _ _ h => h) (Or.inl ⟨by rfl, ?_⟩) ?_ ?_
                rotate_left
                · intro w'
                  go_simp
                  with_reducible rfl
                rotate_left
                · simp only [Act.put, List.setIfInBounds_toArray, List.set_cons_zero, List.set_cons_succ, i64_w, i32_w]
                  rfl
                refine done_ (done_of HT_.out (by kernel_rfl)) ?_
                try go_wp2
                go_ret
                exact ⟨by first | rfl | (simp [errW_none, errW_some] <;> rfl) | (simp [*, errW_none, errW_some] <;> rfl), by repeat (first | (with_reducible first | exact HB.out | apply below_alloc | apply pw_below_drewN | apply below_drew1) | exact HB.out)⟩
              rw [if_neg c195] at H
              have c195b0 : (t584 == (t557.length : Int)) = false := beq_eq_false_iff_ne.mpr c195
              have c195b1 : (t584 != (t557.length : Int)) = true := bne_iff_ne.mpr c195
              obtain rfl := Option.some.inj H
              have n0_ := Aside0.mk (Kd.N_drew HO_3.out)
              have n1_ := Aside0.mk (Kd.N_drew HO583.out)
              have n2_ := Aside0.mk (Kd.N_drew HO601.out)
              have n3_ := Aside0.mk (below_drew1 HB.out)
              clear HO_3 HO583 HO601; clear HB
              have HO_3 := n0_
              have HO583 := n1_
              have HO601 := n2_
              have HB := n3_
              clear n0_ n1_ n2_ n3_
              refine start_ (n := 18) (S := fun w' => True) (ds := []) #[false, false, false, false, false, false, false, false, false, false, false, false, false, false, false, false, false, false] (by kernel_rfl) rfl rfl trivial (fun hHeld => ?_); refine with_tabW laws_FnPickStrong.tab17 laws_FnPickStrong.bits17 (fun HT_ HW_ => ?_)
              generalize w59.drew = w245 at HO_3 HO583 HO601 HB hHeld ⊢
              refine pure_ (i := 0) (N := some 112) (v := ?_) (a' := ?_) #[true, false, false, false, false, false, false, false, false, false, false, false, false, false, false, false, false, false] rfl rfl (any_of HT_.out (by kernel_rfl)) (fun _ _ _ h => h) (Or.inl ⟨by rfl, ?_⟩) ?_ ?_
              rotate_left
              · intro w'
                go_simp
                with_reducible rfl
              rotate_left
              · simp only [Act.put, List.setIfInBounds_toArray, List.set_cons_zero, List.set_cons_succ, i64_w, i32_w]
                rfl
              refine pure_ (i := 1) (N := some 113) (v := ?_) (a' := ?_) #[true, true, false, false, false, false, false, false, false, false, false, false, false, false, false, false, false, false] rfl rfl (any_of HT_.out (by kernel_rfl)) (fun _ _ _ h => h) (Or.inl ⟨by rfl, ?_⟩) ?_ ?_
              rotate_left
              · intro w'
                go_simp
                with_reducible rfl
              rotate_left
              · simp only [Act.put, List.setIfInBounds_toArray, List.set_cons_zero, List.set_cons_succ, i64_w, i32_w]
                rfl
              refine pure_ (i := 2) (N := some 114) (v := undef) (a' := ?_) #[true, true, true, false, false, false, false, false, false, false, false, false, false, false, false, false, false, false] rfl rfl (any_of HT_.out (by kernel_rfl)) (fun _ _ _ h => h) (Or.inr ⟨by rfl, rfl⟩) ?_ ?_
              rotate_left
              · simp only [Act.put, List.setIfInBounds_toArray, List.set_cons_zero, List.set_cons_succ, i64_w, i32_w]
                rfl
              refine pure_ (i := 3) (N := some 115) (v := undef) (a' := ?_) #[true, true, true, true, false, false, false, false, false, false, false, false, false, false, false, false, false, false] rfl rfl (any_of HT_.out (by kernel_rfl)) (fun _ _ _ h => h) (Or.inr ⟨by rfl, rfl⟩) ?_ ?_
              rotate_left
              · simp only [Act.put, List.setIfInBounds_toArray, List.set_cons_zero, List.set_cons_succ, i64_w, i32_w]
                rfl
              refine pure_ (i := 4) (N := some 116) (v := undef) (a' := ?_) #[true, true, true, true, true, false, false, false, false, false, false, false, false, false, false, false, false, false] rfl rfl (any_of HT_.out (by kernel_rfl)) (fun _ _ _ h => h) (Or.inr ⟨by rfl, rfl⟩) ?_ ?_
              rotate_left
              · simp only [Act.put, List.setIfInBounds_toArray, List.set_cons_zero, List.set_cons_succ, i64_w, i32_w]
                rfl
              refine pure_ (i := 5) (N := some 117) (v := undef) (a' := ?_) #[true, true, true, true, true, true, false, false, false, false, false, false, false, false, false, false, false, false] rfl rfl (any_of HT_.out (by kernel_rfl)) (fun _ _ _ h => h) (Or.inr ⟨by rfl, rfl⟩) ?_ ?_
              rotate_left
              · simp only [Act.put, List.setIfInBounds_toArray, List.set_cons_zero, List.set_cons_succ, i64_w, i32_w]
                rfl
              refine pure_ (i := 6) (N := some 118) (v := undef) (a' := ?_) #[true, true, true, true, true, true, true, false, false, false, false, false, false, false, false, false, false, false] rfl rfl (any_of HT_.out (by kernel_rfl)) (fun _ _ _ h => h) (Or.inr ⟨by rfl, rfl⟩) ?_ ?_
              rotate_left
              · simp only [Act.put, List.setIfInBounds_toArray, List.set_cons_zero, List.set_cons_succ, i64_w, i32_w]
                rfl
              refine pure_ (i := 7) (N := some 119) (v := undef) (a' := ?_) #[true, true, true, true, true, true, true, true, false, false, false, false, false, false, false, false, false, false] rfl rfl (any_of HT_.out (by kernel_rfl)) (fun _ _ _ h => h) (Or.inr ⟨by rfl, rfl⟩) ?_ ?_
              rotate_left
              · simp only [Act.put, List.setIfInBounds_toArray, List.set_cons_zero, List.set_cons_succ, i64_w, i32_w]
                rfl
              refine pure_ (i := 8) (N := some 120) (v := undef) (a' := ?_) #[true, true, true, true, true, true, true, true, true, false, false, false, false, false, false, false, false, false] rfl rfl (any_of HT_.out (by kernel_rfl)) (fun _ _ _ h => h) (Or.inr ⟨by rfl, rfl⟩) ?_ ?_
              rotate_left
              · simp only [Act.put, List.setIfInBounds_toArray, List.set_cons_zero, List.set_cons_succ, i64_w, i32_w]
                rfl
              refine pure_ (i := 9) (N := some 121) (v := undef) (a' := ?_) #[true, true, true, true, true, true, true, true, true, true, false, false, false, false, false, false, false, false] rfl rfl (any_of HT_.out (by kernel_rfl)) (fun _ _ _ h => h) (Or.inr ⟨by rfl, rfl⟩) ?_ ?_
              rotate_left
              · simp only [Act.put, List.setIfInBounds_toArray, List.set_cons_zero, List.set_cons_succ, i64_w, i32_w]
                rfl
              refine pure_ (i := 10) (N := some 122) (v := undef) (a' := ?_) #[true, true, true, true, true, true, true, true, true, true, true, false, false, false, false, false, false, false] rfl rfl (any_of HT_.out (by kernel_rfl)) (fun _ _ _ h => h) (Or.inr ⟨by rfl, rfl⟩) ?_ ?_
              rotate_left
              · simp only [Act.put, List.setIfInBounds_toArray, List.set_cons_zero, List.set_cons_succ, i64_w, i32_w]
                rfl
              refine pure_ (i := 11) (N := some 123) (v := undef) (a' := ?_) #[true, true, true, true, true, true, true, true, true, true, true, true, false, false, false, false, false, false] rfl rfl (any_of HT_.out (by kernel_rfl)) (fun _ _ _ h => h) (Or.inr ⟨by rfl, rfl⟩) ?_ ?_
              rotate_left
              · simp only [Act.put, List.setIfInBounds_toArray, List.set_cons_zero, List.set_cons_succ, i64_w, i32_w]
                rfl
              refine pure_ (i := 12) (N := some 124) (v := undef) (a' := ?_) #[true, true, true, true, true, true, true, true, true, true, true, true, true, false, false, false, false, false] rfl rfl (any_of HT_.out (by kernel_rfl)) (fun _ _ _ h => h) (Or.inr ⟨by rfl, rfl⟩) ?_ ?_
              rotate_left
              · simp only [Act.put, List.setIfInBounds_toArray, List.set_cons_zero, List.set_cons_succ, i64_w, i32_w]
                rfl
              refine pure_ (i := 13) (N := some 125) (v := undef) (a' := ?_) #[true, true, true, true, true, true, true, true, true, true, true, true, true, true, false, false, false, false] rfl rfl (any_of HT_.out (by kernel_rfl)) (fun _ _ _ h => h) (Or.inr ⟨by rfl, rfl⟩) ?_ ?_
              rotate_left
              · simp only [Act.put, List.setIfInBounds_toArray, List.set_cons_zero, List.set_cons_succ, i64_w, i32_w]
                rfl
              refine pure_ (i := 14) (N := some 126) (v := undef) (a' := ?_) #[true, true, true, true, true, true, true, true, true, true, true, true, true, true, true, false, false, false] rfl rfl (any_of HT_.out (by kernel_rfl)) (fun _ _ _ h => h) (Or.inr ⟨by rfl, rfl⟩) ?_ ?_
              rotate_left
              · simp only [Act.put, List.setIfInBounds_toArray, List.set_cons_zero, List.set_cons_succ, i64_w, i32_w]
                rfl
              refine pure_ (i := 15) (N := some 127) (v := undef) (a' := ?_) #[true, true, true, true, true, true, true, true, true, true, true, true, true, true, true, true, false, false] rfl rfl (any_of HT_.out (by kernel_rfl)) (fun _ _ _ h => h) (Or.inr ⟨by rfl, rfl⟩) ?_ ?_
              rotate_left
              · simp only [Act.put, List.setIfInBounds_toArray, List.set_cons_zero, List.set_cons_succ, i64_w, i32_w]
                rfl
              refine pure_ (i := 16) (N := some 128) (v := ?_) (a' := ?_) #[true, true, true, true, true, true, true, true, true, true, true, true, true, true, true, true, true, false] rfl rfl (any_of HT_.out (by kernel_rfl)) (fun _ _ _ h => h) (Or.inl ⟨by rfl, ?_⟩) ?_ ?_
              rotate_left
              · intro w'
                go_simp
                with_reducible rfl
              rotate_left
              · simp only [Act.put, List.setIfInBounds_toArray, List.set_cons_zero, List.set_cons_succ, i64_w, i32_w]
                rfl
              refine pure_ (i := 17) (N := some 20) (v := ?_) (a' := ?_) #[true, true, true, true, true, true, true, true, true, true, true, true, true, true, true, true, true, true] rfl rfl (any_of HT_.out (by kernel_rfl)) (fun _ _ _ h => h) (Or.inl ⟨by rfl, ?_⟩) ?_ ?_
              rotate_left
              · intro w'
                go_simp
                with_reducible rfl
              rotate_left
              · simp only [Act.put, List.setIfInBounds_toArray, List.set_cons_zero, List.set_cons_succ, i64_w, i32_w]
                rfl
              refine done_ (done_of HT_.out (by kernel_rfl)) ?_
              try go_wp2
              go_ret
              exact ⟨by first | rfl | (simp [errW_none, errW_some] <;> rfl) | (simp [*, errW_none, errW_some] <;> rfl), by repeat (first | (with_reducible first | exact HB.out | apply below_alloc | apply pw_below_drewN | apply below_drew1) | exact HB.out)⟩
            replace c194 := Bool.eq_false_iff.mpr c194
            subst c194
            have H1 : (some false) = some r := by rw [if_neg (show ¬ (false = true) by decide)] at H; exact H
            clear H
            have H := H1
            clear H1
            obtain rfl := Option.some.inj H
            have n0_ := Aside0.mk (Kd.N_drew HO_3.out)
            have n1_ := Aside0.mk (Kd.N_drew HO583.out)
            have n2_ := Aside0.mk (Kd.N_drew HO601.out)
            have n3_ := Aside0.mk (below_drew1 HB.out)
            clear HO_3 HO583 HO601; clear HB
            have HO_3 := n0_
            have HO583 := n1_
            have HO601 := n2_
            have HB := n3_
            clear n0_ n1_ n2_ n3_
            refine start_ (n := 18) (S := fun w' => True) (ds := []) #[false, false, false, false, false, false, false, false, false, false, false, false, false, false, false, false, false, false] (by kernel_rfl) rfl rfl trivial (fun hHeld => ?_); refine with_tabW laws_FnPickStrong.tab17 laws_FnPickStrong.bits17 (fun HT_ HW_ => ?_)
            generalize w59.drew = w270 at HO_3 HO583 HO601 HB hHeld ⊢
            refine pure_ (i := 0) (N := some 112) (v := ?_) (a' := ?_) #[true, false, false, false, false, false, false, false, false, false, false, false, false, false, false, false, false, false] rfl rfl (any_of HT_.out (by kernel_rfl)) (fun _ _ _ h => h) (Or.inl ⟨by rfl, ?_⟩) ?_ ?_
            rotate_left
            · intro w'
              go_simp
              with_reducible rfl
            rotate_left
            · simp only [Act.put, List.setIfInBounds_toArray, List.set_cons_zero, List.set_cons_succ, i64_w, i32_w]
              rfl
            refine pure_ (i := 1) (N := some 113) (v := ?_) (a' := ?_) #[true, true, false, false, false, false, false, false, false, false, false, false, false, false, false, false, false, false] rfl rfl (any_of HT_.out (by kernel_rfl)) (fun _ _ _ h => h) (Or.inl ⟨by rfl, ?_⟩) ?_ ?_
            rotate_left
            · intro w'
              go_simp
              with_reducible rfl
            rotate_left
            · simp only [Act.put, List.setIfInBounds_toArray, List.set_cons_zero, List.set_cons_succ, i64_w, i32_w]
              rfl
            refine pure_ (i := 2) (N := some 114) (v := undef) (a' := ?_) #[true, true, true, false, false, false, false, false, false, false, false, false, false, false, false, false, false, false] rfl rfl (any_of HT_.out (by kernel_rfl)) (fun _ _ _ h => h) (Or.inr ⟨by rfl, rfl⟩) ?_ ?_
            rotate_left
            · simp only [Act.put, List.setIfInBounds_toArray, List.set_cons_zero, List.set_cons_succ, i64_w, i32_w]
              rfl
            refine pure_ (i := 3) (N := some 115) (v := undef) (a' := ?_) #[true, true, true, true, false, false, false, false, false, false, false, false, false, false, false, false, false, false] rfl rfl (any_of HT_.out (by kernel_rfl)) (fun _ _ _ h => h) (Or.inr ⟨by rfl, rfl⟩) ?_ ?_
            rotate_left
            · simp only [Act.put, List.setIfInBounds_toArray, List.set_cons_zero, List.set_cons_succ, i64_w, i32_w]
              rfl
            refine pure_ (i := 4) (N := some 116) (v := undef) (a' := ?_) #[true, true, true, true, true, false, false, false, false, false, false, false, false, false, false, false, false, false] rfl rfl (any_of HT_.out (by kernel_rfl)) (fun _ _ _ h => h) (Or.inr ⟨by rfl, rfl⟩) ?_ ?_
            rotate_left
            · simp only [Act.put, List.setIfInBounds_toArray, List.set_cons_zero, List.set_cons_succ, i64_w, i32_w]
              rfl
            refine pure_ (i := 5) (N := some 117) (v := undef) (a' := ?_) #[true, true, true, true, true, true, false, false, false, false, false, false, false, false, false, false, false, false] rfl rfl (any_of HT_.out (by kernel_rfl)) (fun _ _ _ h => h) (Or.inr ⟨by rfl, rfl⟩) ?_ ?_
            rotate_left
            · simp only [Act.put, List.setIfInBounds_toArray, List.set_cons_zero, List.set_cons_succ, i64_w, i32_w]
              rfl
            refine pure_ (i := 6) (N := some 118) (v := undef) (a' := ?_) #[true, true, true, true, true, true, true, false, false, false, false, false, false, false, false, false, false, false] rfl rfl (any_of HT_.out (by kernel_rfl)) (fun _ _ _ h => h) (Or.inr ⟨by rfl, rfl⟩) ?_ ?_
            rotate_left
            · simp only [Act.put, List.setIfInBounds_toArray, List.set_cons_zero, List.set_cons_succ, i64_w, i32_w]
              rfl
            refine pure_ (i := 7) (N := some 119) (v := undef) (a' := ?_) #[true, true, true, true, true, true, true, true, false, false, false, false, false, false, false, false, false, false] rfl rfl (any_of HT_.out (by kernel_rfl)) (fun _ _ _ h => h) (Or.inr ⟨by rfl, rfl⟩) ?_ ?_
            rotate_left
            · simp only [Act.put, List.setIfInBounds_toArray, List.set_cons_zero, List.set_cons_succ, i64_w, i32_w]
              rfl
            refine pure_ (i := 8) (N := some 120) (v := undef) (a' := ?_) #[true, true, true, true, true, true, true, true, true, false, false, false, false, false, false, false, false, false] rfl rfl (any_of HT_.out (by kernel_rfl)) (fun _ _ _ h => h) (Or.inr ⟨by rfl, rfl⟩) ?_ ?_
            rotate_left
            · simp only [Act.put, List.setIfInBounds_toArray, List.set_cons_zero, List.set_cons_succ, i64_w, i32_w]
              rfl
            refine pure_ (i := 9) (N := some 121) (v := undef) (a' := ?_) #[true, true, true, true, true, true, true, true, true, true, false, false, false, false, false, false, false, false] rfl rfl (any_of HT_.out (by kernel_rfl)) (fun _ _ _ h => h) (Or.inr ⟨by rfl, rfl⟩) ?_ ?_
            rotate_left
            · simp only [Act.put, List.setIfInBounds_toArray, List.set_cons_zero, List.set_cons_succ, i64_w, i32_w]
              rfl
            refine pure_ (i := 10) (N := some 122) (v := undef) (a' := ?_) #[true, true, true, true, true, true, true, true, true, true, true, false, false, false, false, false, false, false] rfl rfl (any_of HT_.out (by kernel_rfl)) (fun _ _ _ h => h) (Or.inr ⟨by rfl, rfl⟩) ?_ ?_
            rotate_left
            · simp only [Act.put, List.setIfInBounds_toArray, List.set_cons_zero, List.set_cons_succ, i64_w, i32_w]
              rfl
            refine pure_ (i := 11) (N := some 123) (v := undef) (a' := ?_) #[true, true, true, true, true, true, true, true, true, true, true, true, false, false, false, false, false, false] rfl rfl (any_of HT_.out (by kernel_rfl)) (fun _ _ _ h => h) (Or.inr ⟨by rfl, rfl⟩) ?_ ?_
            rotate_left
            · simp only [Act.put, List.setIfInBounds_toArray, List.set_cons_zero, List.set_cons_succ, i64_w, i32_w]
              rfl
            refine pure_ (i := 12) (N := some 124) (v := undef) (a' := ?_) #[true, true, true, true, true, true, true, true, true, true, true, true, true, false, false, false, false, false] rfl rfl (any_of HT_.out (by kernel_rfl)) (fun _ _ _ h => h) (Or.inr ⟨by rfl, rfl⟩) ?_ ?_
            rotate_left
            · simp only [Act.put, List.setIfInBounds_toArray, List.set_cons_zero, List.set_cons_succ, i64_w, i32_w]
              rfl
            refine pure_ (i := 13) (N := some 125) (v := undef) (a' := ?_) #[true, true, true, true, true, true, true, true, true, true, true, true, true, true, false, false, false, false] rfl rfl (any_of HT_.out (by kernel_rfl)) (fun _ _ _ h => h) (Or.inr ⟨by rfl, rfl⟩) ?_ ?_
            rotate_left
            · simp only [Act.put, List.setIfInBounds_toArray, List.set_cons_zero, List.set_cons_succ, i64_w, i32_w]
              rfl
            refine pure_ (i := 14) (N := some 126) (v := undef) (a' := ?_) #[true, true, true, true, true, true, true, true, true, true, true, true, true, true, true, false, false, false] rfl rfl (any_of HT_.out (by kernel_rfl)) (fun _ _ _ h => h) (Or.inr ⟨by rfl, rfl⟩) ?_ ?_
            rotate_left
            · simp only [Act.put, List.setIfInBounds_toArray, List.set_cons_zero, List.set_cons_succ, i64_w, i32_w]
              rfl
            refine pure_ (i := 15) (N := some 127) (v := undef) (a' := ?_) #[true, true, true, true, true, true, true, true, true, true, true, true, true, true, true, true, false, false] rfl rfl (any_of HT_.out (by kernel_rfl)) (fun _ _ _ h => h) (Or.inr ⟨by rfl, rfl⟩) ?_ ?_
            rotate_left
            · simp only [Act.put, List.setIfInBounds_toArray, List.set_cons_zero, List.set_cons_succ, i64_w, i32_w]
              rfl
            refine pure_ (i := 16) (N := some 128) (v := ?_) (a' := ?_) #[true, true, true, true, true, true, true, true, true, true, true, true, true, true, true, true, true, false] rfl rfl (any_of HT_.out (by kernel_rfl)) (fun _ _ _ h => h) (Or.inl ⟨by rfl, ?_⟩) ?_ ?_
            rotate_left
            · intro w'
              go_simp
              with_reducible rfl
            rotate_left
            · simp only [Act.put, List.setIfInBounds_toArray, List.set_cons_zero, List.set_cons_succ, i64_w, i32_w]
              rfl
            refine pure_ (i := 17) (N := some 20) (v := ?_) (a' := ?_) #[true, true, true, true, true, true, true, true, true, true, true, true, true, true, true, true, true, true] rfl rfl (any_of HT_.out (by kernel_rfl)) (fun _ _ _ h => h) (Or.inl ⟨by rfl, ?_⟩) ?_ ?_
            rotate_left
            · intro w'
              go_simp
              with_reducible rfl
            rotate_left
            · simp only [Act.put, List.setIfInBounds_toArray, List.set_cons_zero, List.set_cons_succ, i64_w, i32_w]
              rfl
            refine done_ (done_of HT_.out (by kernel_rfl)) ?_
            try go_wp2
            go_ret
            exact ⟨by first | rfl | (simp [errW_none, errW_some] <;> rfl) | (simp [*, errW_none, errW_some] <;> rfl), by repeat (first | (with_reducible first | exact HB.out | apply below_alloc | apply pw_below_drewN | apply below_drew1) | exact HB.out)⟩
          replace c193 := Bool.eq_false_iff.mpr c193
          subst c193
          have H1 : (some false) = some r := by rw [if_neg (show ¬ (false = true) by decide)] at H; exact H
          clear H
          have H := H1
          clear H1
          obtain rfl := Option.some.inj H
          have n0_ := Aside0.mk (Kd.N_drew HO_3.out)
          have n1_ := Aside0.mk (Kd.N_drew HO583.out)
          have n2_ := Aside0.mk (Kd.N_drew HO601.out)
          have n3_ := Aside0.mk (below_drew1 HB.out)
          clear HO_3 HO583 HO601; clear HB
          have HO_3 := n0_
          have HO583 := n1_
          have HO601 := n2_
          have HB := n3_
          clear n0_ n1_ n2_ n3_
          refine start_ (n := 18) (S := fun w' => True) (ds := []) #[false, false, false, false, false, false, false, false, false, false, false, false, false, false, false, false, false, false] (by kernel_rfl) rfl rfl trivial (fun hHeld => ?_); refine with_tabW laws_FnPickStrong.tab17 laws_FnPickStrong.bits17 (fun HT_ HW_ => ?_)
          generalize w59.drew = w295 at HO_3 HO583 HO601 HB hHeld ⊢
          refine pure_ (i := 0) (N := some 112) (v := ?_) (a' := ?_) #[true, false, false, false, false, false, false, false, false, false, false, false, false, false, false, false, false, false] rfl rfl (any_of HT_.out (by kernel_rfl)) (fun _ _ _ h => h) (Or.inl ⟨by rfl, ?_⟩) ?_ ?_
          rotate_left
          · intro w'
            go_simp
            with_reducible rfl
          rotate_left
          · simp only [Act.put, List.setIfInBounds_toArray, List.set_cons_zero, List.set_cons_succ, i64_w, i32_w]
            rfl
          refine pure_ (i := 1) (N := some 113) (v := ?_) (a' := ?_) #[true, true, false, false, false, false, false, false, false, false, false, false, false, false, false, false, false, false] rfl rfl (any_of HT_.out (by kernel_rfl)) (fun _ _ _ h => h) (Or.inl ⟨by rfl, ?_⟩) ?_ ?_
          rotate_left
          · intro w'
            go_simp
            with_reducible rfl
          rotate_left
          · simp only [Act.put, List.setIfInBounds_toArray, List.set_cons_zero, List.set_cons_succ, i64_w, i32_w]
            rfl
          refine pure_ (i := 2) (N := some 114) (v := undef) (a' := ?_) #[true, true, true, false, false, false, false, false, false, false, false, false, false, false, false, false, false, false] rfl rfl (any_of HT_.out (by kernel_rfl)) (fun _ _ _ h => h) (Or.inr ⟨by rfl, rfl⟩) ?_ ?_
          rotate_left
          · simp only [Act.put, List.setIfInBounds_toArray, List.set_cons_zero, List.set_cons_succ, i64_w, i32_w]
            rfl
          refine pure_ (i := 3) (N := some 115) (v := undef) (a' := ?_) #[true, true, true, true, false, false, false, false, false, false, false, false, false, false, false, false, false, false] rfl rfl (any_of HT_.out (by kernel_rfl)) (fun _ _ _ h => h) (Or.inr ⟨by rfl, rfl⟩) ?_ ?_
          rotate_left
          · simp only [Act.put, List.setIfInBounds_toArray, List.set_cons_zero, List.set_cons_succ, i64_w, i32_w]
            rfl
          refine pure_ (i := 4) (N := some 116) (v := undef) (a' := ?_) #[true, true, true, true, true, false, false, false, false, false, false, false, false, false, false, false, false, false] rfl rfl (any_of HT_.out (by kernel_rfl)) (fun _ _ _ h => h) (Or.inr ⟨by rfl, rfl⟩) ?_ ?_
          rotate_left
          · simp only [Act.put, List.setIfInBounds_toArray, List.set_cons_zero, List.set_cons_succ, i64_w, i32_w]
            rfl
          refine pure_ (i := 5) (N := some 117) (v := undef) (a' := ?_) #[true, true, true, true, true, true, false, false, false, false, false, false, false, false, false, false, false, false] rfl rfl (any_of HT_.out (by kernel_rfl)) (fun _ _ _ h => h) (Or.inr ⟨by rfl, rfl⟩) ?_ ?_
          rotate_left
          · simp only [Act.put, List.setIfInBounds_toArray, List.set_cons_zero, List.set_cons_succ, i64_w, i32_w]
            rfl
          refine pure_ (i := 6) (N := some 118) (v := undef) (a' := ?_) #[true, true, true, true, true, true, true, false, false, false, false, false, false, false, false, false, false, false] rfl rfl (any_of HT_.out (by kernel_rfl)) (fun _ _ _ h => h) (Or.inr ⟨by rfl, rfl⟩) ?_ ?_
          rotate_left
          · simp only [Act.put, List.setIfInBounds_toArray, List.set_cons_zero, List.set_cons_succ, i64_w, i32_w]
            rfl
          refine pure_ (i := 7) (N := some 119) (v := undef) (a' := ?_) #[true, true, true, true, true, true, true, true, false, false, false, false, false, false, false, false, false, false] rfl rfl (any_of HT_.out (by kernel_rfl)) (fun _ _ _ h => h) (Or.inr ⟨by rfl, rfl⟩) ?_ ?_
          rotate_left
          · simp only [Act.put, List.setIfInBounds_toArray, List.set_cons_zero, List.set_cons_succ, i64_w, i32_w]
            rfl
          refine pure_ (i := 8) (N := some 120) (v := undef) (a' := ?_) #[true, true, true, true, true, true, true, true, true, false, false, false, false, false, false, false, false, false] rfl rfl (any_of HT_.out (by kernel_rfl)) (fun _ _ _ h => h) (Or.inr ⟨by rfl, rfl⟩) ?_ ?_
          rotate_left
          · simp only [Act.put, List.setIfInBounds_toArray, List.set_cons_zero, List.set_cons_succ, i64_w, i32_w]
            rfl
          refine pure_ (i := 9) (N := some 121) (v := undef) (a' := ?_) #[true, true, true, true, true, true, true, true, true, true, false, false, false, false, false, false, false, false] rfl rfl (any_of HT_.out (by kernel_rfl)) (fun _ _ _ h => h) (Or.inr ⟨by rfl, rfl⟩) ?_ ?_
          rotate_left
          · simp only [Act.put, List.setIfInBounds_toArray, List.set_cons_zero, List.set_cons_succ, i64_w, i32_w]
            rfl
          refine pure_ (i := 10) (N := some 122) (v := undef) (a' := ?_) #[true, true, true, true, true, true, true, true, true, true, true, false, false, false, false, false, false, false] rfl rfl (any_of HT_.out (by kernel_rfl)) (fun _ _ _ h => h) (Or.inr ⟨by rfl, rfl⟩) ?_ ?_
          rotate_left
          · simp only [Act.put, List.setIfInBounds_toArray, List.set_cons_zero, List.set_cons_succ, i64_w, i32_w]
            rfl
          refine pure_ (i := 11) (N := some 123) (v := undef) (a' := ?_) #[true, true, true, true, true, true, true, true, true, true, true, true, false, false, false, false, false, false] rfl rfl (any_of HT_.out (by kernel_rfl)) (fun _ _ _ h => h) (Or.inr ⟨by rfl, rfl⟩) ?_ ?_
          rotate_left
          · simp only [Act.put, List.setIfInBounds_toArray, List.set_cons_zero, List.set_cons_succ, i64_w, i32_w]
            rfl
          refine pure_ (i := 12) (N := some 124) (v := undef) (a' := ?_) #[true, true, true, true, true, true, true, true, true, true, true, true, true, false, false, false, false, false] rfl rfl (any_of HT_.out (by kernel_rfl)) (fun _ _ _ h => h) (Or.inr ⟨by rfl, rfl⟩) ?_ ?_
          rotate_left
          · simp only [Act.put, List.setIfInBounds_toArray, List.set_cons_zero, List.set_cons_succ, i64_w, i32_w]
            rfl
          refine pure_ (i := 13) (N := some 125) (v := undef) (a' := ?_) #[true, true, true, true, true, true, true, true, true, true, true, true, true, true, false, false, false, false] rfl rfl (any_of HT_.out (by kernel_rfl)) (fun _ _ _ h => h) (Or.inr ⟨by rfl, rfl⟩) ?_ ?_
          rotate_left
          · simp only [Act.put, List.setIfInBounds_toArray, List.set_cons_zero, List.set_cons_succ, i64_w, i32_w]
            rfl
          refine pure_ (i := 14) (N := some 126) (v := undef) (a' := ?_) #[true, true, true, true, true, true, true, true, true, true, true, true, true, true, true, false, false, false] rfl rfl (any_of HT_.out (by kernel_rfl)) (fun _ _ _ h => h) (Or.inr ⟨by rfl, rfl⟩) ?_ ?_
          rotate_left
          · simp only [Act.put, List.setIfInBounds_toArray, List.set_cons_zero, List.set_cons_succ, i64_w, i32_w]
            rfl
          refine pure_ (i := 15) (N := some 127) (v := undef) (a' := ?_) #[true, true, true, true, true, true, true, true, true, true, true, true, true, true, true, true, false, false] rfl rfl (any_of HT_.out (by kernel_rfl)) (fun _ _ _ h => h) (Or.inr ⟨by rfl, rfl⟩) ?_ ?_
          rotate_left
          · simp only [Act.put, List.setIfInBounds_toArray, List.set_cons_zero, List.set_cons_succ, i64_w, i32_w]
            rfl
          refine pure_ (i := 16) (N := some 128) (v := ?_) (a' := ?_) #[true, true, true, true, true, true, true, true, true, true, true, true, true, true, true, true, true, false] rfl rfl (any_of HT_.out (by kernel_rfl)) (fun _ _ _ h => h) (Or.inl ⟨by rfl, ?_⟩) ?_ ?_
          rotate_left
          · intro w'
            go_simp
            with_reducible rfl
          rotate_left
          · simp only [Act.put, List.setIfInBounds_toArray, List.set_cons_zero, List.set_cons_succ, i64_w, i32_w]
            rfl
          refine pure_ (i := 17) (N := some 20) (v := ?_) (a' := ?_) #[true, true, true, true, true, true, true, true, true, true, true, true, true, true, true, true, true, true] rfl rfl (any_of HT_.out (by kernel_rfl)) (fun _ _ _ h => h) (Or.inl ⟨by rfl, ?_⟩) ?_ ?_
          rotate_left
          · intro w'
            go_simp
            with_reducible rfl
          rotate_left
          · simp only [Act.put, List.setIfInBounds_toArray, List.set_cons_zero, List.set_cons_succ, i64_w, i32_w]
            rfl
          refine done_ (done_of HT_.out (by kernel_rfl)) ?_
          try go_wp2
          go_ret
          exact ⟨by first | rfl | (simp [errW_none, errW_some] <;> rfl) | (simp [*, errW_none, errW_some] <;> rfl), by repeat (first | (with_reducible first | exact HB.out | apply below_alloc | apply pw_below_drewN | apply below_drew1) | exact HB.out)⟩
        rw [if_neg c23] at H
        exact absurd H (by simp)
      rw [if_neg c22] at H
      exact absurd H (by simp)
    rw [if_neg c20] at H
    exact absurd H (by simp)
  rw [if_neg c19] at H
  exact absurd H (by simp)
 clear HC17; try clear c1; try clear c2; try clear p2; try clear c3; try clear c6; try clear p6; try clear q6; try clear hx6; try clear c19; try clear c20; try clear c22; try clear c23; try clear c25; try clear c26; try clear c27; try clear c29; try clear c30; try clear c31; try clear c60; try clear p60; try clear q60; try clear hx60; try clear c193; try clear c194; try clear c195; try clear c195b0; try clear c195b1; try clear hx608_0; try clear hx608_1; try clear hx608_2; try clear p608; try clear q608
 obtain ⟨kq, HA, HJ16, HO_3, HB⟩ := hcut
 obtain _ | kj16 := kq
 · exact absurd HA.out (by simp [laws_FnPickStrong.j4])
 have H := HA.out
 clear HA
 simp only [laws_FnPickStrong.j4] at H
 by_cases c296 : 0 ≤ x11_4
 · rw [if_pos c296] at H
   have c296b0 : decide (0 ≤ x11_4) = true := decide_eq_true c296
   clear c296
   by_cases c297 : x11_4 < (t557.length : Int)
   · rw [if_pos c297] at H
     have c297b0 : decide (x11_4 < (t557.length : Int)) = true := decide_eq_true c297
     clear c297
     replace H := Option.bind_eq_some_iff.mp H
     obtain ⟨t568, A2980, H⟩ := H
     replace H : (if t568 = true then (laws_FnPickStrong.l0 kj16 t557 t560 t561 t563 (wrap64 (x11_4 + 1))) else (some (!t563))) = some r := H
     have A298 := Aside0.mk A2980; clear A2980
     by_cases c299 : t568 = true
     · subst c299
       have H1 : (laws_FnPickStrong.l0 kj16 t557 t560 t561 t563 (wrap64 (x11_4 + 1))) = some r := by rw [if_pos rfl] at H; exact H
       clear H
       have H := H1
       clear H1
       have H' := Aside0.mk H
       clear H
       have p567 : 0 ≤ (x11_4 : Int) := of_decide_eq_true (by first | (with_reducible assumption) | assumption)
       have q567 : x11_4 < (t557.length : Int) := of_decide_eq_true (by first | (with_reducible assumption) | assumption)
       obtain ⟨ad567, A567_0, c567_0, e567, hx567_0, hl567_0, hi567_0⟩ := at_L13 (Kd.N_reads' HO_3.out).2.2 x11_4 p567 q567
       cases e567
       obtain ⟨ce567, hce567, hMe567, hcc567⟩ := Kd.N_get HO_3.out [] x11_4 p567 (by first | exact q567 | exact of_decide_eq_true (by first | (with_reducible assumption) | assumption) | (have e_ := (Kd.N_reads' HO_3.out).1; omega))
       obtain ⟨ua567_0, uc567_0, rfl, ul567_0, ge567_0⟩ := Kd.FK_slice_open hMe567
       have hv567_0 := hcc567 0 _ rfl
       rw [Nat.add_zero, show ((Kd.slice 30 k30)).sz = 1 from rfl, Nat.mul_one] at hv567_0
       replace hv567_0 := Option.some.inj (hv567_0.symm.trans hx567_0)
       injection hv567_0 with hva_ hvn_ hvc_
       rw [hva_] at ge567_0
       rw [hvc_] at ul567_0
       have HL567_0 := Aside0.mk (show Kd.V k30 30 _ w.heap.size _ _ (rd_L13 t557 x11_4) from Kd.V_mk ul567_0 ge567_0)
       clear hva_ hvn_ hvc_ ge567_0 ul567_0; clear hcc567 hce567; have HR567_0 := Aside0.mk hi567_0; have HC567_0 := Aside0.mk hl567_0; clear hi567_0 hl567_0; replace p567 := eq_true p567; replace q567 := eq_true q567
       go_wp2_with (first | ((with_reducible refine gate_callee (f := 18) rfl ?_); refine goesL_ (some 74) rfl rfl Try.func18 (by kernel_rfl) rfl #[.slice A567_0 (rd_L13 t557 x11_4).length c567_0] rfl (by (try simp only [List.map_toArray, List.map_cons, List.map_nil]); first | done | rfl | (simp only [List.length_drop, List.length_take]; rfl)) ?_; (with_reducible refine (spec_UnitOk.calls kj16 _ _ (rd_L13 t557 x11_4) true _ ?side1 ?side2 A298.out).mono ?_); (case side1 => repeat (first | exact (by repeat (first | (with_reducible exact HR567_0.out) | (with_reducible refine Kd.C_alloc ?_ _) | (with_reducible refine Kd.C_drewN ?_ _) | (with_reducible refine Kd.C_drew ?_) | exact HR567_0.out)) | (with_reducible refine Kd.C_alloc ?_ _) | (with_reducible refine Kd.C_drewN ?_ _) | (with_reducible refine Kd.C_drew ?_))); (case side2 => exact HC567_0.out); rintro e w300 ⟨rfl, hb⟩; refine ⟨_, rfl, ?_⟩; have n0_ := Aside0.mk (Kd.N_below (by (with_reducible repeat (first | apply Kd.N_alloc | apply Kd.N_drewN | apply Kd.N_drew)); exact HO_3.out) hb); have n1_ := Aside0.mk (Kd.V_below (by (with_reducible repeat (first | apply Kd.V_alloc | apply Kd.V_drewN | apply Kd.V_drew)); exact HL567_0.out) hb); have n2_ := Aside0.mk (Kd.C_below (by repeat (first | (with_reducible exact HR567_0.out) | (with_reducible refine Kd.C_alloc ?_ _) | (with_reducible refine Kd.C_drewN ?_ _) | (with_reducible refine Kd.C_drew ?_) | exact HR567_0.out)) hb); have n3_ := Aside0.mk (below_step (by repeat (first | (with_reducible first | exact HB.out | apply below_alloc | apply pw_below_drewN | apply below_drew1) | exact HB.out)) hb); clear HO_3 HL567_0 HR567_0 HB; have HO_3 := n0_; have HL567_0 := n1_; have HR567_0 := n2_; have HB := n3_; clear n0_ n1_ n2_ n3_; (try clear hb); (try clear hb2); (try clear hk); (try clear hi)))
       go_roundg kj16
       case measure => have := HJ1.out; have := HJ6.out; have := HJ13.out; have := HK4.out; have := HJ16.out; omega
       case rel => exact ⟨(wrap64 (x11_4 + 1)), (by first | rfl | (simp; done) | (simp [*]; done)), H', ⟨by have := HJ1.out; have := HJ6.out; have := HJ13.out; have := HK4.out; have := HJ16.out; omega⟩, ⟨by (with_reducible repeat (first | apply Kd.N_alloc | apply Kd.N_drewN | apply Kd.N_drew)); exact HO_3.out⟩, ⟨by repeat (first | (with_reducible first | exact HB.out | apply below_alloc | apply pw_below_drewN | apply below_drew1) | exact HB.out)⟩⟩
     replace c299 := Bool.eq_false_iff.mpr c299
     subst c299
     have H1 : (some (!t563)) = some r := by rw [if_neg (show ¬ (false = true) by decide)] at H; exact H
     clear H
     have H := H1
     clear H1
     obtain rfl := Option.some.inj H
     have p567 : 0 ≤ (x11_4 : Int) := of_decide_eq_true (by first | (with_reducible assumption) | assumption)
     have q567 : x11_4 < (t557.length : Int) := of_decide_eq_true (by first | (with_reducible assumption) | assumption)
     obtain ⟨ad567, A567_0, c567_0, e567, hx567_0, hl567_0, hi567_0⟩ := at_L13 (Kd.N_reads' HO_3.out).2.2 x11_4 p567 q567
     cases e567
     obtain ⟨ce567, hce567, hMe567, hcc567⟩ := Kd.N_get HO_3.out [] x11_4 p567 (by first | exact q567 | exact of_decide_eq_true (by first | (with_reducible assumption) | assumption) | (have e_ := (Kd.N_reads' HO_3.out).1; omega))
     obtain ⟨ua567_0, uc567_0, rfl, ul567_0, ge567_0⟩ := Kd.FK_slice_open hMe567
     have hv567_0 := hcc567 0 _ rfl
     rw [Nat.add_zero, show ((Kd.slice 30 k30)).sz = 1 from rfl, Nat.mul_one] at hv567_0
     replace hv567_0 := Option.some.inj (hv567_0.symm.trans hx567_0)
     injection hv567_0 with hva_ hvn_ hvc_
     rw [hva_] at ge567_0
     rw [hvc_] at ul567_0
     have HL567_0 := Aside0.mk (show Kd.V k30 30 _ w.heap.size _ _ (rd_L13 t557 x11_4) from Kd.V_mk ul567_0 ge567_0)
     clear hva_ hvn_ hvc_ ge567_0 ul567_0; clear hcc567 hce567; have HR567_0 := Aside0.mk hi567_0; have HC567_0 := Aside0.mk hl567_0; clear hi567_0 hl567_0; replace p567 := eq_true p567; replace q567 := eq_true q567
     go_wp2_with (first | ((with_reducible refine gate_callee (f := 18) rfl ?_); refine goesL_ (some 74) rfl rfl Try.func18 (by kernel_rfl) rfl #[.slice A567_0 (rd_L13 t557 x11_4).length c567_0] rfl (by (try simp only [List.map_toArray, List.map_cons, List.map_nil]); first | done | rfl | (simp only [List.length_drop, List.length_take]; rfl)) ?_; (with_reducible refine (spec_UnitOk.calls kj16 _ _ (rd_L13 t557 x11_4) false _ ?side1 ?side2 A298.out).mono ?_); (case side1 => repeat (first | exact (by repeat (first | (with_reducible exact HR567_0.out) | (with_reducible refine Kd.C_alloc ?_ _) | (with_reducible refine Kd.C_drewN ?_ _) | (with_reducible refine Kd.C_drew ?_) | exact HR567_0.out)) | (with_reducible refine Kd.C_alloc ?_ _) | (with_reducible refine Kd.C_drewN ?_ _) | (with_reducible refine Kd.C_drew ?_))); (case side2 => exact HC567_0.out); rintro e w301 ⟨rfl, hb⟩; refine ⟨_, rfl, ?_⟩; have n0_ := Aside0.mk (Kd.N_below (by (with_reducible repeat (first | apply Kd.N_alloc | apply Kd.N_drewN | apply Kd.N_drew)); exact HO_3.out) hb); have n1_ := Aside0.mk (Kd.V_below (by (with_reducible repeat (first | apply Kd.V_alloc | apply Kd.V_drewN | apply Kd.V_drew)); exact HL567_0.out) hb); have n2_ := Aside0.mk (Kd.C_below (by repeat (first | (with_reducible exact HR567_0.out) | (with_reducible refine Kd.C_alloc ?_ _) | (with_reducible refine Kd.C_drewN ?_ _) | (with_reducible refine Kd.C_drew ?_) | exact HR567_0.out)) hb); have n3_ := Aside0.mk (below_step (by repeat (first | (with_reducible first | exact HB.out | apply below_alloc | apply pw_below_drewN | apply below_drew1) | exact HB.out)) hb); clear HO_3 HL567_0 HR567_0 HB; have HO_3 := n0_; have HL567_0 := n1_; have HR567_0 := n2_; have HB := n3_; clear n0_ n1_ n2_ n3_; (try clear hb); (try clear hb2); (try clear hk); (try clear hi)))
     go_ret
     exact ⟨by first | rfl | (simp [errW_none, errW_some] <;> rfl) | (simp [*, errW_none, errW_some] <;> rfl), by repeat (first | (with_reducible first | exact HB.out | apply below_alloc | apply pw_below_drewN | apply below_drew1) | exact HB.out)⟩
   rw [if_neg c297] at H
   exact absurd H (by simp)
 rw [if_neg c296] at H
 exact absurd H (by simp)

/-- THE ONE PURE STATEMENT of laws_FnPickStrong: yours. -/
def laws_FnPickStrong.Pure : Prop := ∀ (l0 : List Int), l0.length ≤ maxLen → l0.length * 1 ≤ 140737488351232 → (∀ x ∈ l0, (Lit.int .u8 x).wf = true) → ∃ k, laws_FnPickStrong.f k l0 = some true
theorem laws_FnPickStrong.walk (P : laws_FnPickStrong.Pure) (a0 : Option Addr) (len0 cap0 : Nat) (z0 : List Int) (w : World) (w0 : (a0 = none ∧ len0 = 0 ∧ cap0 = 0 ∧ z0 = []) ∨ ∃ x, a0 = some x ∧ len0 ≤ cap0 ∧ cap0 ≤ maxLen ∧ z0.length = cap0 ∧ (∀ i, i < z0.length → w.cell? (x.add i) = some (.int .u8 (z0.getD i 0))) ∧ ∀ n ∈ z0, (Lit.int .u8 n).wf = true) (y0 : len0 * 1 ≤ 140737488351232) :
    Calls Try.prog 7 #[.slice a0 len0 cap0] w fun e w' => e = .returned (.bool true) ∧ Below w.heap.size w w' := by
  obtain ⟨l0, rfl, hr0, hm0, hw0, hc0⟩ := ReadsInt.ofRowC w0
  obtain ⟨k, h⟩ := P l0 hm0 y0 hw0
  refine (laws_FnPickStrong.calls k _ _ l0 true w (Kd.C_of_reads (d := (0 : Int)) (h1 := fun _ => rfl) hr0) hc0 h).mono ?_
  rintro e w' ⟨rfl, hd⟩
  exact ⟨rfl, hd⟩

end Go.Proofs.Ytpckkkcaffhhnaa.P
