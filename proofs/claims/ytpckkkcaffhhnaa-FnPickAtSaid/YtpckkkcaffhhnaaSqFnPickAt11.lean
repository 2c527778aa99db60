-- PxlawsFnPickAt: put together by squash.py
import Derived.Test.YtpckkkcaffhhnaaSqFnPickAt3
import Derived.Test.YtpckkkcaffhhnaaSqFnPickAt5
import Derived.Test.YtpckkkcaffhhnaaSqFnPickAt10

-- made by printx.py (own driver over the kit's print); Lean checks it
namespace Go.Proofs.Ytpckkkcaffhhnaa.P
open Go.RowKit Go.Proofs.YtpckkkcaffhhnaaW.PrintWords Go.Proofs.YtpckkkcaffhhnaaW.PrintLast Go.Proofs.YtpckkkcaffhhnaaW.PrintMore
attribute [local go_sem] max2_int min2_int max_two min_two max_three min_three max_four min_four   -- for this text's walks alone
set_option linter.unusedVariables false
set_option linter.unusedSimpArgs false

/-! ### laws_FnPickAt: function 6 -/
mutual
def laws_FnPickAt.j0 : Nat → List Int → Option (Bool)
  | 0, _ => none
  | k + 1, x0 => (spec_DrawPickAt.f k x0).bind fun bt535 => ((impl_PickAt.f k bt535.1 bt535.2).bind fun bt539 => ((spec_PickAt.f k bt535.1 bt535.2).bind fun bt542 => (if bt539.1 = bt542.1 then (if bt539.2.1 = bt542.2.1 then (laws_FnPickAt.j1 k bt535.1 bt535.2 bt539.1 bt539.2.1 bt539.2.2 (bt539.2.2 != bt542.2.2)) else (laws_FnPickAt.j1 k bt535.1 bt535.2 bt539.1 bt539.2.1 bt539.2.2 true)) else (laws_FnPickAt.j1 k bt535.1 bt535.2 bt539.1 bt539.2.1 bt539.2.2 true))))
def laws_FnPickAt.j1 : Nat → List (List (S30)) → ByteArray → Int → Int → Bool → Bool → Option (Bool)
  | 0, _, _, _, _, _, _ => none
  | k + 1, x3, x4, x5, x6, x7, x48 => if x48 = true then (some false) else (laws_FnPickAt.j2 k x3 x4 x5 x6 x7)
def laws_FnPickAt.j2 : Nat → List (List (S30)) → ByteArray → Int → Int → Bool → Option (Bool)
  | 0, _, _, _, _, _ => none
  | k + 1, x3, x4, x5, x6, x7 => if x7 = true then (laws_FnPickAt.j3 k x3 x4 x5 x6) else (if x5 = 0 then (some (x6 == 0)) else (some false))
def laws_FnPickAt.j3 : Nat → List (List (S30)) → ByteArray → Int → Int → Option (Bool)
  | 0, _, _, _, _ => none
  | k + 1, x3, x4, x5, x6 => if 0 ≤ x5 then (if x5 < (x3.length : Int) then (if 0 ≤ x6 then (if x6 < ((rd_L13 x3 x5).length : Int) then (if ((rd_T30 (rd_L13 x3 x5) x6).f0).toList = x4.toList then (laws_FnPickAt.j4 k x3 x4 x5 x6) else (some false)) else (none)) else (none)) else (none)) else (none)
def laws_FnPickAt.j4 : Nat → List (List (S30)) → ByteArray → Int → Int → Option (Bool)
  | 0, _, _, _, _ => none
  | k + 1, x3, x4, x5, x6 => laws_FnPickAt.l0 k x3 x4 x5 x6 0
def laws_FnPickAt.l0 : Nat → List (List (S30)) → ByteArray → Int → Int → Int → Option (Bool)
  | 0, _, _, _, _, _ => none
  | k + 1, x3, x4, x5, x6, x11 => if x11 < (x3.length : Int) then (laws_FnPickAt.j6 k x3 x4 x5 x6 x11) else (some true)
def laws_FnPickAt.j6 : Nat → List (List (S30)) → ByteArray → Int → Int → Int → Option (Bool)
  | 0, _, _, _, _, _ => none
  | k + 1, x3, x4, x5, x6, x11 => laws_FnPickAt.l1 k x3 x4 x5 x6 x11 0
def laws_FnPickAt.l1 : Nat → List (List (S30)) → ByteArray → Int → Int → Int → Int → Option (Bool)
  | 0, _, _, _, _, _, _ => none
  | k + 1, x3, x4, x5, x6, x11, x12 => if 0 ≤ x11 then (if x11 < (x3.length : Int) then (if x12 < ((rd_L13 x3 x11).length : Int) then (laws_FnPickAt.j8 k x3 x4 x5 x6 x11 x12) else (laws_FnPickAt.l0 k x3 x4 x5 x6 (wrap64 (x11 + 1)))) else (none)) else (none)
def laws_FnPickAt.j8 : Nat → List (List (S30)) → ByteArray → Int → Int → Int → Int → Option (Bool)
  | 0, _, _, _, _, _, _ => none
  | k + 1, x3, x4, x5, x6, x11, x12 => if 0 ≤ x11 then (if x11 < (x3.length : Int) then (if 0 ≤ x12 then (if x12 < ((rd_L13 x3 x11).length : Int) then (if ((rd_T30 (rd_L13 x3 x11) x12).f0).toList = x4.toList then (if 0 ≤ x5 then (if x5 < (x3.length : Int) then (if 0 ≤ x6 then (if x6 < ((rd_L13 x3 x5).length : Int) then (if (rd_T30 (rd_L13 x3 x5) x6).f1 = true then (if ((rd_T30 (rd_L13 x3 x11) x12).f1 = true) then (if x11 < x5 then (laws_FnPickAt.j9 k x3 x4 x5 x6 x11 x12 true) else (if ((rd_T30 (rd_L13 x3 x5) x6).f1 = true) then (laws_FnPickAt.j9 k x3 x4 x5 x6 x11 x12 false) else (laws_FnPickAt.j9 k x3 x4 x5 x6 x11 x12 false))) else (laws_FnPickAt.j9 k x3 x4 x5 x6 x11 x12 true)) else (if ((rd_T30 (rd_L13 x3 x5) x6).f1 = true) then (laws_FnPickAt.j9 k x3 x4 x5 x6 x11 x12 false) else (if ((rd_T30 (rd_L13 x3 x11) x12).f1 = true) then (laws_FnPickAt.j9 k x3 x4 x5 x6 x11 x12 false) else (laws_FnPickAt.j9 k x3 x4 x5 x6 x11 x12 (decide (x11 < x5)))))) else (none)) else (none)) else (none)) else (none)) else (laws_FnPickAt.j9 k x3 x4 x5 x6 x11 x12 false)) else (none)) else (none)) else (none)) else (none)
def laws_FnPickAt.j9 : Nat → List (List (S30)) → ByteArray → Int → Int → Int → Int → Bool → Option (Bool)
  | 0, _, _, _, _, _, _, _ => none
  | k + 1, x3, x4, x5, x6, x11, x12, x133 => if x133 = true then (some false) else (laws_FnPickAt.l1 k x3 x4 x5 x6 x11 (wrap64 (x12 + 1)))
end
def laws_FnPickAt.f (k : Nat) (l0 : List Int) : Option (Bool) := if (l0.length : Int) > 1048576 then (some true) else (laws_FnPickAt.j0 k l0)
set_option maxHeartbeats 8000000 in
set_option maxRecDepth 100000 in
theorem laws_FnPickAt.calls (k : Nat) (A0 : Option Addr) (c0 : Nat) (l0 : List Int) (r : Bool) (w : World) (hr0 : Kd.C (Kd.int .u8) w A0 l0.length l0) (hc0 : l0.length ≤ c0) (h : laws_FnPickAt.f k l0 = some r) :
    Calls Try.prog 6 #[.slice A0 l0.length c0] w fun e w' => e = .returned (.bool r) ∧ Below w.heap.size w w' := by
  have hu30 := Try.underlying30
  have HR0 := Aside0.mk hr0
  have HC0 := Aside0.mk hc0
  clear hr0 hc0
  have HB := Aside0.mk (Below.refl w.heap.size w)
  have H : (if (l0.length : Int) > 1048576 then (some true) else (laws_FnPickAt.j0 k l0)) = some r := h
  clear h
  have HC2 := Aside0.mk H
  clear H
  go_enter Try.func6, Try.ntmps6
  go_upto_if 16 with (fail)
  go_cut [] (fun wc => ∃ (kq : Nat), Aside0 (laws_FnPickAt.j0 kq l0 = some r) ∧ Aside0 (kq ≤ k) ∧ Aside0 (Below w.heap.size w wc))
  case first =>
    have H := HC2.out
    clear HC2
    by_cases c3 : (l0.length : Int) > 1048576
    · rw [if_pos c3] at H
      have c3b0 : decide (1048576 < (l0.length : Int)) = true := decide_eq_true c3
      have c3b1 : decide (1048576 < l0.length) = true := decide_eq_true (by omega)
      clear c3
      (first | rw [c3b0] | (simp only [i64_w, i32_w]; rw [c3b0]) | (have cn_ := c3b0; simp only [bne] at cn_; rw [cn_]; clear cn_) | skip)
      obtain rfl := Option.some.inj H
      go_wp2
      go_ret
      exact ⟨by first | rfl | (simp [errW_none, errW_some] <;> rfl) | (simp [*, errW_none, errW_some] <;> rfl), by repeat (first | (with_reducible first | exact HB.out | apply below_alloc | apply pw_below_drewN | apply below_drew1) | exact HB.out)⟩
    · rw [if_neg c3] at H
      have c3b0 : decide (1048576 < (l0.length : Int)) = false := decide_eq_false c3
      have c3b1 : decide (1048576 < l0.length) = false := decide_eq_false (by omega)
      clear c3
      (first | rw [c3b0] | (simp only [i64_w, i32_w]; rw [c3b0]) | (have cn_ := c3b0; simp only [bne] at cn_; rw [cn_]; clear cn_) | skip)
      have H' := Aside0.mk H
      clear H
      go_wp2
      go_meet
      case rel => exact ⟨_, H', ⟨by first | omega | exact Nat.le_refl _⟩, ⟨by repeat (first | (with_reducible first | exact HB.out | apply below_alloc | apply pw_below_drewN | apply below_drew1) | exact HB.out)⟩⟩
  case rest =>
    clear HC2
    try clear p2
    try clear c3
    try clear c3b0
    try clear c3b1
    obtain ⟨kq, HA, HJ1, HB⟩ := hcut
    cases kq with
    | zero => exact absurd HA.out (by simp [laws_FnPickAt.j0])
    | succ kj1 =>
      have H := HA.out
      clear HA
      simp only [laws_FnPickAt.j0] at H
      replace H := Option.bind_eq_some_iff.mp H
      obtain ⟨⟨t535, t538⟩, A40, H⟩ := H
      replace H : ((impl_PickAt.f kj1 t535 t538).bind fun bt539 => ((spec_PickAt.f kj1 t535 t538).bind fun bt542 => (if bt539.1 = bt542.1 then (if bt539.2.1 = bt542.2.1 then (laws_FnPickAt.j1 kj1 t535 t538 bt539.1 bt539.2.1 bt539.2.2 (bt539.2.2 != bt542.2.2)) else (laws_FnPickAt.j1 kj1 t535 t538 bt539.1 bt539.2.1 bt539.2.2 true)) else (laws_FnPickAt.j1 kj1 t535 t538 bt539.1 bt539.2.1 bt539.2.2 true)))) = some r := H
      have A4 := Aside0.mk A40
      clear A40
      replace H := Option.bind_eq_some_iff.mp H
      obtain ⟨⟨t539, t540, t541⟩, A50, H⟩ := H
      replace H : ((spec_PickAt.f kj1 t535 t538).bind fun bt542 => (if t539 = bt542.1 then (if t540 = bt542.2.1 then (laws_FnPickAt.j1 kj1 t535 t538 t539 t540 t541 (t541 != bt542.2.2)) else (laws_FnPickAt.j1 kj1 t535 t538 t539 t540 t541 true)) else (laws_FnPickAt.j1 kj1 t535 t538 t539 t540 t541 true))) = some r := H
      have A5 := Aside0.mk A50
      clear A50
      replace H := Option.bind_eq_some_iff.mp H
      obtain ⟨⟨t542, t543, t544⟩, A60, H⟩ := H
      replace H : (if t539 = t542 then (if t540 = t543 then (laws_FnPickAt.j1 kj1 t535 t538 t539 t540 t541 (t541 != t544)) else (laws_FnPickAt.j1 kj1 t535 t538 t539 t540 t541 true)) else (laws_FnPickAt.j1 kj1 t535 t538 t539 t540 t541 true)) = some r := H
      have A6 := Aside0.mk A60
      clear A60
      have HC7 := Aside0.mk H
      clear H
      go_upto_region 6 with (first | ((with_reducible refine gate_callee (f := 30) rfl ?_); refine goesL_ (some 19) rfl rfl Try.func30 (by kernel_rfl) rfl #[.slice A0 l0.length c0] rfl (by (try simp only [List.map_toArray, List.map_cons, List.map_nil]); first | done | rfl | (simp only [List.length_drop, List.length_take]; rfl)) ?_; (with_reducible refine (spec_DrawPickAt.calls kj1 _ _ l0 t535 t538 _ ?side1 ?side2 A4.out).mono ?_); (case side1 => repeat (first | exact (Kd.C_below HR0.out HB.out) | (with_reducible refine Kd.C_alloc ?_ _) | (with_reducible refine Kd.C_drewN ?_ _) | (with_reducible refine Kd.C_drew ?_))); (case side2 => exact HC0.out); rintro e w8 ⟨v536, rfl, ho0, hb⟩; refine ⟨_, rfl, ?_⟩; have n0_ := Aside0.mk (Kd.N_lower (Kd.N_mono (ok' := fun k_ => True) ho0 (fun k_ hk_ => trivial)) (below_size (by repeat (first | (with_reducible first | exact HB.out | apply below_alloc | apply pw_below_drewN | apply below_drew1) | exact HB.out)))); have n1_ := Aside0.mk (below_step (by repeat (first | (with_reducible first | exact HB.out | apply below_alloc | apply pw_below_drewN | apply below_drew1) | exact HB.out)) hb); clear HB; have HO537 := n0_; have HB := n1_; clear n0_ n1_; (try clear hb); (try clear hb2); (try clear hk); (try clear hi); (try clear ho0); obtain ⟨Ao9, co9, eo9⟩ := Kd.N_slice HO537.out; subst eo9) | ((with_reducible refine gate_callee (f := 31) rfl ?_); refine goesL_ (some 25) rfl rfl Try.func31 (by kernel_rfl) rfl #[.slice Ao9 t535.length co9, .string t538] rfl (by (try simp only [List.map_toArray, List.map_cons, List.map_nil]); first | done | rfl | (simp only [List.length_drop, List.length_take]; rfl)) ?_; (with_reducible refine (impl_PickAt.calls kj1 _ _ t535 t538 t539 t540 t541 _ ?side1 ?side2 A5.out).mono ?_); (case side1 => repeat (first | exact (Kd.N_reads' HO537.out).2.2 | (with_reducible refine Kd.C_alloc ?_ _) | (with_reducible refine Kd.C_drewN ?_ _) | (with_reducible refine Kd.C_drew ?_))); (case side2 => exact (Kd.N_reads' HO537.out).2.1); rintro e w10 ⟨rfl, hb⟩; refine ⟨_, rfl, ?_⟩; have n0_ := Aside0.mk (Kd.N_below (by (with_reducible repeat (first | apply Kd.N_alloc | apply Kd.N_drewN | apply Kd.N_drew)); exact HO537.out) hb); have n1_ := Aside0.mk (below_step (by repeat (first | (with_reducible first | exact HB.out | apply below_alloc | apply pw_below_drewN | apply below_drew1) | exact HB.out)) hb); clear HO537; clear HB; have HO537 := n0_; have HB := n1_; clear n0_ n1_; (try clear hb); (try clear hb2); (try clear hk); (try clear hi)) | ((with_reducible refine gate_callee (f := 32) rfl ?_); refine goesL_ (some 32) rfl rfl Try.func32 (by kernel_rfl) rfl #[.slice Ao9 t535.length co9, .string t538] rfl (by (try simp only [List.map_toArray, List.map_cons, List.map_nil]); first | done | rfl | (simp only [List.length_drop, List.length_take]; rfl)) ?_; (with_reducible refine (spec_PickAt.calls kj1 _ _ t535 t538 t542 t543 t544 _ ?side1 ?side2 A6.out).mono ?_); (case side1 => repeat (first | exact (Kd.N_reads' HO537.out).2.2 | (with_reducible refine Kd.C_alloc ?_ _) | (with_reducible refine Kd.C_drewN ?_ _) | (with_reducible refine Kd.C_drew ?_))); (case side2 => exact (Kd.N_reads' HO537.out).2.1); rintro e w11 ⟨rfl, hb⟩; refine ⟨_, rfl, ?_⟩; have n0_ := Aside0.mk (Kd.N_below (by (with_reducible repeat (first | apply Kd.N_alloc | apply Kd.N_drewN | apply Kd.N_drew)); exact HO537.out) hb); have n1_ := Aside0.mk (below_step (by repeat (first | (with_reducible first | exact HB.out | apply below_alloc | apply pw_below_drewN | apply below_drew1) | exact HB.out)) hb); clear HO537; clear HB; have HO537 := n0_; have HB := n1_; clear n0_ n1_; (try clear hb); (try clear hb2); (try clear hk); (try clear hi)))
      (try simp only [Act.put, List.setIfInBounds_toArray, List.set_cons_zero, List.set_cons_succ])
      go_cut [48] (fun v48 wc => ∃ (kq : Nat) (x48_6 : Bool), v48 = .bool x48_6 ∧ Aside0 (laws_FnPickAt.j1 kq t535 t538 t539 t540 t541 x48_6 = some r) ∧ Aside0 (kq ≤ kj1) ∧ Aside0 (Kd.N (Kd.slice 30 k30) 23 wc w.heap.size (fun _ => True) (.slice Ao9 t535.length co9) t535) ∧ Aside0 (Below w.heap.size w wc))
      case first =>
        have H := HC7.out
        clear HC7
        by_cases c12 : t539 = t542
        · rw [if_pos c12] at H
          have c12b0 : (t539 == t542) = true := beq_iff_eq.mpr c12
          have c12b1 : (t539 != t542) = false := bne_eq_false_iff_eq.mpr c12
          clear c12
          (first | rw [c12b0] | (simp only [i64_w, i32_w]; rw [c12b0]) | (have cn_ := c12b0; simp only [bne] at cn_; rw [cn_]; clear cn_) | skip)
          by_cases c13 : t540 = t543
          · rw [if_pos c13] at H
            have c13b0 : (t540 == t543) = true := beq_iff_eq.mpr c13
            have c13b1 : (t540 != t543) = false := bne_eq_false_iff_eq.mpr c13
            clear c13
            have H' := Aside0.mk H
            clear H
            go_wp2
            go_meet
            case rel => exact ⟨_, ((t541 != t544)), (by first | rfl | (simp; done) | (simp [*]; done)), H', ⟨by have := HJ1.out; first | omega | exact Nat.le_refl _⟩, ⟨by (with_reducible repeat (first | apply Kd.N_alloc | apply Kd.N_drewN | apply Kd.N_drew)); exact HO537.out⟩, ⟨by repeat (first | (with_reducible first | exact HB.out | apply below_alloc | apply pw_below_drewN | apply below_drew1) | exact HB.out)⟩⟩
          · rw [if_neg c13] at H
            have c13b0 : (t540 == t543) = false := beq_eq_false_iff_ne.mpr c13
            have c13b1 : (t540 != t543) = true := bne_iff_ne.mpr c13
            have H' := Aside0.mk H
            clear H
            go_wp2
            go_meet
            case rel => exact ⟨_, (true), (by first | rfl | (simp; done) | (simp [*]; done)), H', ⟨by have := HJ1.out; first | omega | exact Nat.le_refl _⟩, ⟨by (with_reducible repeat (first | apply Kd.N_alloc | apply Kd.N_drewN | apply Kd.N_drew)); exact HO537.out⟩, ⟨by repeat (first | (with_reducible first | exact HB.out | apply below_alloc | apply pw_below_drewN | apply below_drew1) | exact HB.out)⟩⟩
        · rw [if_neg c12] at H
          have c12b0 : (t539 == t542) = false := beq_eq_false_iff_ne.mpr c12
          have c12b1 : (t539 != t542) = true := bne_iff_ne.mpr c12
          (first | rw [c12b0] | (simp only [i64_w, i32_w]; rw [c12b0]) | (have cn_ := c12b0; simp only [bne] at cn_; rw [cn_]; clear cn_) | skip)
          have H' := Aside0.mk H
          clear H
          go_wp2
          go_meet
          case rel => exact ⟨_, (true), (by first | rfl | (simp; done) | (simp [*]; done)), H', ⟨by have := HJ1.out; first | omega | exact Nat.le_refl _⟩, ⟨by (with_reducible repeat (first | apply Kd.N_alloc | apply Kd.N_drewN | apply Kd.N_drew)); exact HO537.out⟩, ⟨by repeat (first | (with_reducible first | exact HB.out | apply below_alloc | apply pw_below_drewN | apply below_drew1) | exact HB.out)⟩⟩
      case rest =>
        clear HC7
        try clear c1
        try clear p2
        try clear c3
        try clear c3b0
        try clear c3b1
        try clear c6
        try clear c12
        try clear c12b0
        try clear c12b1
        try clear c13
        try clear c13b0
        try clear c13b1
        try clear p2
        obtain ⟨kq, x48_6, rfl, HA, HJ6, HO_3, HB⟩ := hcut
        cases kq with
        | zero => exact absurd HA.out (by simp [laws_FnPickAt.j1])
        | succ kj6 =>
          have H := HA.out
          clear HA
          simp only [laws_FnPickAt.j1] at H
          have HC14 := Aside0.mk H
          clear H
          go_upto_if 48 with (fail)
          go_cut [] (fun wc => ∃ (kq : Nat), Aside0 (laws_FnPickAt.j2 kq t535 t538 t539 t540 t541 = some r) ∧ Aside0 (kq ≤ kj6) ∧ Aside0 (Kd.N (Kd.slice 30 k30) 23 wc w.heap.size (fun _ => True) (.slice Ao9 t535.length co9) t535) ∧ Aside0 (Below w.heap.size w wc))
          case first =>
            have H := HC14.out
            clear HC14
            by_cases c15 : x48_6 = true
            · subst c15
              have H1 : (some false) = some r := by rw [if_pos rfl] at H; exact H
              clear H
              have H := H1
              clear H1
              obtain rfl := Option.some.inj H
              go_wp2
              go_ret
              exact ⟨by first | rfl | (simp [errW_none, errW_some] <;> rfl) | (simp [*, errW_none, errW_some] <;> rfl), by repeat (first | (with_reducible first | exact HB.out | apply below_alloc | apply pw_below_drewN | apply below_drew1) | exact HB.out)⟩
            · replace c15 := Bool.eq_false_iff.mpr c15
              subst c15
              have H1 : (laws_FnPickAt.j2 kj6 t535 t538 t539 t540 t541) = some r := by rw [if_neg (show ¬ (false = true) by decide)] at H; exact H
              clear H
              have H := H1
              clear H1
              have H' := Aside0.mk H
              clear H
              go_wp2
              go_meet
              case rel => exact ⟨_, H', ⟨by have := HJ1.out; have := HJ6.out; first | omega | exact Nat.le_refl _⟩, ⟨by (with_reducible repeat (first | apply Kd.N_alloc | apply Kd.N_drewN | apply Kd.N_drew)); exact HO_3.out⟩, ⟨by repeat (first | (with_reducible first | exact HB.out | apply below_alloc | apply pw_below_drewN | apply below_drew1) | exact HB.out)⟩⟩
          case rest =>
            clear HC14
            try clear c1
            try clear p2
            try clear c3
            try clear c3b0
            try clear c3b1
            try clear c6
            try clear c12
            try clear c12b0
            try clear c12b1
            try clear c13
            try clear c13b0
            try clear c13b1
            try clear c15
            try clear p2
            obtain ⟨kq, HA, HJ13, HO_3, HB⟩ := hcut
            cases kq with
            | zero => exact absurd HA.out (by simp [laws_FnPickAt.j2])
            | succ kj13 =>
              have H := HA.out
              clear HA
              simp only [laws_FnPickAt.j2] at H
              have HC16 := Aside0.mk H
              clear H
              go_upto_if 50 with (fail)
              go_cut [] (fun wc => ∃ (kq : Nat), Aside0 (laws_FnPickAt.j3 kq t535 t538 t539 t540 = some r) ∧ Aside0 (kq ≤ kj13) ∧ Aside0 (Kd.N (Kd.slice 30 k30) 23 wc w.heap.size (fun _ => True) (.slice Ao9 t535.length co9) t535) ∧ Aside0 (Below w.heap.size w wc))
              case first =>
                have H := HC16.out
                clear HC16
                by_cases c17 : t541 = true
                · subst c17
                  have H1 : (laws_FnPickAt.j3 kj13 t535 t538 t539 t540) = some r := by rw [if_pos rfl] at H; exact H
                  clear H
                  have H := H1
                  clear H1
                  have H' := Aside0.mk H
                  clear H
                  go_wp2
                  go_meet
                  case rel => exact ⟨_, H', ⟨by have := HJ1.out; have := HJ6.out; have := HJ13.out; first | omega | exact Nat.le_refl _⟩, ⟨by (with_reducible repeat (first | apply Kd.N_alloc | apply Kd.N_drewN | apply Kd.N_drew)); exact HO_3.out⟩, ⟨by repeat (first | (with_reducible first | exact HB.out | apply below_alloc | apply pw_below_drewN | apply below_drew1) | exact HB.out)⟩⟩
                · replace c17 := Bool.eq_false_iff.mpr c17
                  subst c17
                  have H1 : (if t539 = 0 then (some (t540 == 0)) else (some false)) = some r := by rw [if_neg (show ¬ (false = true) by decide)] at H; exact H
                  clear H
                  have H := H1
                  clear H1
                  by_cases c18 : t539 = 0
                  · rw [if_pos c18] at H
                    have c18b0 : (t539 == 0) = true := beq_iff_eq.mpr c18
                    have c18b1 : (t539 != 0) = false := bne_eq_false_iff_eq.mpr c18
                    clear c18
                    (first | rw [c18b0] | (simp only [i64_w, i32_w]; rw [c18b0]) | (have cn_ := c18b0; simp only [bne] at cn_; rw [cn_]; clear cn_) | skip)
                    obtain rfl := Option.some.inj H
                    go_wp2
                    go_ret
                    exact ⟨by first | rfl | (simp [errW_none, errW_some] <;> rfl) | (simp [*, errW_none, errW_some] <;> rfl), by repeat (first | (with_reducible first | exact HB.out | apply below_alloc | apply pw_below_drewN | apply below_drew1) | exact HB.out)⟩
                  · rw [if_neg c18] at H
                    have c18b0 : (t539 == 0) = false := beq_eq_false_iff_ne.mpr c18
                    have c18b1 : (t539 != 0) = true := bne_iff_ne.mpr c18
                    (first | rw [c18b0] | (simp only [i64_w, i32_w]; rw [c18b0]) | (have cn_ := c18b0; simp only [bne] at cn_; rw [cn_]; clear cn_) | skip)
                    obtain rfl := Option.some.inj H
                    go_wp2
                    go_ret
                    exact ⟨by first | rfl | (simp [errW_none, errW_some] <;> rfl) | (simp [*, errW_none, errW_some] <;> rfl), by repeat (first | (with_reducible first | exact HB.out | apply below_alloc | apply pw_below_drewN | apply below_drew1) | exact HB.out)⟩
              case rest =>
                clear HC16
                try clear c1
                try clear p2
                try clear c3
                try clear c3b0
                try clear c3b1
                try clear c6
                try clear c12
                try clear c12b0
                try clear c12b1
                try clear c13
                try clear c13b0
                try clear c13b1
                try clear c15
                try clear c17
                try clear c18
                try clear c18b0
                try clear c18b1
                try clear p2
                obtain ⟨kq, HA, HJ15, HO_3, HB⟩ := hcut
                cases kq with
                | zero => exact absurd HA.out (by simp [laws_FnPickAt.j3])
                | succ kj15 =>
                  have H := HA.out
                  clear HA
                  simp only [laws_FnPickAt.j3] at H
                  by_cases c19 : 0 ≤ t539
                  · rw [if_pos c19] at H
                    have c19b0 : decide (0 ≤ t539) = true := decide_eq_true c19
                    clear c19
                    by_cases c20 : t539 < (t535.length : Int)
                    · rw [if_pos c20] at H
                      have c20b0 : decide (t539 < (t535.length : Int)) = true := decide_eq_true c20
                      clear c20
                      by_cases c21 : 0 ≤ t540
                      · rw [if_pos c21] at H
                        have c21b0 : decide (0 ≤ t540) = true := decide_eq_true c21
                        clear c21
                        by_cases c22 : t540 < ((rd_L13 t535 t539).length : Int)
                        · rw [if_pos c22] at H
                          have c22b0 : decide (t540 < ((rd_L13 t535 t539).length : Int)) = true := decide_eq_true c22
                          clear c22
                          have HC23 := Aside0.mk H
                          clear H
                          have p545 : 0 ≤ (t539 : Int) := of_decide_eq_true (by first | (with_reducible assumption) | assumption)
                          have q545 : t539 < (t535.length : Int) := of_decide_eq_true (by first | (with_reducible assumption) | assumption)
                          obtain ⟨ad545, A545_0, c545_0, e545, hx545_0, hl545_0, hi545_0⟩ := at_L13 (Kd.N_reads' HO_3.out).2.2 t539 p545 q545
                          cases e545
                          obtain ⟨ce545, hce545, hMe545, hcc545⟩ := Kd.N_get HO_3.out [] t539 p545 (by first | exact q545 | exact of_decide_eq_true (by first | (with_reducible assumption) | assumption) | (have e_ := (Kd.N_reads' HO_3.out).1; omega))
                          obtain ⟨ua545_0, uc545_0, rfl, ul545_0, ge545_0⟩ := Kd.FK_slice_open hMe545
                          have hv545_0 := hcc545 0 _ rfl
                          rw [Nat.add_zero, show ((Kd.slice 30 k30)).sz = 1 from rfl, Nat.mul_one] at hv545_0
                          replace hv545_0 := Option.some.inj (hv545_0.symm.trans hx545_0)
                          injection hv545_0 with hva_ hvn_ hvc_
                          rw [hva_] at ge545_0
                          rw [hvc_] at ul545_0
                          have HL545_0 := Aside0.mk (show Kd.V k30 30 _ w.heap.size _ _ (rd_L13 t535 t539) from Kd.V_mk ul545_0 ge545_0)
                          clear hva_ hvn_ hvc_ ge545_0 ul545_0
                          clear hcc545 hce545
                          have HR545_0 := Aside0.mk hi545_0
                          have HC545_0 := Aside0.mk hl545_0
                          clear hi545_0 hl545_0
                          replace p545 := eq_true p545
                          replace q545 := eq_true q545
                          have p546 : 0 ≤ (t540 : Int) := of_decide_eq_true (by first | (with_reducible assumption) | assumption)
                          have q546 : t540 < ((rd_L13 t535 t539).length : Int) := of_decide_eq_true (by first | (with_reducible assumption) | assumption)
                          obtain ⟨ad546, A546_2, c546_2, e546, hx546_0, hx546_1, hx546_2, hl546_2, hi546_2⟩ := at_T30 (by repeat (first | (with_reducible exact HR545_0.out) | (with_reducible refine Kd.C_alloc ?_ _) | (with_reducible refine Kd.C_drewN ?_ _) | (with_reducible refine Kd.C_drew ?_) | exact HR545_0.out)) t540 p546 q546
                          cases e546
                          obtain ⟨ce546, hce546, hMe546, hcc546⟩ := Kd.V_get HL545_0.out z30 t540 p546 (by first | exact q546 | exact of_decide_eq_true (by first | (with_reducible assumption) | assumption) | (have e_ := (Kd.V_reads' HL545_0.out).1; omega))
                          obtain ⟨ua546_2, uc546_2, rfl, ul546_2, ge546_2⟩ := k30_openF hMe546
                          have hv546_2 := hcc546 2 _ rfl
                          rw [add_field _ _ 2 (by omega)] at hv546_2
                          replace hv546_2 := Option.some.inj (hv546_2.symm.trans hx546_2)
                          injection hv546_2 with hva_ hvn_ hvc_
                          rw [hva_] at ge546_2
                          rw [hvc_] at ul546_2
                          have HL546_2 := Aside0.mk (show Kd.V k38 38 _ w.heap.size _ _ ((rd_T30 (rd_L13 t535 t539) t540).f2) from Kd.V_mk ul546_2 ge546_2)
                          clear hva_ hvn_ hvc_ ge546_2 ul546_2
                          clear hcc546 hce546
                          have HR546_2 := Aside0.mk hi546_2
                          have HC546_2 := Aside0.mk hl546_2
                          clear hi546_2 hl546_2
                          replace p546 := eq_true p546
                          replace q546 := eq_true q546
                          go_upto_if 66 with (fail)
                          go_cut [] (fun wc => ∃ (kq : Nat), Aside0 (laws_FnPickAt.j4 kq t535 t538 t539 t540 = some r) ∧ Aside0 (kq ≤ kj15) ∧ Aside0 (Kd.N (Kd.slice 30 k30) 23 wc w.heap.size (fun _ => True) (.slice (some ad545) t535.length co9) t535) ∧ Aside0 (Kd.C k30 wc (some ad546) (rd_L13 t535 t539).length (rd_L13 t535 t539)) ∧ Aside0 (Kd.C k38 wc A546_2 ((rd_T30 (rd_L13 t535 t539) t540).f2).length ((rd_T30 (rd_L13 t535 t539) t540).f2)) ∧ Aside0 (Below w.heap.size w wc))
                          case first =>
                            have H := HC23.out
                            clear HC23
                            by_cases c24 : ((rd_T30 (rd_L13 t535 t539) t540).f0).toList = t538.toList
                            · rw [if_pos c24] at H
                              have c24b0 : (((rd_T30 (rd_L13 t535 t539) t540).f0).toList == t538.toList) = true := beq_iff_eq.mpr c24
                              have c24b1 : (((rd_T30 (rd_L13 t535 t539) t540).f0).toList != t538.toList) = false := bne_eq_false_iff_eq.mpr c24
                              clear c24
                              (first | rw [c24b0] | (simp only [i64_w, i32_w]; rw [c24b0]) | (have cn_ := c24b0; simp only [bne] at cn_; rw [cn_]; clear cn_) | skip)
                              have H' := Aside0.mk H
                              clear H
                              go_wp2
                              go_meet
                              case rel => exact ⟨_, H', ⟨by have := HJ1.out; have := HJ6.out; have := HJ13.out; have := HJ15.out; first | omega | exact Nat.le_refl _⟩, ⟨by (with_reducible repeat (first | apply Kd.N_alloc | apply Kd.N_drewN | apply Kd.N_drew)); exact HO_3.out⟩, ⟨by repeat (first | (with_reducible exact HR545_0.out) | (with_reducible refine Kd.C_alloc ?_ _) | (with_reducible refine Kd.C_drewN ?_ _) | (with_reducible refine Kd.C_drew ?_) | exact HR545_0.out | exact (Kd.V_reads' HL545_0.out).2.2)⟩, ⟨by repeat (first | (with_reducible exact HR546_2.out) | (with_reducible refine Kd.C_alloc ?_ _) | (with_reducible refine Kd.C_drewN ?_ _) | (with_reducible refine Kd.C_drew ?_) | exact HR546_2.out | exact (Kd.V_reads' HL546_2.out).2.2)⟩, ⟨by repeat (first | (with_reducible first | exact HB.out | apply below_alloc | apply pw_below_drewN | apply below_drew1) | exact HB.out)⟩⟩
                            · rw [if_neg c24] at H
                              have c24b0 : (((rd_T30 (rd_L13 t535 t539) t540).f0).toList == t538.toList) = false := beq_eq_false_iff_ne.mpr c24
                              have c24b1 : (((rd_T30 (rd_L13 t535 t539) t540).f0).toList != t538.toList) = true := bne_iff_ne.mpr c24
                              (first | rw [c24b0] | (simp only [i64_w, i32_w]; rw [c24b0]) | (have cn_ := c24b0; simp only [bne] at cn_; rw [cn_]; clear cn_) | skip)
                              obtain rfl := Option.some.inj H
                              go_wp2
                              go_ret
                              exact ⟨by first | rfl | (simp [errW_none, errW_some] <;> rfl) | (simp [*, errW_none, errW_some] <;> rfl), by repeat (first | (with_reducible first | exact HB.out | apply below_alloc | apply pw_below_drewN | apply below_drew1) | exact HB.out)⟩
                          case rest =>
                            clear HC23
                            try clear c1
                            try clear c2
                            try clear p2
                            try clear c3
                            try clear c3b0
                            try clear c3b1
                            try clear c5
                            try clear p5
                            try clear q5
                            try clear hx5
                            try clear c6
                            try clear c12
                            try clear c12b0
                            try clear c12b1
                            try clear c13
                            try clear c13b0
                            try clear c13b1
                            try clear c15
                            try clear c17
                            try clear c18
                            try clear c18b0
                            try clear c18b1
                            try clear c19
                            try clear c19b0
                            try clear c20
                            try clear c20b0
                            try clear c21
                            try clear c21b0
                            try clear c22
                            try clear c22b0
                            try clear c24
                            try clear c24b0
                            try clear c24b1
                            try clear hx545_0
                            try clear hx546_0
                            try clear hx546_1
                            try clear hx546_2
                            try clear p2
                            try clear p545
                            try clear p546
                            try clear q545
                            try clear q546
                            obtain ⟨kq, HA, HJ22, HO_3, HR545_0, HR546_2, HB⟩ := hcut
                            cases kq with
                            | zero => exact absurd HA.out (by simp [laws_FnPickAt.j4])
                            | succ kj22 =>
                              have H := HA.out
                              clear HA
                              simp only [laws_FnPickAt.j4] at H
                              have H' := Aside0.mk H
                              clear H
                              go_wp2
                              go_loopg [11] kj22 (fun kq v11 w' => ∃ (x11_6 : Int), v11 = .int .i64 x11_6 ∧ Aside0 (laws_FnPickAt.l0 kq t535 t538 t539 t540 x11_6 = some r) ∧ Aside0 (kq ≤ kj22) ∧ Aside0 (Kd.N (Kd.slice 30 k30) 23 w' w.heap.size (fun _ => True) (.slice (some ad545) t535.length co9) t535) ∧ Aside0 (Below w.heap.size w w'))
                              case atStart => exact ⟨(0), (by first | rfl | (simp; done) | (simp [*]; done)), H', ⟨Nat.le_refl _⟩, ⟨by (with_reducible repeat (first | apply Kd.N_alloc | apply Kd.N_drewN | apply Kd.N_drew)); exact HO_3.out⟩, ⟨by repeat (first | (with_reducible first | exact HB.out | apply below_alloc | apply pw_below_drewN | apply below_drew1) | exact HB.out)⟩⟩
                              case round =>
                                clear H'
                                try clear c1
                                try clear c2
                                try clear p2
                                try clear c3
                                try clear c3b0
                                try clear c3b1
                                try clear c5
                                try clear p5
                                try clear q5
                                try clear hx5
                                try clear c6
                                try clear c12
                                try clear c12b0
                                try clear c12b1
                                try clear c13
                                try clear c13b0
                                try clear c13b1
                                try clear c15
                                try clear c17
                                try clear c18
                                try clear c18b0
                                try clear c18b1
                                try clear c19
                                try clear c19b0
                                try clear c20
                                try clear c20b0
                                try clear c21
                                try clear c21b0
                                try clear c22
                                try clear c22b0
                                try clear c24
                                try clear c24b0
                                try clear c24b1
                                try clear hx545_0
                                try clear hx546_0
                                try clear hx546_1
                                try clear hx546_2
                                try clear p2
                                try clear p5
                                try clear p545
                                try clear p546
                                try clear q5
                                try clear q545
                                try clear q546
                                obtain ⟨x11_6, rfl, HA, HK6, HO_3, HB⟩ := hrel
                                cases gk with
                                | zero => exact absurd HA.out (by simp [laws_FnPickAt.l0])
                                | succ k6 =>
                                  have H := HA.out
                                  clear HA
                                  simp only [laws_FnPickAt.l0] at H
                                  have HC25 := Aside0.mk H
                                  clear H
                                  go_upto_if 70 with (fail)
                                  go_cut [] (fun wc => ∃ (kq : Nat), Aside0 (laws_FnPickAt.j6 kq t535 t538 t539 t540 x11_6 = some r) ∧ Aside0 (kq ≤ k6) ∧ Aside0 (Kd.N (Kd.slice 30 k30) 23 wc w.heap.size (fun _ => True) (.slice (some ad545) t535.length co9) t535) ∧ Aside0 (Below w.heap.size w wc))
                                  case first =>
                                    have H := HC25.out
                                    clear HC25
                                    by_cases c26 : x11_6 < (t535.length : Int)
                                    · rw [if_pos c26] at H
                                      have c26b0 : decide (x11_6 < (t535.length : Int)) = true := decide_eq_true c26
                                      clear c26
                                      (first | rw [c26b0] | (simp only [i64_w, i32_w]; rw [c26b0]) | (have cn_ := c26b0; simp only [bne] at cn_; rw [cn_]; clear cn_) | skip)
                                      have H' := Aside0.mk H
                                      clear H
                                      go_wp2
                                      go_meet
                                      case rel => exact ⟨_, H', ⟨by have := HJ1.out; have := HJ6.out; have := HJ13.out; have := HJ15.out; have := HJ22.out; have := HK6.out; first | omega | exact Nat.le_refl _⟩, ⟨by (with_reducible repeat (first | apply Kd.N_alloc | apply Kd.N_drewN | apply Kd.N_drew)); exact HO_3.out⟩, ⟨by repeat (first | (with_reducible first | exact HB.out | apply below_alloc | apply pw_below_drewN | apply below_drew1) | exact HB.out)⟩⟩
                                    · rw [if_neg c26] at H
                                      have c26b0 : decide (x11_6 < (t535.length : Int)) = false := decide_eq_false c26
                                      clear c26
                                      (first | rw [c26b0] | (simp only [i64_w, i32_w]; rw [c26b0]) | (have cn_ := c26b0; simp only [bne] at cn_; rw [cn_]; clear cn_) | skip)
                                      obtain rfl := Option.some.inj H
                                      go_wp2
                                      go_ret
                                      exact ⟨by first | rfl | (simp [errW_none, errW_some] <;> rfl) | (simp [*, errW_none, errW_some] <;> rfl), by repeat (first | (with_reducible first | exact HB.out | apply below_alloc | apply pw_below_drewN | apply below_drew1) | exact HB.out)⟩
                                  case rest =>
                                    clear HC25
                                    try clear c1
                                    try clear c2
                                    try clear p2
                                    try clear c3
                                    try clear c3b0
                                    try clear c3b1
                                    try clear c5
                                    try clear p5
                                    try clear q5
                                    try clear hx5
                                    try clear c6
                                    try clear c12
                                    try clear c12b0
                                    try clear c12b1
                                    try clear c13
                                    try clear c13b0
                                    try clear c13b1
                                    try clear c15
                                    try clear c17
                                    try clear c18
                                    try clear c18b0
                                    try clear c18b1
                                    try clear c19
                                    try clear c19b0
                                    try clear c20
                                    try clear c20b0
                                    try clear c21
                                    try clear c21b0
                                    try clear c22
                                    try clear c22b0
                                    try clear c24
                                    try clear c24b0
                                    try clear c24b1
                                    try clear c26
                                    try clear c26b0
                                    try clear hx545_0
                                    try clear hx546_0
                                    try clear hx546_1
                                    try clear hx546_2
                                    try clear p2
                                    try clear p5
                                    try clear p545
                                    try clear p546
                                    try clear q5
                                    try clear q545
                                    try clear q546
                                    obtain ⟨kq, HA, HJ24, HO_3, HB⟩ := hcut
                                    cases kq with
                                    | zero => exact absurd HA.out (by simp [laws_FnPickAt.j6])
                                    | succ kj24 =>
                                      have H := HA.out
                                      clear HA
                                      simp only [laws_FnPickAt.j6] at H
                                      have H' := Aside0.mk H
                                      clear H
                                      go_wp2
                                      go_loopg [12] kj24 (fun kq v12 w' => ∃ (x12_8 : Int), v12 = .int .i64 x12_8 ∧ Aside0 (laws_FnPickAt.l1 kq t535 t538 t539 t540 x11_6 x12_8 = some r) ∧ Aside0 (kq ≤ kj24) ∧ Aside0 (Kd.N (Kd.slice 30 k30) 23 w' w.heap.size (fun _ => True) (.slice (some ad545) t535.length co9) t535) ∧ Aside0 (Below w.heap.size w w'))
                                      case atStart => exact ⟨(0), (by first | rfl | (simp; done) | (simp [*]; done)), H', ⟨Nat.le_refl _⟩, ⟨by (with_reducible repeat (first | apply Kd.N_alloc | apply Kd.N_drewN | apply Kd.N_drew)); exact HO_3.out⟩, ⟨by repeat (first | (with_reducible first | exact HB.out | apply below_alloc | apply pw_below_drewN | apply below_drew1) | exact HB.out)⟩⟩
                                      case round =>
                                        clear H'
                                        try clear c1
                                        try clear c2
                                        try clear p2
                                        try clear c3
                                        try clear c3b0
                                        try clear c3b1
                                        try clear c5
                                        try clear p5
                                        try clear q5
                                        try clear hx5
                                        try clear c6
                                        try clear c12
                                        try clear c12b0
                                        try clear c12b1
                                        try clear c13
                                        try clear c13b0
                                        try clear c13b1
                                        try clear c15
                                        try clear c17
                                        try clear c18
                                        try clear c18b0
                                        try clear c18b1
                                        try clear c19
                                        try clear c19b0
                                        try clear c20
                                        try clear c20b0
                                        try clear c21
                                        try clear c21b0
                                        try clear c22
                                        try clear c22b0
                                        try clear c24
                                        try clear c24b0
                                        try clear c24b1
                                        try clear c26
                                        try clear c26b0
                                        try clear hx545_0
                                        try clear hx546_0
                                        try clear hx546_1
                                        try clear hx546_2
                                        try clear p2
                                        try clear p5
                                        try clear p545
                                        try clear p546
                                        try clear q5
                                        try clear q545
                                        try clear q546
                                        obtain ⟨x12_8, rfl, HA, HK8, HO_3, HB⟩ := hrel
                                        cases gk with
                                        | zero => exact absurd HA.out (by simp [laws_FnPickAt.l1])
                                        | succ k8 =>
                                          have H := HA.out
                                          clear HA
                                          simp only [laws_FnPickAt.l1] at H
                                          by_cases c27 : 0 ≤ x11_6
                                          · rw [if_pos c27] at H
                                            have c27b0 : decide (0 ≤ x11_6) = true := decide_eq_true c27
                                            clear c27
                                            by_cases c28 : x11_6 < (t535.length : Int)
                                            · rw [if_pos c28] at H
                                              have c28b0 : decide (x11_6 < (t535.length : Int)) = true := decide_eq_true c28
                                              clear c28
                                              have HC29 := Aside0.mk H
                                              clear H
                                              have p547 : 0 ≤ (x11_6 : Int) := of_decide_eq_true (by first | (with_reducible assumption) | assumption)
                                              have q547 : x11_6 < (t535.length : Int) := of_decide_eq_true (by first | (with_reducible assumption) | assumption)
                                              obtain ⟨ad547, A547_0, c547_0, e547, hx547_0, hl547_0, hi547_0⟩ := at_L13 (Kd.N_reads' HO_3.out).2.2 x11_6 p547 q547
                                              obtain rfl : ad545 = ad547 := (by injection e547)
                                              obtain ⟨ce547, hce547, hMe547, hcc547⟩ := Kd.N_get HO_3.out [] x11_6 p547 (by first | exact q547 | exact of_decide_eq_true (by first | (with_reducible assumption) | assumption) | (have e_ := (Kd.N_reads' HO_3.out).1; omega))
                                              obtain ⟨ua547_0, uc547_0, rfl, ul547_0, ge547_0⟩ := Kd.FK_slice_open hMe547
                                              have hv547_0 := hcc547 0 _ rfl
                                              rw [Nat.add_zero, show ((Kd.slice 30 k30)).sz = 1 from rfl, Nat.mul_one] at hv547_0
                                              replace hv547_0 := Option.some.inj (hv547_0.symm.trans hx547_0)
                                              injection hv547_0 with hva_ hvn_ hvc_
                                              rw [hva_] at ge547_0
                                              rw [hvc_] at ul547_0
                                              have HL547_0 := Aside0.mk (show Kd.V k30 30 _ w.heap.size _ _ (rd_L13 t535 x11_6) from Kd.V_mk ul547_0 ge547_0)
                                              clear hva_ hvn_ hvc_ ge547_0 ul547_0
                                              clear hcc547 hce547
                                              have HR547_0 := Aside0.mk hi547_0
                                              have HC547_0 := Aside0.mk hl547_0
                                              clear hi547_0 hl547_0
                                              replace p547 := eq_true p547
                                              replace q547 := eq_true q547
                                              go_upto_if 79 with (fail)
                                              go_cut [] (fun wc => ∃ (kq : Nat), Aside0 (laws_FnPickAt.j8 kq t535 t538 t539 t540 x11_6 x12_8 = some r) ∧ Aside0 (kq ≤ k8) ∧ Aside0 (Kd.N (Kd.slice 30 k30) 23 wc w.heap.size (fun _ => True) (.slice (some ad545) t535.length co9) t535) ∧ Aside0 (Kd.C k30 wc A547_0 (rd_L13 t535 x11_6).length (rd_L13 t535 x11_6)) ∧ Aside0 (Below w.heap.size w wc))
                                              case first =>
                                                have H := HC29.out
                                                clear HC29
                                                by_cases c30 : x12_8 < ((rd_L13 t535 x11_6).length : Int)
                                                · rw [if_pos c30] at H
                                                  have c30b0 : decide (x12_8 < ((rd_L13 t535 x11_6).length : Int)) = true := decide_eq_true c30
                                                  clear c30
                                                  (first | rw [c30b0] | (simp only [i64_w, i32_w]; rw [c30b0]) | (have cn_ := c30b0; simp only [bne] at cn_; rw [cn_]; clear cn_) | skip)
                                                  have H' := Aside0.mk H
                                                  clear H
                                                  go_wp2
                                                  go_meet
                                                  case rel => exact ⟨_, H', ⟨by have := HJ1.out; have := HJ6.out; have := HJ13.out; have := HJ15.out; have := HJ22.out; have := HK6.out; have := HJ24.out; have := HK8.out; first | omega | exact Nat.le_refl _⟩, ⟨by (with_reducible repeat (first | apply Kd.N_alloc | apply Kd.N_drewN | apply Kd.N_drew)); exact HO_3.out⟩, ⟨by repeat (first | (with_reducible exact HR547_0.out) | (with_reducible refine Kd.C_alloc ?_ _) | (with_reducible refine Kd.C_drewN ?_ _) | (with_reducible refine Kd.C_drew ?_) | exact HR547_0.out | exact (Kd.V_reads' HL547_0.out).2.2)⟩, ⟨by repeat (first | (with_reducible first | exact HB.out | apply below_alloc | apply pw_below_drewN | apply below_drew1) | exact HB.out)⟩⟩
                                                · rw [if_neg c30] at H
                                                  have c30b0 : decide (x12_8 < ((rd_L13 t535 x11_6).length : Int)) = false := decide_eq_false c30
                                                  clear c30
                                                  (first | rw [c30b0] | (simp only [i64_w, i32_w]; rw [c30b0]) | (have cn_ := c30b0; simp only [bne] at cn_; rw [cn_]; clear cn_) | skip)
                                                  have H' := Aside0.mk H
                                                  clear H
                                                  go_wp2
                                                  go_roundg k8
                                                  case measure => have := HJ1.out; have := HJ6.out; have := HJ13.out; have := HJ15.out; have := HJ22.out; have := HK6.out; have := HJ24.out; have := HK8.out; omega
                                                  case rel => exact ⟨(wrap64 (x11_6 + 1)), (by first | rfl | (simp; done) | (simp [*]; done)), H', ⟨by have := HJ1.out; have := HJ6.out; have := HJ13.out; have := HJ15.out; have := HJ22.out; have := HK6.out; have := HJ24.out; have := HK8.out; omega⟩, ⟨by (with_reducible repeat (first | apply Kd.N_alloc | apply Kd.N_drewN | apply Kd.N_drew)); exact HO_3.out⟩, ⟨by repeat (first | (with_reducible first | exact HB.out | apply below_alloc | apply pw_below_drewN | apply below_drew1) | exact HB.out)⟩⟩
                                              case rest =>
                                                clear HC29
                                                try clear c1
                                                try clear c2
                                                try clear p2
                                                try clear c3
                                                try clear c3b0
                                                try clear c3b1
                                                try clear c5
                                                try clear p5
                                                try clear q5
                                                try clear hx5
                                                try clear c6
                                                try clear p6
                                                try clear c12
                                                try clear c12b0
                                                try clear c12b1
                                                try clear c13
                                                try clear c13b0
                                                try clear c13b1
                                                try clear c15
                                                try clear c17
                                                try clear c18
                                                try clear c18b0
                                                try clear c18b1
                                                try clear c19
                                                try clear c19b0
                                                try clear c20
                                                try clear c20b0
                                                try clear c21
                                                try clear c21b0
                                                try clear c22
                                                try clear c22b0
                                                try clear c24
                                                try clear c24b0
                                                try clear c24b1
                                                try clear c26
                                                try clear c26b0
                                                try clear c27
                                                try clear c27b0
                                                try clear c28
                                                try clear c28b0
                                                try clear c30
                                                try clear c30b0
                                                try clear hx545_0
                                                try clear hx546_0
                                                try clear hx546_1
                                                try clear hx546_2
                                                try clear hx547_0
                                                try clear p2
                                                try clear p5
                                                try clear p545
                                                try clear p546
                                                try clear p547
                                                try clear q5
                                                try clear q545
                                                try clear q546
                                                try clear q547
                                                obtain ⟨kq, HA, HJ28, HO_3, HR547_0, HB⟩ := hcut
                                                cases kq with
                                                | zero => exact absurd HA.out (by simp [laws_FnPickAt.j8])
                                                | succ kj28 =>
                                                  have H := HA.out
                                                  clear HA
                                                  simp only [laws_FnPickAt.j8] at H
                                                  by_cases c31 : 0 ≤ x11_6
                                                  · rw [if_pos c31] at H
                                                    have c31b0 : decide (0 ≤ x11_6) = true := decide_eq_true c31
                                                    clear c31
                                                    by_cases c32 : x11_6 < (t535.length : Int)
                                                    · rw [if_pos c32] at H
                                                      have c32b0 : decide (x11_6 < (t535.length : Int)) = true := decide_eq_true c32
                                                      clear c32
                                                      by_cases c33 : 0 ≤ x12_8
                                                      · rw [if_pos c33] at H
                                                        have c33b0 : decide (0 ≤ x12_8) = true := decide_eq_true c33
                                                        clear c33
                                                        by_cases c34 : x12_8 < ((rd_L13 t535 x11_6).length : Int)
                                                        · rw [if_pos c34] at H
                                                          have c34b0 : decide (x12_8 < ((rd_L13 t535 x11_6).length : Int)) = true := decide_eq_true c34
                                                          clear c34
                                                          have HC35 := Aside0.mk H
                                                          clear H
                                                          have p548 : 0 ≤ (x11_6 : Int) := of_decide_eq_true (by first | (with_reducible assumption) | assumption)
                                                          have q548 : x11_6 < (t535.length : Int) := of_decide_eq_true (by first | (with_reducible assumption) | assumption)
                                                          obtain ⟨ad548, A548_0, c548_0, e548, hx548_0, hl548_0, hi548_0⟩ := at_L13 (Kd.N_reads' HO_3.out).2.2 x11_6 p548 q548
                                                          obtain rfl : ad545 = ad548 := (by injection e548)
                                                          obtain ⟨ce548, hce548, hMe548, hcc548⟩ := Kd.N_get HO_3.out [] x11_6 p548 (by first | exact q548 | exact of_decide_eq_true (by first | (with_reducible assumption) | assumption) | (have e_ := (Kd.N_reads' HO_3.out).1; omega))
                                                          obtain ⟨ua548_0, uc548_0, rfl, ul548_0, ge548_0⟩ := Kd.FK_slice_open hMe548
                                                          have hv548_0 := hcc548 0 _ rfl
                                                          rw [Nat.add_zero, show ((Kd.slice 30 k30)).sz = 1 from rfl, Nat.mul_one] at hv548_0
                                                          replace hv548_0 := Option.some.inj (hv548_0.symm.trans hx548_0)
                                                          injection hv548_0 with hva_ hvn_ hvc_
                                                          rw [hva_] at ge548_0
                                                          rw [hvc_] at ul548_0
                                                          have HL548_0 := Aside0.mk (show Kd.V k30 30 _ w.heap.size _ _ (rd_L13 t535 x11_6) from Kd.V_mk ul548_0 ge548_0)
                                                          clear hva_ hvn_ hvc_ ge548_0 ul548_0
                                                          clear hcc548 hce548
                                                          have HR548_0 := Aside0.mk hi548_0
                                                          have HC548_0 := Aside0.mk hl548_0
                                                          clear hi548_0 hl548_0
                                                          replace p548 := eq_true p548
                                                          replace q548 := eq_true q548
                                                          have p549 : 0 ≤ (x12_8 : Int) := of_decide_eq_true (by first | (with_reducible assumption) | assumption)
                                                          have q549 : x12_8 < ((rd_L13 t535 x11_6).length : Int) := of_decide_eq_true (by first | (with_reducible assumption) | assumption)
                                                          obtain ⟨ad549, A549_2, c549_2, e549, hx549_0, hx549_1, hx549_2, hl549_2, hi549_2⟩ := at_T30 (by repeat (first | (with_reducible exact HR548_0.out) | (with_reducible refine Kd.C_alloc ?_ _) | (with_reducible refine Kd.C_drewN ?_ _) | (with_reducible refine Kd.C_drew ?_) | exact HR548_0.out)) x12_8 p549 q549
                                                          cases e549
                                                          obtain ⟨ce549, hce549, hMe549, hcc549⟩ := Kd.V_get HL548_0.out z30 x12_8 p549 (by first | exact q549 | exact of_decide_eq_true (by first | (with_reducible assumption) | assumption) | (have e_ := (Kd.V_reads' HL548_0.out).1; omega))
                                                          obtain ⟨ua549_2, uc549_2, rfl, ul549_2, ge549_2⟩ := k30_openF hMe549
                                                          have hv549_2 := hcc549 2 _ rfl
                                                          rw [add_field _ _ 2 (by omega)] at hv549_2
                                                          replace hv549_2 := Option.some.inj (hv549_2.symm.trans hx549_2)
                                                          injection hv549_2 with hva_ hvn_ hvc_
                                                          rw [hva_] at ge549_2
                                                          rw [hvc_] at ul549_2
                                                          have HL549_2 := Aside0.mk (show Kd.V k38 38 _ w.heap.size _ _ ((rd_T30 (rd_L13 t535 x11_6) x12_8).f2) from Kd.V_mk ul549_2 ge549_2)
                                                          clear hva_ hvn_ hvc_ ge549_2 ul549_2
                                                          clear hcc549 hce549
                                                          have HR549_2 := Aside0.mk hi549_2
                                                          have HC549_2 := Aside0.mk hl549_2
                                                          clear hi549_2 hl549_2
                                                          replace p549 := eq_true p549
                                                          replace q549 := eq_true q549
                                                          go_upto_region 19 with (first | ((with_reducible refine gate_dst (N := 13) rfl ?_); refine box_event ?hg (N := 13) ?hd (cs := #[.string (⟨#[]⟩ : ByteArray), .bool false, .slice none 0 0]) (t := 30) ?hr ?_; (case hd => rfl); (case hg => rfl); (case hr => first | (go_simp; done) | (go_simp; rfl)); intro gb550 hg w36 hbox hb; have n0_ := Aside0.mk (Kd.N_below (Kd.N_elderB (by (with_reducible repeat (first | apply Kd.N_alloc | apply Kd.N_drewN | apply Kd.N_drew)); exact HO_3.out) gb550 (Nat.le_of_eq hg.symm)) hb); have n1_ := Aside0.mk (Kd.V_below (Kd.V_elderB (by (with_reducible repeat (first | apply Kd.V_alloc | apply Kd.V_drewN | apply Kd.V_drew)); exact HL548_0.out) gb550 (Nat.le_of_eq hg.symm)) hb); have n2_ := Aside0.mk (Kd.V_below (Kd.V_elderB (by (with_reducible repeat (first | apply Kd.V_alloc | apply Kd.V_drewN | apply Kd.V_drew)); exact HL549_2.out) gb550 (Nat.le_of_eq hg.symm)) hb); have n3_ := Aside0.mk (Kd.C_below (by repeat (first | (with_reducible exact HR547_0.out) | (with_reducible refine Kd.C_alloc ?_ _) | (with_reducible refine Kd.C_drewN ?_ _) | (with_reducible refine Kd.C_drew ?_) | exact HR547_0.out)) hb); have n4_ := Aside0.mk (Kd.C_below (by repeat (first | (with_reducible exact HR548_0.out) | (with_reducible refine Kd.C_alloc ?_ _) | (with_reducible refine Kd.C_drewN ?_ _) | (with_reducible refine Kd.C_drew ?_) | exact HR548_0.out)) hb); have n5_ := Aside0.mk (Kd.C_below (by repeat (first | (with_reducible exact HR549_2.out) | (with_reducible refine Kd.C_alloc ?_ _) | (with_reducible refine Kd.C_drewN ?_ _) | (with_reducible refine Kd.C_drew ?_) | exact HR549_2.out)) hb); have n6_ := Aside0.mk (below_step (by repeat (first | (with_reducible first | exact HB.out | apply below_alloc | apply pw_below_drewN | apply below_drew1) | exact HB.out)) hb); have n7_ := Aside0.mk (hbox); have n8_ := Aside0.mk ((by rw [hg]; exact (below_size (by repeat (first | (with_reducible first | exact HB.out | apply below_alloc | apply pw_below_drewN | apply below_drew1) | exact HB.out))) : w.heap.size ≤ gb550)); have n9_ := Aside0.mk ((by rw [hg]; exact (below_size (by repeat (first | (with_reducible first | exact HB.out | apply below_alloc | apply pw_below_drewN | apply below_drew1) | exact HB.out))) : w.heap.size ≤ gb550)); clear HO_3; clear HL548_0; clear HL549_2; clear HR547_0; clear HR548_0; clear HR549_2; clear HB; have HO_3 := n0_; have HL548_0 := n1_; have HL549_2 := n2_; have HR547_0 := n3_; have HR548_0 := n4_; have HR549_2 := n5_; have HB := n6_; have BK550 := n7_; have GW550 := n8_; have GE550 := n9_; clear n0_ n1_ n2_ n3_ n4_ n5_ n6_ n7_ n8_ n9_; clear hb hbox hg; have hcz37_0 : w36.cell? ⟨gb550, 0, none⟩ = some (.string (⟨#[]⟩ : ByteArray)) := (blk_cell BK550.out 0).trans rfl; have hcz37_1 : w36.cell? ⟨gb550, 1, none⟩ = some (.bool false) := (blk_cell BK550.out 1).trans rfl; have hcz37_2 : w36.cell? ⟨gb550, 2, none⟩ = some (.slice none 0 0) := (blk_cell BK550.out 2).trans rfl; have hfz37_0 := blk_frozen BK550.out 0; have hfz37_1 := blk_frozen BK550.out 1; have hfz37_2 := blk_frozen BK550.out 2) | ((with_reducible refine gate_store (t := 30) (p := 13) rfl ?_); refine store_event (t := 30) (p := 13) (v := ?vo_w38) (w1 := (((w36.setCell ⟨gb550, 0, none⟩ (.string ((rd_T30 (rd_L13 t535 x11_6) x12_8).f0))).setCell ⟨gb550, 1, none⟩ (.bool ((rd_T30 (rd_L13 t535 x11_6) x12_8).f1))).setCell ⟨gb550, 2, none⟩ (.slice A549_2 ((rd_T30 (rd_L13 t535 x11_6) x12_8).f2).length c549_2))) ?hg ?ho ?hn ?hr ?_; (case ho => rfl); (case hg => rfl); (case hn => rfl); (case hr => first | (go_simp; done) | (go_simp; rfl) | ((try (obtain ⟨_, _, e_⟩ := Kd.N_slice HO_3.out; subst e_)); (try (obtain ⟨_, _, e_⟩ := Kd.V_slice HL548_0.out; subst e_)); (try (obtain ⟨_, _, e_⟩ := Kd.V_slice HL549_2.out; subst e_)); first | (go_simp; done) | (go_simp; rfl))); intro w38 hw; have n0_ : Aside0 (Kd.N (Kd.slice 30 k30) 23 w38 w.heap.size (fun k_ => k_ ≠ gb550) (.slice (some ad545) t535.length co9) t535) := ⟨(by rw [hw]; exact (by (with_reducible repeat (first | apply Kd.N_alloc | apply Kd.N_drewN | apply Kd.N_drew)); exact Kd.N_mono (Kd.N_far (p := ⟨gb550, 2, none⟩) (Kd.N_far (p := ⟨gb550, 1, none⟩) (Kd.N_far (p := ⟨gb550, 0, none⟩) (Kd.N_mono HO_3.out (fun k_ hk => (⟨hk, hk.2⟩ : _ ∧ k_ ≠ gb550))) (fun _ hk => hk.2) (.string ((rd_T30 (rd_L13 t535 x11_6) x12_8).f0))) (fun _ hk => hk.2) (.bool ((rd_T30 (rd_L13 t535 x11_6) x12_8).f1))) (fun _ hk => hk.2) (.slice A549_2 ((rd_T30 (rd_L13 t535 x11_6) x12_8).f2).length c549_2)) (fun _ hk => hk.1.2)))⟩; have n1_ : Aside0 (Kd.V k30 30 w38 w.heap.size (fun k_ => some k_ ≠ (.slice (some ad545) t535.length co9 : Value).ownBlock ∧ k_ ≠ gb550) (.slice (some ad549) (rd_L13 t535 x11_6).length c548_0) (rd_L13 t535 x11_6)) := ⟨(by rw [hw]; exact (by (with_reducible repeat (first | apply Kd.V_alloc | apply Kd.V_drewN | apply Kd.V_drew)); exact Kd.V_mono (Kd.V_far (p := ⟨gb550, 2, none⟩) (Kd.V_far (p := ⟨gb550, 1, none⟩) (Kd.V_far (p := ⟨gb550, 0, none⟩) (Kd.V_mono HL548_0.out (fun k_ hk => (⟨hk, hk.2⟩ : _ ∧ k_ ≠ gb550))) (fun _ hk => hk.2) (.string ((rd_T30 (rd_L13 t535 x11_6) x12_8).f0))) (fun _ hk => hk.2) (.bool ((rd_T30 (rd_L13 t535 x11_6) x12_8).f1))) (fun _ hk => hk.2) (.slice A549_2 ((rd_T30 (rd_L13 t535 x11_6) x12_8).f2).length c549_2)) (fun _ hk => ⟨hk.1.1.2, hk.1.2⟩)))⟩; have n2_ : Aside0 (Kd.V k38 38 w38 w.heap.size (fun k_ => some k_ ≠ (.slice (some ad545) t535.length co9 : Value).ownBlock ∧ k_ ≠ gb550) (.slice A549_2 ((rd_T30 (rd_L13 t535 x11_6) x12_8).f2).length c549_2) ((rd_T30 (rd_L13 t535 x11_6) x12_8).f2)) := ⟨(by rw [hw]; exact (by (with_reducible repeat (first | apply Kd.V_alloc | apply Kd.V_drewN | apply Kd.V_drew)); exact Kd.V_mono (Kd.V_far (p := ⟨gb550, 2, none⟩) (Kd.V_far (p := ⟨gb550, 1, none⟩) (Kd.V_far (p := ⟨gb550, 0, none⟩) (Kd.V_mono HL549_2.out (fun k_ hk => (⟨hk, hk.2⟩ : _ ∧ k_ ≠ gb550))) (fun _ hk => hk.2) (.string ((rd_T30 (rd_L13 t535 x11_6) x12_8).f0))) (fun _ hk => hk.2) (.bool ((rd_T30 (rd_L13 t535 x11_6) x12_8).f1))) (fun _ hk => hk.2) (.slice A549_2 ((rd_T30 (rd_L13 t535 x11_6) x12_8).f2).length c549_2)) (fun _ hk => ⟨hk.1.1.2, hk.1.2⟩)))⟩; have n3_ : Aside0 (w38.heap[gb550]? = some (.cells #[.string ((rd_T30 (rd_L13 t535 x11_6) x12_8).f0), .bool ((rd_T30 (rd_L13 t535 x11_6) x12_8).f1), .slice A549_2 ((rd_T30 (rd_L13 t535 x11_6) x12_8).f2).length c549_2] 30 (0, 0))) := ⟨(by rw [hw]; exact (by (with_reducible repeat (first | refine blk_drewN ?_ _ | refine blk_drew ?_ | refine blk_alloc ?_ _)); refine blk_put (cs := #[.string ((rd_T30 (rd_L13 t535 x11_6) x12_8).f0), .bool ((rd_T30 (rd_L13 t535 x11_6) x12_8).f1), .slice none 0 0]) ?_ 2 _ rfl; (with_reducible repeat (first | refine blk_drewN ?_ _ | refine blk_drew ?_ | refine blk_alloc ?_ _)); refine blk_put (cs := #[.string ((rd_T30 (rd_L13 t535 x11_6) x12_8).f0), .bool false, .slice none 0 0]) ?_ 1 _ rfl; (with_reducible repeat (first | refine blk_drewN ?_ _ | refine blk_drew ?_ | refine blk_alloc ?_ _)); refine blk_put (cs := #[.string (⟨#[]⟩ : ByteArray), .bool false, .slice none 0 0]) ?_ 0 _ rfl; (with_reducible repeat (first | refine blk_drewN ?_ _ | refine blk_drew ?_ | refine blk_alloc ?_ _)); exact BK550.out))⟩; have n4_ : Aside0 (Below w.heap.size w w38) := ⟨(by rw [hw]; exact (by repeat (first | (with_reducible first | exact HB.out | apply below_alloc | apply pw_below_drewN | apply below_drew1 | refine below_set ?_ GE550.out) | exact HB.out)))⟩; clear hw; clear HO_3; clear HL548_0; clear HL549_2; clear BK550; clear HB; have HO_3 := n0_; have HL548_0 := n1_; have HL549_2 := n2_; have BK550 := n3_; have HB := n4_; clear n0_ n1_ n2_ n3_ n4_))
                                                          (try simp only [Act.put, List.setIfInBounds_toArray, List.set_cons_zero, List.set_cons_succ])
                                                          go_cut [133] (fun v133 wc => ∃ (kq : Nat) (x133_34 : Bool), v133 = .bool x133_34 ∧ Aside0 (laws_FnPickAt.j9 kq t535 t538 t539 t540 x11_6 x12_8 x133_34 = some r) ∧ Aside0 (kq ≤ kj28) ∧ Aside0 (Kd.N (Kd.slice 30 k30) 23 wc w.heap.size (fun _ => True) (.slice (some ad545) t535.length co9) t535) ∧ Aside0 (Kd.C k30 wc (some ad549) (rd_L13 t535 x11_6).length (rd_L13 t535 x11_6)) ∧ Aside0 (Kd.C k38 wc A549_2 ((rd_T30 (rd_L13 t535 x11_6) x12_8).f2).length ((rd_T30 (rd_L13 t535 x11_6) x12_8).f2)) ∧ Aside0 (Below w.heap.size w wc))
                                                          case first =>
                                                            have H := HC35.out
                                                            clear HC35
                                                            by_cases c39 : ((rd_T30 (rd_L13 t535 x11_6) x12_8).f0).toList = t538.toList
                                                            · rw [if_pos c39] at H
                                                              have c39b0 : (((rd_T30 (rd_L13 t535 x11_6) x12_8).f0).toList == t538.toList) = true := beq_iff_eq.mpr c39
                                                              have c39b1 : (((rd_T30 (rd_L13 t535 x11_6) x12_8).f0).toList != t538.toList) = false := bne_eq_false_iff_eq.mpr c39
                                                              clear c39
                                                              (first | rw [c39b0] | (simp only [i64_w, i32_w]; rw [c39b0]) | (have cn_ := c39b0; simp only [bne] at cn_; rw [cn_]; clear cn_) | skip)
                                                              by_cases c40 : 0 ≤ t539
                                                              · rw [if_pos c40] at H
                                                                have c40b0 : decide (0 ≤ t539) = true := decide_eq_true c40
                                                                clear c40
                                                                by_cases c41 : t539 < (t535.length : Int)
                                                                · rw [if_pos c41] at H
                                                                  have c41b0 : decide (t539 < (t535.length : Int)) = true := decide_eq_true c41
                                                                  clear c41
                                                                  by_cases c42 : 0 ≤ t540
                                                                  · rw [if_pos c42] at H
                                                                    have c42b0 : decide (0 ≤ t540) = true := decide_eq_true c42
                                                                    clear c42
                                                                    by_cases c43 : t540 < ((rd_L13 t535 t539).length : Int)
                                                                    · rw [if_pos c43] at H
                                                                      have c43b0 : decide (t540 < ((rd_L13 t535 t539).length : Int)) = true := decide_eq_true c43
                                                                      clear c43
                                                                      obtain ⟨bq44, hbq44⟩ : ∃ b_ : Bool, b_ = ((rd_T30 (rd_L13 t535 t539) t540).f1) := ⟨_, rfl⟩
                                                                      replace H : (if bq44 = true then (if ((rd_T30 (rd_L13 t535 x11_6) x12_8).f1 = true) then (if x11_6 < t539 then (laws_FnPickAt.j9 kj28 t535 t538 t539 t540 x11_6 x12_8 true) else (if (bq44 = true) then (laws_FnPickAt.j9 kj28 t535 t538 t539 t540 x11_6 x12_8 false) else (laws_FnPickAt.j9 kj28 t535 t538 t539 t540 x11_6 x12_8 false))) else (laws_FnPickAt.j9 kj28 t535 t538 t539 t540 x11_6 x12_8 true)) else (if (bq44 = true) then (laws_FnPickAt.j9 kj28 t535 t538 t539 t540 x11_6 x12_8 false) else (if ((rd_T30 (rd_L13 t535 x11_6) x12_8).f1 = true) then (laws_FnPickAt.j9 kj28 t535 t538 t539 t540 x11_6 x12_8 false) else (laws_FnPickAt.j9 kj28 t535 t538 t539 t540 x11_6 x12_8 (decide (x11_6 < t539)))))) = some r := by rw [← hbq44] at H; exact H
                                                                      have Nbq44 := Aside0.mk hbq44
                                                                      clear hbq44
                                                                      by_cases c45 : bq44 = true
                                                                      · subst c45
                                                                        have H1 : (if ((rd_T30 (rd_L13 t535 x11_6) x12_8).f1 = true) then (if x11_6 < t539 then (laws_FnPickAt.j9 kj28 t535 t538 t539 t540 x11_6 x12_8 true) else (if (true = true) then (laws_FnPickAt.j9 kj28 t535 t538 t539 t540 x11_6 x12_8 false) else (laws_FnPickAt.j9 kj28 t535 t538 t539 t540 x11_6 x12_8 false))) else (laws_FnPickAt.j9 kj28 t535 t538 t539 t540 x11_6 x12_8 true)) = some r := by rw [if_pos rfl] at H; exact H
                                                                        clear H
                                                                        have H := H1
                                                                        clear H1
                                                                        obtain ⟨bq46, hbq46⟩ : ∃ b_ : Bool, b_ = ((rd_T30 (rd_L13 t535 x11_6) x12_8).f1) := ⟨_, rfl⟩
                                                                        replace H : (if (bq46 = true) then (if x11_6 < t539 then (laws_FnPickAt.j9 kj28 t535 t538 t539 t540 x11_6 x12_8 true) else (if (true = true) then (laws_FnPickAt.j9 kj28 t535 t538 t539 t540 x11_6 x12_8 false) else (laws_FnPickAt.j9 kj28 t535 t538 t539 t540 x11_6 x12_8 false))) else (laws_FnPickAt.j9 kj28 t535 t538 t539 t540 x11_6 x12_8 true)) = some r := by rw [← hbq46] at H; exact H
                                                                        have Nbq46 := Aside0.mk hbq46
                                                                        clear hbq46
                                                                        by_cases c47 : (bq46 = true)
                                                                        · subst c47
                                                                          have H1 : (if x11_6 < t539 then (laws_FnPickAt.j9 kj28 t535 t538 t539 t540 x11_6 x12_8 true) else (if (true = true) then (laws_FnPickAt.j9 kj28 t535 t538 t539 t540 x11_6 x12_8 false) else (laws_FnPickAt.j9 kj28 t535 t538 t539 t540 x11_6 x12_8 false))) = some r := by rw [if_pos rfl] at H; exact H
                                                                          clear H
                                                                          have H := H1
                                                                          clear H1
                                                                          by_cases c48 : x11_6 < t539
                                                                          · rw [if_pos c48] at H
                                                                            have c48b0 : decide (x11_6 < t539) = true := decide_eq_true c48
                                                                            clear c48
                                                                            have H' := Aside0.mk H
                                                                            clear H
                                                                            have hcz49_0 : w38.cell? ⟨gb550, 0, none⟩ = some (.string ((rd_T30 (rd_L13 t535 x11_6) x12_8).f0)) := (blk_cell BK550.out 0).trans rfl
                                                                            have hcz49_1 : w38.cell? ⟨gb550, 1, none⟩ = some (.bool true) := (blk_cell BK550.out 1).trans (by first | rfl | (rw [← Nbq46.out] <;> rfl) | (rw [← Nbq44.out] <;> rfl))
                                                                            have hcz49_2 : w38.cell? ⟨gb550, 2, none⟩ = some (.slice A549_2 ((rd_T30 (rd_L13 t535 x11_6) x12_8).f2).length c549_2) := (blk_cell BK550.out 2).trans rfl
                                                                            have hfz49_0 := blk_frozen BK550.out 0
                                                                            have hfz49_1 := blk_frozen BK550.out 1
                                                                            have hfz49_2 := blk_frozen BK550.out 2
                                                                            have p551 : 0 ≤ (t539 : Int) := of_decide_eq_true (by first | (with_reducible assumption) | assumption)
                                                                            have q551 : t539 < (t535.length : Int) := of_decide_eq_true (by first | (with_reducible assumption) | assumption)
                                                                            obtain ⟨ad551, A551_0, c551_0, e551, hx551_0, hl551_0, hi551_0⟩ := at_L13 (Kd.N_reads' HO_3.out).2.2 t539 p551 q551
                                                                            obtain rfl : ad545 = ad551 := (by injection e551)
                                                                            obtain ⟨ce551, hce551, hMe551, hcc551⟩ := Kd.N_get HO_3.out [] t539 p551 (by first | exact q551 | exact of_decide_eq_true (by first | (with_reducible assumption) | assumption) | (have e_ := (Kd.N_reads' HO_3.out).1; omega))
                                                                            obtain ⟨ua551_0, uc551_0, rfl, ul551_0, ge551_0⟩ := Kd.FK_slice_open hMe551
                                                                            have hv551_0 := hcc551 0 _ rfl
                                                                            rw [Nat.add_zero, show ((Kd.slice 30 k30)).sz = 1 from rfl, Nat.mul_one] at hv551_0
                                                                            replace hv551_0 := Option.some.inj (hv551_0.symm.trans hx551_0)
                                                                            injection hv551_0 with hva_ hvn_ hvc_
                                                                            rw [hva_] at ge551_0
                                                                            rw [hvc_] at ul551_0
                                                                            have HL551_0 := Aside0.mk (show Kd.V k30 30 _ w.heap.size _ _ (rd_L13 t535 t539) from Kd.V_mk ul551_0 ge551_0)
                                                                            clear hva_ hvn_ hvc_ ge551_0 ul551_0
                                                                            clear hcc551 hce551
                                                                            have HR551_0 := Aside0.mk hi551_0
                                                                            have HC551_0 := Aside0.mk hl551_0
                                                                            clear hi551_0 hl551_0
                                                                            replace p551 := eq_true p551
                                                                            replace q551 := eq_true q551
                                                                            have p552 : 0 ≤ (t540 : Int) := of_decide_eq_true (by first | (with_reducible assumption) | assumption)
                                                                            have q552 : t540 < ((rd_L13 t535 t539).length : Int) := of_decide_eq_true (by first | (with_reducible assumption) | assumption)
                                                                            obtain ⟨ad552, A552_2, c552_2, e552, hx552_0, hx552_1, hx552_2, hl552_2, hi552_2⟩ := at_T30 (by repeat (first | (with_reducible exact HR551_0.out) | (with_reducible refine Kd.C_alloc ?_ _) | (with_reducible refine Kd.C_drewN ?_ _) | (with_reducible refine Kd.C_drew ?_) | exact HR551_0.out)) t540 p552 q552
                                                                            (try rw [← Nbq44.out] at hx552_1)
                                                                            (try rw [← Nbq46.out] at hx552_1)
                                                                            cases e552
                                                                            obtain ⟨ce552, hce552, hMe552, hcc552⟩ := Kd.V_get HL551_0.out z30 t540 p552 (by first | exact q552 | exact of_decide_eq_true (by first | (with_reducible assumption) | assumption) | (have e_ := (Kd.V_reads' HL551_0.out).1; omega))
                                                                            obtain ⟨ua552_2, uc552_2, rfl, ul552_2, ge552_2⟩ := k30_openF hMe552
                                                                            have hv552_2 := hcc552 2 _ rfl
                                                                            rw [add_field _ _ 2 (by omega)] at hv552_2
                                                                            replace hv552_2 := Option.some.inj (hv552_2.symm.trans hx552_2)
                                                                            injection hv552_2 with hva_ hvn_ hvc_
                                                                            rw [hva_] at ge552_2
                                                                            rw [hvc_] at ul552_2
                                                                            have HL552_2 := Aside0.mk (show Kd.V k38 38 _ w.heap.size _ _ ((rd_T30 (rd_L13 t535 t539) t540).f2) from Kd.V_mk ul552_2 ge552_2)
                                                                            clear hva_ hvn_ hvc_ ge552_2 ul552_2
                                                                            clear hcc552 hce552
                                                                            have HR552_2 := Aside0.mk hi552_2
                                                                            have HC552_2 := Aside0.mk hl552_2
                                                                            clear hi552_2 hl552_2
                                                                            replace p552 := eq_true p552
                                                                            replace q552 := eq_true q552
                                                                            go_wp2
                                                                            go_meet
                                                                            case rel => exact ⟨_, (true), (by first | rfl | (simp; done) | (simp [*]; done)), H', ⟨by have := HJ1.out; have := HJ6.out; have := HJ13.out; have := HJ15.out; have := HJ22.out; have := HK6.out; have := HJ24.out; have := HK8.out; have := HJ28.out; first | omega | exact Nat.le_refl _⟩, ⟨by (with_reducible repeat (first | apply Kd.N_alloc | apply Kd.N_drewN | apply Kd.N_drew)); exact Kd.N_mono HO_3.out (fun _ hk => trivial)⟩, ⟨by repeat (first | (with_reducible exact HR548_0.out) | (with_reducible refine Kd.C_alloc ?_ _) | (with_reducible refine Kd.C_drewN ?_ _) | (with_reducible refine Kd.C_drew ?_) | exact HR548_0.out | exact (Kd.V_reads' HL548_0.out).2.2)⟩, ⟨by repeat (first | (with_reducible exact HR549_2.out) | (with_reducible refine Kd.C_alloc ?_ _) | (with_reducible refine Kd.C_drewN ?_ _) | (with_reducible refine Kd.C_drew ?_) | exact HR549_2.out | exact (Kd.V_reads' HL549_2.out).2.2)⟩, ⟨by repeat (first | (with_reducible first | exact HB.out | apply below_alloc | apply pw_below_drewN | apply below_drew1 | refine below_set ?_ GE550.out) | exact HB.out)⟩⟩
                                                                          · rw [if_neg c48] at H
                                                                            have c48b0 : decide (x11_6 < t539) = false := decide_eq_false c48
                                                                            clear c48
                                                                            have H1 : (laws_FnPickAt.j9 kj28 t535 t538 t539 t540 x11_6 x12_8 false) = some r := by rw [if_pos (by decide)] at H; exact H
                                                                            clear H
                                                                            have H := H1
                                                                            clear H1
                                                                            have H' := Aside0.mk H
                                                                            clear H
                                                                            have hcz50_0 : w38.cell? ⟨gb550, 0, none⟩ = some (.string ((rd_T30 (rd_L13 t535 x11_6) x12_8).f0)) := (blk_cell BK550.out 0).trans rfl
                                                                            have hcz50_1 : w38.cell? ⟨gb550, 1, none⟩ = some (.bool true) := (blk_cell BK550.out 1).trans (by first | rfl | (rw [← Nbq46.out] <;> rfl) | (rw [← Nbq44.out] <;> rfl))
                                                                            have hcz50_2 : w38.cell? ⟨gb550, 2, none⟩ = some (.slice A549_2 ((rd_T30 (rd_L13 t535 x11_6) x12_8).f2).length c549_2) := (blk_cell BK550.out 2).trans rfl
                                                                            have hfz50_0 := blk_frozen BK550.out 0
                                                                            have hfz50_1 := blk_frozen BK550.out 1
                                                                            have hfz50_2 := blk_frozen BK550.out 2
                                                                            have p551 : 0 ≤ (t539 : Int) := of_decide_eq_true (by first | (with_reducible assumption) | assumption)
                                                                            have q551 : t539 < (t535.length : Int) := of_decide_eq_true (by first | (with_reducible assumption) | assumption)
                                                                            obtain ⟨ad551, A551_0, c551_0, e551, hx551_0, hl551_0, hi551_0⟩ := at_L13 (Kd.N_reads' HO_3.out).2.2 t539 p551 q551
                                                                            obtain rfl : ad545 = ad551 := (by injection e551)
                                                                            obtain ⟨ce551, hce551, hMe551, hcc551⟩ := Kd.N_get HO_3.out [] t539 p551 (by first | exact q551 | exact of_decide_eq_true (by first | (with_reducible assumption) | assumption) | (have e_ := (Kd.N_reads' HO_3.out).1; omega))
                                                                            obtain ⟨ua551_0, uc551_0, rfl, ul551_0, ge551_0⟩ := Kd.FK_slice_open hMe551
                                                                            have hv551_0 := hcc551 0 _ rfl
                                                                            rw [Nat.add_zero, show ((Kd.slice 30 k30)).sz = 1 from rfl, Nat.mul_one] at hv551_0
                                                                            replace hv551_0 := Option.some.inj (hv551_0.symm.trans hx551_0)
                                                                            injection hv551_0 with hva_ hvn_ hvc_
                                                                            rw [hva_] at ge551_0
                                                                            rw [hvc_] at ul551_0
                                                                            have HL551_0 := Aside0.mk (show Kd.V k30 30 _ w.heap.size _ _ (rd_L13 t535 t539) from Kd.V_mk ul551_0 ge551_0)
                                                                            clear hva_ hvn_ hvc_ ge551_0 ul551_0
                                                                            clear hcc551 hce551
                                                                            have HR551_0 := Aside0.mk hi551_0
                                                                            have HC551_0 := Aside0.mk hl551_0
                                                                            clear hi551_0 hl551_0
                                                                            replace p551 := eq_true p551
                                                                            replace q551 := eq_true q551
                                                                            have p552 : 0 ≤ (t540 : Int) := of_decide_eq_true (by first | (with_reducible assumption) | assumption)
                                                                            have q552 : t540 < ((rd_L13 t535 t539).length : Int) := of_decide_eq_true (by first | (with_reducible assumption) | assumption)
                                                                            obtain ⟨ad552, A552_2, c552_2, e552, hx552_0, hx552_1, hx552_2, hl552_2, hi552_2⟩ := at_T30 (by repeat (first | (with_reducible exact HR551_0.out) | (with_reducible refine Kd.C_alloc ?_ _) | (with_reducible refine Kd.C_drewN ?_ _) | (with_reducible refine Kd.C_drew ?_) | exact HR551_0.out)) t540 p552 q552
                                                                            (try rw [← Nbq44.out] at hx552_1)
                                                                            (try rw [← Nbq46.out] at hx552_1)
                                                                            cases e552
                                                                            obtain ⟨ce552, hce552, hMe552, hcc552⟩ := Kd.V_get HL551_0.out z30 t540 p552 (by first | exact q552 | exact of_decide_eq_true (by first | (with_reducible assumption) | assumption) | (have e_ := (Kd.V_reads' HL551_0.out).1; omega))
                                                                            obtain ⟨ua552_2, uc552_2, rfl, ul552_2, ge552_2⟩ := k30_openF hMe552
                                                                            have hv552_2 := hcc552 2 _ rfl
                                                                            rw [add_field _ _ 2 (by omega)] at hv552_2
                                                                            replace hv552_2 := Option.some.inj (hv552_2.symm.trans hx552_2)
                                                                            injection hv552_2 with hva_ hvn_ hvc_
                                                                            rw [hva_] at ge552_2
                                                                            rw [hvc_] at ul552_2
                                                                            have HL552_2 := Aside0.mk (show Kd.V k38 38 _ w.heap.size _ _ ((rd_T30 (rd_L13 t535 t539) t540).f2) from Kd.V_mk ul552_2 ge552_2)
                                                                            clear hva_ hvn_ hvc_ ge552_2 ul552_2
                                                                            clear hcc552 hce552
                                                                            have HR552_2 := Aside0.mk hi552_2
                                                                            have HC552_2 := Aside0.mk hl552_2
                                                                            clear hi552_2 hl552_2
                                                                            replace p552 := eq_true p552
                                                                            replace q552 := eq_true q552
                                                                            have p553 : 0 ≤ (t539 : Int) := of_decide_eq_true (by first | (with_reducible assumption) | assumption)
                                                                            have q553 : t539 < (t535.length : Int) := of_decide_eq_true (by first | (with_reducible assumption) | assumption)
                                                                            obtain ⟨ad553, A553_0, c553_0, e553, hx553_0, hl553_0, hi553_0⟩ := at_L13 (Kd.N_reads' HO_3.out).2.2 t539 p553 q553
                                                                            obtain rfl : ad545 = ad553 := (by injection e553)
                                                                            obtain ⟨ce553, hce553, hMe553, hcc553⟩ := Kd.N_get HO_3.out [] t539 p553 (by first | exact q553 | exact of_decide_eq_true (by first | (with_reducible assumption) | assumption) | (have e_ := (Kd.N_reads' HO_3.out).1; omega))
                                                                            obtain ⟨ua553_0, uc553_0, rfl, ul553_0, ge553_0⟩ := Kd.FK_slice_open hMe553
                                                                            have hv553_0 := hcc553 0 _ rfl
                                                                            rw [Nat.add_zero, show ((Kd.slice 30 k30)).sz = 1 from rfl, Nat.mul_one] at hv553_0
                                                                            replace hv553_0 := Option.some.inj (hv553_0.symm.trans hx553_0)
                                                                            injection hv553_0 with hva_ hvn_ hvc_
                                                                            rw [hva_] at ge553_0
                                                                            rw [hvc_] at ul553_0
                                                                            have HL553_0 := Aside0.mk (show Kd.V k30 30 _ w.heap.size _ _ (rd_L13 t535 t539) from Kd.V_mk ul553_0 ge553_0)
                                                                            clear hva_ hvn_ hvc_ ge553_0 ul553_0
                                                                            clear hcc553 hce553
                                                                            have HR553_0 := Aside0.mk hi553_0
                                                                            have HC553_0 := Aside0.mk hl553_0
                                                                            clear hi553_0 hl553_0
                                                                            replace p553 := eq_true p553
                                                                            replace q553 := eq_true q553
                                                                            have ea_ := Option.some.inj (hx551_0.symm.trans hx553_0)
                                                                            injection ea_ with ea_ en_ ec_
                                                                            subst ea_
                                                                            subst ec_
                                                                            clear en_
                                                                            have p554 : 0 ≤ (t540 : Int) := of_decide_eq_true (by first | (with_reducible assumption) | assumption)
                                                                            have q554 : t540 < ((rd_L13 t535 t539).length : Int) := of_decide_eq_true (by first | (with_reducible assumption) | assumption)
                                                                            obtain ⟨ad554, A554_2, c554_2, e554, hx554_0, hx554_1, hx554_2, hl554_2, hi554_2⟩ := at_T30 (by repeat (first | (with_reducible exact HR553_0.out) | (with_reducible refine Kd.C_alloc ?_ _) | (with_reducible refine Kd.C_drewN ?_ _) | (with_reducible refine Kd.C_drew ?_) | exact HR553_0.out)) t540 p554 q554
                                                                            (try rw [← Nbq44.out] at hx554_1)
                                                                            (try rw [← Nbq46.out] at hx554_1)
                                                                            cases e554
                                                                            obtain ⟨ce554, hce554, hMe554, hcc554⟩ := Kd.V_get HL553_0.out z30 t540 p554 (by first | exact q554 | exact of_decide_eq_true (by first | (with_reducible assumption) | assumption) | (have e_ := (Kd.V_reads' HL553_0.out).1; omega))
                                                                            obtain ⟨ua554_2, uc554_2, rfl, ul554_2, ge554_2⟩ := k30_openF hMe554
                                                                            have hv554_2 := hcc554 2 _ rfl
                                                                            rw [add_field _ _ 2 (by omega)] at hv554_2
                                                                            replace hv554_2 := Option.some.inj (hv554_2.symm.trans hx554_2)
                                                                            injection hv554_2 with hva_ hvn_ hvc_
                                                                            rw [hva_] at ge554_2
                                                                            rw [hvc_] at ul554_2
                                                                            have HL554_2 := Aside0.mk (show Kd.V k38 38 _ w.heap.size _ _ ((rd_T30 (rd_L13 t535 t539) t540).f2) from Kd.V_mk ul554_2 ge554_2)
                                                                            clear hva_ hvn_ hvc_ ge554_2 ul554_2
                                                                            clear hcc554 hce554
                                                                            have HR554_2 := Aside0.mk hi554_2
                                                                            have HC554_2 := Aside0.mk hl554_2
                                                                            clear hi554_2 hl554_2
                                                                            replace p554 := eq_true p554
                                                                            replace q554 := eq_true q554
                                                                            go_wp2
                                                                            go_meet
                                                                            case rel => exact ⟨_, (false), (by first | rfl | (simp; done) | (simp [*]; done)), H', ⟨by have := HJ1.out; have := HJ6.out; have := HJ13.out; have := HJ15.out; have := HJ22.out; have := HK6.out; have := HJ24.out; have := HK8.out; have := HJ28.out; first | omega | exact Nat.le_refl _⟩, ⟨by (with_reducible repeat (first | apply Kd.N_alloc | apply Kd.N_drewN | apply Kd.N_drew)); exact Kd.N_mono HO_3.out (fun _ hk => trivial)⟩, ⟨by repeat (first | (with_reducible exact HR548_0.out) | (with_reducible refine Kd.C_alloc ?_ _) | (with_reducible refine Kd.C_drewN ?_ _) | (with_reducible refine Kd.C_drew ?_) | exact HR548_0.out | exact (Kd.V_reads' HL548_0.out).2.2)⟩, ⟨by repeat (first | (with_reducible exact HR549_2.out) | (with_reducible refine Kd.C_alloc ?_ _) | (with_reducible refine Kd.C_drewN ?_ _) | (with_reducible refine Kd.C_drew ?_) | exact HR549_2.out | exact (Kd.V_reads' HL549_2.out).2.2)⟩, ⟨by repeat (first | (with_reducible first | exact HB.out | apply below_alloc | apply pw_below_drewN | apply below_drew1 | refine below_set ?_ GE550.out) | exact HB.out)⟩⟩
                                                                        · replace c47 := Bool.eq_false_iff.mpr c47
                                                                          subst c47
                                                                          have H1 : (laws_FnPickAt.j9 kj28 t535 t538 t539 t540 x11_6 x12_8 true) = some r := by rw [if_neg (show ¬ (false = true) by decide)] at H; exact H
                                                                          clear H
                                                                          have H := H1
                                                                          clear H1
                                                                          have H' := Aside0.mk H
                                                                          clear H
                                                                          have hcz51_0 : w38.cell? ⟨gb550, 0, none⟩ = some (.string ((rd_T30 (rd_L13 t535 x11_6) x12_8).f0)) := (blk_cell BK550.out 0).trans rfl
                                                                          have hcz51_1 : w38.cell? ⟨gb550, 1, none⟩ = some (.bool false) := (blk_cell BK550.out 1).trans (by first | rfl | (rw [← Nbq46.out] <;> rfl) | (rw [← Nbq44.out] <;> rfl))
                                                                          have hcz51_2 : w38.cell? ⟨gb550, 2, none⟩ = some (.slice A549_2 ((rd_T30 (rd_L13 t535 x11_6) x12_8).f2).length c549_2) := (blk_cell BK550.out 2).trans rfl
                                                                          have hfz51_0 := blk_frozen BK550.out 0
                                                                          have hfz51_1 := blk_frozen BK550.out 1
                                                                          have hfz51_2 := blk_frozen BK550.out 2
                                                                          have p551 : 0 ≤ (t539 : Int) := of_decide_eq_true (by first | (with_reducible assumption) | assumption)
                                                                          have q551 : t539 < (t535.length : Int) := of_decide_eq_true (by first | (with_reducible assumption) | assumption)
                                                                          obtain ⟨ad551, A551_0, c551_0, e551, hx551_0, hl551_0, hi551_0⟩ := at_L13 (Kd.N_reads' HO_3.out).2.2 t539 p551 q551
                                                                          obtain rfl : ad545 = ad551 := (by injection e551)
                                                                          obtain ⟨ce551, hce551, hMe551, hcc551⟩ := Kd.N_get HO_3.out [] t539 p551 (by first | exact q551 | exact of_decide_eq_true (by first | (with_reducible assumption) | assumption) | (have e_ := (Kd.N_reads' HO_3.out).1; omega))
                                                                          obtain ⟨ua551_0, uc551_0, rfl, ul551_0, ge551_0⟩ := Kd.FK_slice_open hMe551
                                                                          have hv551_0 := hcc551 0 _ rfl
                                                                          rw [Nat.add_zero, show ((Kd.slice 30 k30)).sz = 1 from rfl, Nat.mul_one] at hv551_0
                                                                          replace hv551_0 := Option.some.inj (hv551_0.symm.trans hx551_0)
                                                                          injection hv551_0 with hva_ hvn_ hvc_
                                                                          rw [hva_] at ge551_0
                                                                          rw [hvc_] at ul551_0
                                                                          have HL551_0 := Aside0.mk (show Kd.V k30 30 _ w.heap.size _ _ (rd_L13 t535 t539) from Kd.V_mk ul551_0 ge551_0)
                                                                          clear hva_ hvn_ hvc_ ge551_0 ul551_0
                                                                          clear hcc551 hce551
                                                                          have HR551_0 := Aside0.mk hi551_0
                                                                          have HC551_0 := Aside0.mk hl551_0
                                                                          clear hi551_0 hl551_0
                                                                          replace p551 := eq_true p551
                                                                          replace q551 := eq_true q551
                                                                          have p552 : 0 ≤ (t540 : Int) := of_decide_eq_true (by first | (with_reducible assumption) | assumption)
                                                                          have q552 : t540 < ((rd_L13 t535 t539).length : Int) := of_decide_eq_true (by first | (with_reducible assumption) | assumption)
                                                                          obtain ⟨ad552, A552_2, c552_2, e552, hx552_0, hx552_1, hx552_2, hl552_2, hi552_2⟩ := at_T30 (by repeat (first | (with_reducible exact HR551_0.out) | (with_reducible refine Kd.C_alloc ?_ _) | (with_reducible refine Kd.C_drewN ?_ _) | (with_reducible refine Kd.C_drew ?_) | exact HR551_0.out)) t540 p552 q552
                                                                          (try rw [← Nbq44.out] at hx552_1)
                                                                          (try rw [← Nbq46.out] at hx552_1)
                                                                          cases e552
                                                                          obtain ⟨ce552, hce552, hMe552, hcc552⟩ := Kd.V_get HL551_0.out z30 t540 p552 (by first | exact q552 | exact of_decide_eq_true (by first | (with_reducible assumption) | assumption) | (have e_ := (Kd.V_reads' HL551_0.out).1; omega))
                                                                          obtain ⟨ua552_2, uc552_2, rfl, ul552_2, ge552_2⟩ := k30_openF hMe552
                                                                          have hv552_2 := hcc552 2 _ rfl
                                                                          rw [add_field _ _ 2 (by omega)] at hv552_2
                                                                          replace hv552_2 := Option.some.inj (hv552_2.symm.trans hx552_2)
                                                                          injection hv552_2 with hva_ hvn_ hvc_
                                                                          rw [hva_] at ge552_2
                                                                          rw [hvc_] at ul552_2
                                                                          have HL552_2 := Aside0.mk (show Kd.V k38 38 _ w.heap.size _ _ ((rd_T30 (rd_L13 t535 t539) t540).f2) from Kd.V_mk ul552_2 ge552_2)
                                                                          clear hva_ hvn_ hvc_ ge552_2 ul552_2
                                                                          clear hcc552 hce552
                                                                          have HR552_2 := Aside0.mk hi552_2
                                                                          have HC552_2 := Aside0.mk hl552_2
                                                                          clear hi552_2 hl552_2
                                                                          replace p552 := eq_true p552
                                                                          replace q552 := eq_true q552
                                                                          go_wp2
                                                                          go_meet
                                                                          case rel => exact ⟨_, (true), (by first | rfl | (simp; done) | (simp [*]; done)), H', ⟨by have := HJ1.out; have := HJ6.out; have := HJ13.out; have := HJ15.out; have := HJ22.out; have := HK6.out; have := HJ24.out; have := HK8.out; have := HJ28.out; first | omega | exact Nat.le_refl _⟩, ⟨by (with_reducible repeat (first | apply Kd.N_alloc | apply Kd.N_drewN | apply Kd.N_drew)); exact Kd.N_mono HO_3.out (fun _ hk => trivial)⟩, ⟨by repeat (first | (with_reducible exact HR548_0.out) | (with_reducible refine Kd.C_alloc ?_ _) | (with_reducible refine Kd.C_drewN ?_ _) | (with_reducible refine Kd.C_drew ?_) | exact HR548_0.out | exact (Kd.V_reads' HL548_0.out).2.2)⟩, ⟨by repeat (first | (with_reducible exact HR549_2.out) | (with_reducible refine Kd.C_alloc ?_ _) | (with_reducible refine Kd.C_drewN ?_ _) | (with_reducible refine Kd.C_drew ?_) | exact HR549_2.out | exact (Kd.V_reads' HL549_2.out).2.2)⟩, ⟨by repeat (first | (with_reducible first | exact HB.out | apply below_alloc | apply pw_below_drewN | apply below_drew1 | refine below_set ?_ GE550.out) | exact HB.out)⟩⟩
                                                                      · replace c45 := Bool.eq_false_iff.mpr c45
                                                                        subst c45
                                                                        have H1 : (if (false = true) then (laws_FnPickAt.j9 kj28 t535 t538 t539 t540 x11_6 x12_8 false) else (if ((rd_T30 (rd_L13 t535 x11_6) x12_8).f1 = true) then (laws_FnPickAt.j9 kj28 t535 t538 t539 t540 x11_6 x12_8 false) else (laws_FnPickAt.j9 kj28 t535 t538 t539 t540 x11_6 x12_8 (decide (x11_6 < t539))))) = some r := by rw [if_neg (show ¬ (false = true) by decide)] at H; exact H
                                                                        clear H
                                                                        have H := H1
                                                                        clear H1
                                                                        have H1 : (if ((rd_T30 (rd_L13 t535 x11_6) x12_8).f1 = true) then (laws_FnPickAt.j9 kj28 t535 t538 t539 t540 x11_6 x12_8 false) else (laws_FnPickAt.j9 kj28 t535 t538 t539 t540 x11_6 x12_8 (decide (x11_6 < t539)))) = some r := by rw [if_neg (by decide)] at H; exact H
                                                                        clear H
                                                                        have H := H1
                                                                        clear H1
                                                                        obtain ⟨bq52, hbq52⟩ : ∃ b_ : Bool, b_ = ((rd_T30 (rd_L13 t535 x11_6) x12_8).f1) := ⟨_, rfl⟩
                                                                        replace H : (if (bq52 = true) then (laws_FnPickAt.j9 kj28 t535 t538 t539 t540 x11_6 x12_8 false) else (laws_FnPickAt.j9 kj28 t535 t538 t539 t540 x11_6 x12_8 (decide (x11_6 < t539)))) = some r := by rw [← hbq52] at H; exact H
                                                                        have Nbq52 := Aside0.mk hbq52
                                                                        clear hbq52
                                                                        by_cases c53 : (bq52 = true)
                                                                        · subst c53
                                                                          have H1 : (laws_FnPickAt.j9 kj28 t535 t538 t539 t540 x11_6 x12_8 false) = some r := by rw [if_pos rfl] at H; exact H
                                                                          clear H
                                                                          have H := H1
                                                                          clear H1
                                                                          have H' := Aside0.mk H
                                                                          clear H
                                                                          have hcz54_0 : w38.cell? ⟨gb550, 0, none⟩ = some (.string ((rd_T30 (rd_L13 t535 x11_6) x12_8).f0)) := (blk_cell BK550.out 0).trans rfl
                                                                          have hcz54_1 : w38.cell? ⟨gb550, 1, none⟩ = some (.bool true) := (blk_cell BK550.out 1).trans (by first | rfl | (rw [← Nbq52.out] <;> rfl) | (rw [← Nbq46.out] <;> rfl) | (rw [← Nbq44.out] <;> rfl))
                                                                          have hcz54_2 : w38.cell? ⟨gb550, 2, none⟩ = some (.slice A549_2 ((rd_T30 (rd_L13 t535 x11_6) x12_8).f2).length c549_2) := (blk_cell BK550.out 2).trans rfl
                                                                          have hfz54_0 := blk_frozen BK550.out 0
                                                                          have hfz54_1 := blk_frozen BK550.out 1
                                                                          have hfz54_2 := blk_frozen BK550.out 2
                                                                          have p551 : 0 ≤ (t539 : Int) := of_decide_eq_true (by first | (with_reducible assumption) | assumption)
                                                                          have q551 : t539 < (t535.length : Int) := of_decide_eq_true (by first | (with_reducible assumption) | assumption)
                                                                          obtain ⟨ad551, A551_0, c551_0, e551, hx551_0, hl551_0, hi551_0⟩ := at_L13 (Kd.N_reads' HO_3.out).2.2 t539 p551 q551
                                                                          obtain rfl : ad545 = ad551 := (by injection e551)
                                                                          obtain ⟨ce551, hce551, hMe551, hcc551⟩ := Kd.N_get HO_3.out [] t539 p551 (by first | exact q551 | exact of_decide_eq_true (by first | (with_reducible assumption) | assumption) | (have e_ := (Kd.N_reads' HO_3.out).1; omega))
                                                                          obtain ⟨ua551_0, uc551_0, rfl, ul551_0, ge551_0⟩ := Kd.FK_slice_open hMe551
                                                                          have hv551_0 := hcc551 0 _ rfl
                                                                          rw [Nat.add_zero, show ((Kd.slice 30 k30)).sz = 1 from rfl, Nat.mul_one] at hv551_0
                                                                          replace hv551_0 := Option.some.inj (hv551_0.symm.trans hx551_0)
                                                                          injection hv551_0 with hva_ hvn_ hvc_
                                                                          rw [hva_] at ge551_0
                                                                          rw [hvc_] at ul551_0
                                                                          have HL551_0 := Aside0.mk (show Kd.V k30 30 _ w.heap.size _ _ (rd_L13 t535 t539) from Kd.V_mk ul551_0 ge551_0)
                                                                          clear hva_ hvn_ hvc_ ge551_0 ul551_0
                                                                          clear hcc551 hce551
                                                                          have HR551_0 := Aside0.mk hi551_0
                                                                          have HC551_0 := Aside0.mk hl551_0
                                                                          clear hi551_0 hl551_0
                                                                          replace p551 := eq_true p551
                                                                          replace q551 := eq_true q551
                                                                          have p552 : 0 ≤ (t540 : Int) := of_decide_eq_true (by first | (with_reducible assumption) | assumption)
                                                                          have q552 : t540 < ((rd_L13 t535 t539).length : Int) := of_decide_eq_true (by first | (with_reducible assumption) | assumption)
                                                                          obtain ⟨ad552, A552_2, c552_2, e552, hx552_0, hx552_1, hx552_2, hl552_2, hi552_2⟩ := at_T30 (by repeat (first | (with_reducible exact HR551_0.out) | (with_reducible refine Kd.C_alloc ?_ _) | (with_reducible refine Kd.C_drewN ?_ _) | (with_reducible refine Kd.C_drew ?_) | exact HR551_0.out)) t540 p552 q552
                                                                          (try rw [← Nbq44.out] at hx552_1)
                                                                          (try rw [← Nbq52.out] at hx552_1)
                                                                          cases e552
                                                                          obtain ⟨ce552, hce552, hMe552, hcc552⟩ := Kd.V_get HL551_0.out z30 t540 p552 (by first | exact q552 | exact of_decide_eq_true (by first | (with_reducible assumption) | assumption) | (have e_ := (Kd.V_reads' HL551_0.out).1; omega))
                                                                          obtain ⟨ua552_2, uc552_2, rfl, ul552_2, ge552_2⟩ := k30_openF hMe552
                                                                          have hv552_2 := hcc552 2 _ rfl
                                                                          rw [add_field _ _ 2 (by omega)] at hv552_2
                                                                          replace hv552_2 := Option.some.inj (hv552_2.symm.trans hx552_2)
                                                                          injection hv552_2 with hva_ hvn_ hvc_
                                                                          rw [hva_] at ge552_2
                                                                          rw [hvc_] at ul552_2
                                                                          have HL552_2 := Aside0.mk (show Kd.V k38 38 _ w.heap.size _ _ ((rd_T30 (rd_L13 t535 t539) t540).f2) from Kd.V_mk ul552_2 ge552_2)
                                                                          clear hva_ hvn_ hvc_ ge552_2 ul552_2
                                                                          clear hcc552 hce552
                                                                          have HR552_2 := Aside0.mk hi552_2
                                                                          have HC552_2 := Aside0.mk hl552_2
                                                                          clear hi552_2 hl552_2
                                                                          replace p552 := eq_true p552
                                                                          replace q552 := eq_true q552
                                                                          have p555 : 0 ≤ (t539 : Int) := of_decide_eq_true (by first | (with_reducible assumption) | assumption)
                                                                          have q555 : t539 < (t535.length : Int) := of_decide_eq_true (by first | (with_reducible assumption) | assumption)
                                                                          obtain ⟨ad555, A555_0, c555_0, e555, hx555_0, hl555_0, hi555_0⟩ := at_L13 (Kd.N_reads' HO_3.out).2.2 t539 p555 q555
                                                                          obtain rfl : ad545 = ad555 := (by injection e555)
                                                                          obtain ⟨ce555, hce555, hMe555, hcc555⟩ := Kd.N_get HO_3.out [] t539 p555 (by first | exact q555 | exact of_decide_eq_true (by first | (with_reducible assumption) | assumption) | (have e_ := (Kd.N_reads' HO_3.out).1; omega))
                                                                          obtain ⟨ua555_0, uc555_0, rfl, ul555_0, ge555_0⟩ := Kd.FK_slice_open hMe555
                                                                          have hv555_0 := hcc555 0 _ rfl
                                                                          rw [Nat.add_zero, show ((Kd.slice 30 k30)).sz = 1 from rfl, Nat.mul_one] at hv555_0
                                                                          replace hv555_0 := Option.some.inj (hv555_0.symm.trans hx555_0)
                                                                          injection hv555_0 with hva_ hvn_ hvc_
                                                                          rw [hva_] at ge555_0
                                                                          rw [hvc_] at ul555_0
                                                                          have HL555_0 := Aside0.mk (show Kd.V k30 30 _ w.heap.size _ _ (rd_L13 t535 t539) from Kd.V_mk ul555_0 ge555_0)
                                                                          clear hva_ hvn_ hvc_ ge555_0 ul555_0
                                                                          clear hcc555 hce555
                                                                          have HR555_0 := Aside0.mk hi555_0
                                                                          have HC555_0 := Aside0.mk hl555_0
                                                                          clear hi555_0 hl555_0
                                                                          replace p555 := eq_true p555
                                                                          replace q555 := eq_true q555
                                                                          have ea_ := Option.some.inj (hx551_0.symm.trans hx555_0)
                                                                          injection ea_ with ea_ en_ ec_
                                                                          subst ea_
                                                                          subst ec_
                                                                          clear en_
                                                                          have p556 : 0 ≤ (t540 : Int) := of_decide_eq_true (by first | (with_reducible assumption) | assumption)
                                                                          have q556 : t540 < ((rd_L13 t535 t539).length : Int) := of_decide_eq_true (by first | (with_reducible assumption) | assumption)
                                                                          obtain ⟨ad556, A556_2, c556_2, e556, hx556_0, hx556_1, hx556_2, hl556_2, hi556_2⟩ := at_T30 (by repeat (first | (with_reducible exact HR555_0.out) | (with_reducible refine Kd.C_alloc ?_ _) | (with_reducible refine Kd.C_drewN ?_ _) | (with_reducible refine Kd.C_drew ?_) | exact HR555_0.out)) t540 p556 q556
                                                                          (try rw [← Nbq44.out] at hx556_1)
                                                                          (try rw [← Nbq52.out] at hx556_1)
                                                                          cases e556
                                                                          obtain ⟨ce556, hce556, hMe556, hcc556⟩ := Kd.V_get HL555_0.out z30 t540 p556 (by first | exact q556 | exact of_decide_eq_true (by first | (with_reducible assumption) | assumption) | (have e_ := (Kd.V_reads' HL555_0.out).1; omega))
                                                                          obtain ⟨ua556_2, uc556_2, rfl, ul556_2, ge556_2⟩ := k30_openF hMe556
                                                                          have hv556_2 := hcc556 2 _ rfl
                                                                          rw [add_field _ _ 2 (by omega)] at hv556_2
                                                                          replace hv556_2 := Option.some.inj (hv556_2.symm.trans hx556_2)
                                                                          injection hv556_2 with hva_ hvn_ hvc_
                                                                          rw [hva_] at ge556_2
                                                                          rw [hvc_] at ul556_2
                                                                          have HL556_2 := Aside0.mk (show Kd.V k38 38 _ w.heap.size _ _ ((rd_T30 (rd_L13 t535 t539) t540).f2) from Kd.V_mk ul556_2 ge556_2)
                                                                          clear hva_ hvn_ hvc_ ge556_2 ul556_2
                                                                          clear hcc556 hce556
                                                                          have HR556_2 := Aside0.mk hi556_2
                                                                          have HC556_2 := Aside0.mk hl556_2
                                                                          clear hi556_2 hl556_2
                                                                          replace p556 := eq_true p556
                                                                          replace q556 := eq_true q556
                                                                          go_wp2
                                                                          go_meet
                                                                          case rel => exact ⟨_, (false), (by first | rfl | (simp; done) | (simp [*]; done)), H', ⟨by have := HJ1.out; have := HJ6.out; have := HJ13.out; have := HJ15.out; have := HJ22.out; have := HK6.out; have := HJ24.out; have := HK8.out; have := HJ28.out; first | omega | exact Nat.le_refl _⟩, ⟨by (with_reducible repeat (first | apply Kd.N_alloc | apply Kd.N_drewN | apply Kd.N_drew)); exact Kd.N_mono HO_3.out (fun _ hk => trivial)⟩, ⟨by repeat (first | (with_reducible exact HR548_0.out) | (with_reducible refine Kd.C_alloc ?_ _) | (with_reducible refine Kd.C_drewN ?_ _) | (with_reducible refine Kd.C_drew ?_) | exact HR548_0.out | exact (Kd.V_reads' HL548_0.out).2.2)⟩, ⟨by repeat (first | (with_reducible exact HR549_2.out) | (with_reducible refine Kd.C_alloc ?_ _) | (with_reducible refine Kd.C_drewN ?_ _) | (with_reducible refine Kd.C_drew ?_) | exact HR549_2.out | exact (Kd.V_reads' HL549_2.out).2.2)⟩, ⟨by repeat (first | (with_reducible first | exact HB.out | apply below_alloc | apply pw_below_drewN | apply below_drew1 | refine below_set ?_ GE550.out) | exact HB.out)⟩⟩
                                                                        · replace c53 := Bool.eq_false_iff.mpr c53
                                                                          subst c53
                                                                          have H1 : (laws_FnPickAt.j9 kj28 t535 t538 t539 t540 x11_6 x12_8 (decide (x11_6 < t539))) = some r := by rw [if_neg (show ¬ (false = true) by decide)] at H; exact H
                                                                          clear H
                                                                          have H := H1
                                                                          clear H1
                                                                          have H' := Aside0.mk H
                                                                          clear H
                                                                          have hcz55_0 : w38.cell? ⟨gb550, 0, none⟩ = some (.string ((rd_T30 (rd_L13 t535 x11_6) x12_8).f0)) := (blk_cell BK550.out 0).trans rfl
                                                                          have hcz55_1 : w38.cell? ⟨gb550, 1, none⟩ = some (.bool false) := (blk_cell BK550.out 1).trans (by first | rfl | (rw [← Nbq52.out] <;> rfl) | (rw [← Nbq46.out] <;> rfl) | (rw [← Nbq44.out] <;> rfl))
                                                                          have hcz55_2 : w38.cell? ⟨gb550, 2, none⟩ = some (.slice A549_2 ((rd_T30 (rd_L13 t535 x11_6) x12_8).f2).length c549_2) := (blk_cell BK550.out 2).trans rfl
                                                                          have hfz55_0 := blk_frozen BK550.out 0
                                                                          have hfz55_1 := blk_frozen BK550.out 1
                                                                          have hfz55_2 := blk_frozen BK550.out 2
                                                                          have p551 : 0 ≤ (t539 : Int) := of_decide_eq_true (by first | (with_reducible assumption) | assumption)
                                                                          have q551 : t539 < (t535.length : Int) := of_decide_eq_true (by first | (with_reducible assumption) | assumption)
                                                                          obtain ⟨ad551, A551_0, c551_0, e551, hx551_0, hl551_0, hi551_0⟩ := at_L13 (Kd.N_reads' HO_3.out).2.2 t539 p551 q551
                                                                          obtain rfl : ad545 = ad551 := (by injection e551)
                                                                          obtain ⟨ce551, hce551, hMe551, hcc551⟩ := Kd.N_get HO_3.out [] t539 p551 (by first | exact q551 | exact of_decide_eq_true (by first | (with_reducible assumption) | assumption) | (have e_ := (Kd.N_reads' HO_3.out).1; omega))
                                                                          obtain ⟨ua551_0, uc551_0, rfl, ul551_0, ge551_0⟩ := Kd.FK_slice_open hMe551
                                                                          have hv551_0 := hcc551 0 _ rfl
                                                                          rw [Nat.add_zero, show ((Kd.slice 30 k30)).sz = 1 from rfl, Nat.mul_one] at hv551_0
                                                                          replace hv551_0 := Option.some.inj (hv551_0.symm.trans hx551_0)
                                                                          injection hv551_0 with hva_ hvn_ hvc_
                                                                          rw [hva_] at ge551_0
                                                                          rw [hvc_] at ul551_0
                                                                          have HL551_0 := Aside0.mk (show Kd.V k30 30 _ w.heap.size _ _ (rd_L13 t535 t539) from Kd.V_mk ul551_0 ge551_0)
                                                                          clear hva_ hvn_ hvc_ ge551_0 ul551_0
                                                                          clear hcc551 hce551
                                                                          have HR551_0 := Aside0.mk hi551_0
                                                                          have HC551_0 := Aside0.mk hl551_0
                                                                          clear hi551_0 hl551_0
                                                                          replace p551 := eq_true p551
                                                                          replace q551 := eq_true q551
                                                                          have p552 : 0 ≤ (t540 : Int) := of_decide_eq_true (by first | (with_reducible assumption) | assumption)
                                                                          have q552 : t540 < ((rd_L13 t535 t539).length : Int) := of_decide_eq_true (by first | (with_reducible assumption) | assumption)
                                                                          obtain ⟨ad552, A552_2, c552_2, e552, hx552_0, hx552_1, hx552_2, hl552_2, hi552_2⟩ := at_T30 (by repeat (first | (with_reducible exact HR551_0.out) | (with_reducible refine Kd.C_alloc ?_ _) | (with_reducible refine Kd.C_drewN ?_ _) | (with_reducible refine Kd.C_drew ?_) | exact HR551_0.out)) t540 p552 q552
                                                                          (try rw [← Nbq44.out] at hx552_1)
                                                                          (try rw [← Nbq52.out] at hx552_1)
                                                                          cases e552
                                                                          obtain ⟨ce552, hce552, hMe552, hcc552⟩ := Kd.V_get HL551_0.out z30 t540 p552 (by first | exact q552 | exact of_decide_eq_true (by first | (with_reducible assumption) | assumption) | (have e_ := (Kd.V_reads' HL551_0.out).1; omega))
                                                                          obtain ⟨ua552_2, uc552_2, rfl, ul552_2, ge552_2⟩ := k30_openF hMe552
                                                                          have hv552_2 := hcc552 2 _ rfl
                                                                          rw [add_field _ _ 2 (by omega)] at hv552_2
                                                                          replace hv552_2 := Option.some.inj (hv552_2.symm.trans hx552_2)
                                                                          injection hv552_2 with hva_ hvn_ hvc_
                                                                          rw [hva_] at ge552_2
                                                                          rw [hvc_] at ul552_2
                                                                          have HL552_2 := Aside0.mk (show Kd.V k38 38 _ w.heap.size _ _ ((rd_T30 (rd_L13 t535 t539) t540).f2) from Kd.V_mk ul552_2 ge552_2)
                                                                          clear hva_ hvn_ hvc_ ge552_2 ul552_2
                                                                          clear hcc552 hce552
                                                                          have HR552_2 := Aside0.mk hi552_2
                                                                          have HC552_2 := Aside0.mk hl552_2
                                                                          clear hi552_2 hl552_2
                                                                          replace p552 := eq_true p552
                                                                          replace q552 := eq_true q552
                                                                          have p555 : 0 ≤ (t539 : Int) := of_decide_eq_true (by first | (with_reducible assumption) | assumption)
                                                                          have q555 : t539 < (t535.length : Int) := of_decide_eq_true (by first | (with_reducible assumption) | assumption)
                                                                          obtain ⟨ad555, A555_0, c555_0, e555, hx555_0, hl555_0, hi555_0⟩ := at_L13 (Kd.N_reads' HO_3.out).2.2 t539 p555 q555
                                                                          obtain rfl : ad545 = ad555 := (by injection e555)
                                                                          obtain ⟨ce555, hce555, hMe555, hcc555⟩ := Kd.N_get HO_3.out [] t539 p555 (by first | exact q555 | exact of_decide_eq_true (by first | (with_reducible assumption) | assumption) | (have e_ := (Kd.N_reads' HO_3.out).1; omega))
                                                                          obtain ⟨ua555_0, uc555_0, rfl, ul555_0, ge555_0⟩ := Kd.FK_slice_open hMe555
                                                                          have hv555_0 := hcc555 0 _ rfl
                                                                          rw [Nat.add_zero, show ((Kd.slice 30 k30)).sz = 1 from rfl, Nat.mul_one] at hv555_0
                                                                          replace hv555_0 := Option.some.inj (hv555_0.symm.trans hx555_0)
                                                                          injection hv555_0 with hva_ hvn_ hvc_
                                                                          rw [hva_] at ge555_0
                                                                          rw [hvc_] at ul555_0
                                                                          have HL555_0 := Aside0.mk (show Kd.V k30 30 _ w.heap.size _ _ (rd_L13 t535 t539) from Kd.V_mk ul555_0 ge555_0)
                                                                          clear hva_ hvn_ hvc_ ge555_0 ul555_0
                                                                          clear hcc555 hce555
                                                                          have HR555_0 := Aside0.mk hi555_0
                                                                          have HC555_0 := Aside0.mk hl555_0
                                                                          clear hi555_0 hl555_0
                                                                          replace p555 := eq_true p555
                                                                          replace q555 := eq_true q555
                                                                          have ea_ := Option.some.inj (hx551_0.symm.trans hx555_0)
                                                                          injection ea_ with ea_ en_ ec_
                                                                          subst ea_
                                                                          subst ec_
                                                                          clear en_
                                                                          have p556 : 0 ≤ (t540 : Int) := of_decide_eq_true (by first | (with_reducible assumption) | assumption)
                                                                          have q556 : t540 < ((rd_L13 t535 t539).length : Int) := of_decide_eq_true (by first | (with_reducible assumption) | assumption)
                                                                          obtain ⟨ad556, A556_2, c556_2, e556, hx556_0, hx556_1, hx556_2, hl556_2, hi556_2⟩ := at_T30 (by repeat (first | (with_reducible exact HR555_0.out) | (with_reducible refine Kd.C_alloc ?_ _) | (with_reducible refine Kd.C_drewN ?_ _) | (with_reducible refine Kd.C_drew ?_) | exact HR555_0.out)) t540 p556 q556
                                                                          (try rw [← Nbq44.out] at hx556_1)
                                                                          (try rw [← Nbq52.out] at hx556_1)
                                                                          cases e556
                                                                          obtain ⟨ce556, hce556, hMe556, hcc556⟩ := Kd.V_get HL555_0.out z30 t540 p556 (by first | exact q556 | exact of_decide_eq_true (by first | (with_reducible assumption) | assumption) | (have e_ := (Kd.V_reads' HL555_0.out).1; omega))
                                                                          obtain ⟨ua556_2, uc556_2, rfl, ul556_2, ge556_2⟩ := k30_openF hMe556
                                                                          have hv556_2 := hcc556 2 _ rfl
                                                                          rw [add_field _ _ 2 (by omega)] at hv556_2
                                                                          replace hv556_2 := Option.some.inj (hv556_2.symm.trans hx556_2)
                                                                          injection hv556_2 with hva_ hvn_ hvc_
                                                                          rw [hva_] at ge556_2
                                                                          rw [hvc_] at ul556_2
                                                                          have HL556_2 := Aside0.mk (show Kd.V k38 38 _ w.heap.size _ _ ((rd_T30 (rd_L13 t535 t539) t540).f2) from Kd.V_mk ul556_2 ge556_2)
                                                                          clear hva_ hvn_ hvc_ ge556_2 ul556_2
                                                                          clear hcc556 hce556
                                                                          have HR556_2 := Aside0.mk hi556_2
                                                                          have HC556_2 := Aside0.mk hl556_2
                                                                          clear hi556_2 hl556_2
                                                                          replace p556 := eq_true p556
                                                                          replace q556 := eq_true q556
                                                                          go_wp2
                                                                          go_meet
                                                                          case rel => exact ⟨_, (decide (x11_6 < t539)), (by first | rfl | (simp; done) | (simp [*]; done)), H', ⟨by have := HJ1.out; have := HJ6.out; have := HJ13.out; have := HJ15.out; have := HJ22.out; have := HK6.out; have := HJ24.out; have := HK8.out; have := HJ28.out; first | omega | exact Nat.le_refl _⟩, ⟨by (with_reducible repeat (first | apply Kd.N_alloc | apply Kd.N_drewN | apply Kd.N_drew)); exact Kd.N_mono HO_3.out (fun _ hk => trivial)⟩, ⟨by repeat (first | (with_reducible exact HR548_0.out) | (with_reducible refine Kd.C_alloc ?_ _) | (with_reducible refine Kd.C_drewN ?_ _) | (with_reducible refine Kd.C_drew ?_) | exact HR548_0.out | exact (Kd.V_reads' HL548_0.out).2.2)⟩, ⟨by repeat (first | (with_reducible exact HR549_2.out) | (with_reducible refine Kd.C_alloc ?_ _) | (with_reducible refine Kd.C_drewN ?_ _) | (with_reducible refine Kd.C_drew ?_) | exact HR549_2.out | exact (Kd.V_reads' HL549_2.out).2.2)⟩, ⟨by repeat (first | (with_reducible first | exact HB.out | apply below_alloc | apply pw_below_drewN | apply below_drew1 | refine below_set ?_ GE550.out) | exact HB.out)⟩⟩
                                                                    · rw [if_neg c43] at H
                                                                      exact absurd H (by simp)
                                                                  · rw [if_neg c42] at H
                                                                    exact absurd H (by simp)
                                                                · rw [if_neg c41] at H
                                                                  exact absurd H (by simp)
                                                              · rw [if_neg c40] at H
                                                                exact absurd H (by simp)
                                                            · rw [if_neg c39] at H
                                                              have c39b0 : (((rd_T30 (rd_L13 t535 x11_6) x12_8).f0).toList == t538.toList) = false := beq_eq_false_iff_ne.mpr c39
                                                              have c39b1 : (((rd_T30 (rd_L13 t535 x11_6) x12_8).f0).toList != t538.toList) = true := bne_iff_ne.mpr c39
                                                              (first | rw [c39b0] | (simp only [i64_w, i32_w]; rw [c39b0]) | (have cn_ := c39b0; simp only [bne] at cn_; rw [cn_]; clear cn_) | skip)
                                                              have H' := Aside0.mk H
                                                              clear H
                                                              have hcz56_0 : w38.cell? ⟨gb550, 0, none⟩ = some (.string ((rd_T30 (rd_L13 t535 x11_6) x12_8).f0)) := (blk_cell BK550.out 0).trans rfl
                                                              have hcz56_1 : w38.cell? ⟨gb550, 1, none⟩ = some (.bool ((rd_T30 (rd_L13 t535 x11_6) x12_8).f1)) := (blk_cell BK550.out 1).trans rfl
                                                              have hcz56_2 : w38.cell? ⟨gb550, 2, none⟩ = some (.slice A549_2 ((rd_T30 (rd_L13 t535 x11_6) x12_8).f2).length c549_2) := (blk_cell BK550.out 2).trans rfl
                                                              have hfz56_0 := blk_frozen BK550.out 0
                                                              have hfz56_1 := blk_frozen BK550.out 1
                                                              have hfz56_2 := blk_frozen BK550.out 2
                                                              go_wp2
                                                              go_meet
                                                              case rel => exact ⟨_, (false), (by first | rfl | (simp; done) | (simp [*]; done)), H', ⟨by have := HJ1.out; have := HJ6.out; have := HJ13.out; have := HJ15.out; have := HJ22.out; have := HK6.out; have := HJ24.out; have := HK8.out; have := HJ28.out; first | omega | exact Nat.le_refl _⟩, ⟨by (with_reducible repeat (first | apply Kd.N_alloc | apply Kd.N_drewN | apply Kd.N_drew)); exact Kd.N_mono HO_3.out (fun _ hk => trivial)⟩, ⟨by repeat (first | (with_reducible exact HR548_0.out) | (with_reducible refine Kd.C_alloc ?_ _) | (with_reducible refine Kd.C_drewN ?_ _) | (with_reducible refine Kd.C_drew ?_) | exact HR548_0.out | exact (Kd.V_reads' HL548_0.out).2.2)⟩, ⟨by repeat (first | (with_reducible exact HR549_2.out) | (with_reducible refine Kd.C_alloc ?_ _) | (with_reducible refine Kd.C_drewN ?_ _) | (with_reducible refine Kd.C_drew ?_) | exact HR549_2.out | exact (Kd.V_reads' HL549_2.out).2.2)⟩, ⟨by repeat (first | (with_reducible first | exact HB.out | apply below_alloc | apply pw_below_drewN | apply below_drew1 | refine below_set ?_ GE550.out) | exact HB.out)⟩⟩
                                                          case rest =>
                                                            clear HC35
                                                            try clear p2
                                                            try clear c3
                                                            try clear c4
                                                            try clear q4
                                                            try clear c5
                                                            try clear p5
                                                            try clear q5
                                                            try clear hx5
                                                            try clear c31
                                                            try clear c31b0
                                                            try clear c32
                                                            try clear c32b0
                                                            try clear c33
                                                            try clear c33b0
                                                            try clear c34
                                                            try clear c34b0
                                                            try clear c39
                                                            try clear c39b0
                                                            try clear c39b1
                                                            try clear c40
                                                            try clear c40b0
                                                            try clear c41
                                                            try clear c41b0
                                                            try clear c42
                                                            try clear c42b0
                                                            try clear c43
                                                            try clear c43b0
                                                            try clear q44
                                                            try clear c45
                                                            try clear q46
                                                            try clear c47
                                                            try clear c48
                                                            try clear c48b0
                                                            try clear q52
                                                            try clear c53
                                                            try clear c54
                                                            try clear p54
                                                            try clear q54
                                                            try clear hx54
                                                            try clear c55
                                                            try clear p55
                                                            try clear q55
                                                            try clear hx55
                                                            try clear hcz37_0
                                                            try clear hcz37_1
                                                            try clear hcz37_2
                                                            try clear hcz49_0
                                                            try clear hcz49_1
                                                            try clear hcz49_2
                                                            try clear hcz50_0
                                                            try clear hcz50_1
                                                            try clear hcz50_2
                                                            try clear hcz51_0
                                                            try clear hcz51_1
                                                            try clear hcz51_2
                                                            try clear hcz54_0
                                                            try clear hcz54_1
                                                            try clear hcz54_2
                                                            try clear hcz55_0
                                                            try clear hcz55_1
                                                            try clear hcz55_2
                                                            try clear hcz56_0
                                                            try clear hcz56_1
                                                            try clear hcz56_2
                                                            try clear hfz37_0
                                                            try clear hfz37_1
                                                            try clear hfz37_2
                                                            try clear hfz49_0
                                                            try clear hfz49_1
                                                            try clear hfz49_2
                                                            try clear hfz50_0
                                                            try clear hfz50_1
                                                            try clear hfz50_2
                                                            try clear hfz51_0
                                                            try clear hfz51_1
                                                            try clear hfz51_2
                                                            try clear hfz54_0
                                                            try clear hfz54_1
                                                            try clear hfz54_2
                                                            try clear hfz55_0
                                                            try clear hfz55_1
                                                            try clear hfz55_2
                                                            try clear hfz56_0
                                                            try clear hfz56_1
                                                            try clear hfz56_2
                                                            try clear hx546_0
                                                            try clear hx546_1
                                                            try clear hx546_2
                                                            try clear hx547_0
                                                            try clear hx548_0
                                                            try clear hx549_0
                                                            try clear hx549_1
                                                            try clear hx549_2
                                                            try clear hx551_0
                                                            try clear hx552_0
                                                            try clear hx552_1
                                                            try clear hx552_2
                                                            try clear hx553_0
                                                            try clear hx554_0
                                                            try clear hx554_1
                                                            try clear hx554_2
                                                            try clear hx555_0
                                                            try clear hx556_0
                                                            try clear hx556_1
                                                            try clear hx556_2
                                                            try clear p2
                                                            try clear p5
                                                            try clear p545
                                                            try clear p546
                                                            try clear p547
                                                            try clear p548
                                                            try clear p549
                                                            try clear p551
                                                            try clear p552
                                                            try clear p553
                                                            try clear p554
                                                            try clear p555
                                                            try clear p556
                                                            try clear q5
                                                            try clear q545
                                                            try clear q546
                                                            try clear q547
                                                            try clear q548
                                                            try clear q549
                                                            try clear q551
                                                            try clear q552
                                                            try clear q553
                                                            try clear q554
                                                            try clear q555
                                                            try clear q556
                                                            obtain ⟨kq, x133_34, rfl, HA, HJ34, HO_3, HR548_0, HR549_2, HB⟩ := hcut
                                                            cases kq with
                                                            | zero => exact absurd HA.out (by simp [laws_FnPickAt.j9])
                                                            | succ kj34 =>
                                                              have H := HA.out
                                                              clear HA
                                                              simp only [laws_FnPickAt.j9] at H
                                                              by_cases c57 : x133_34 = true
                                                              · subst c57
                                                                have H1 : (some false) = some r := by rw [if_pos rfl] at H; exact H
                                                                clear H
                                                                have H := H1
                                                                clear H1
                                                                obtain rfl := Option.some.inj H
                                                                go_wp2
                                                                go_ret
                                                                exact ⟨by first | rfl | (simp [errW_none, errW_some] <;> rfl) | (simp [*, errW_none, errW_some] <;> rfl), by repeat (first | (with_reducible first | exact HB.out | apply below_alloc | apply pw_below_drewN | apply below_drew1) | exact HB.out)⟩
                                                              · replace c57 := Bool.eq_false_iff.mpr c57
                                                                subst c57
                                                                have H1 : (laws_FnPickAt.l1 kj34 t535 t538 t539 t540 x11_6 (wrap64 (x12_8 + 1))) = some r := by rw [if_neg (show ¬ (false = true) by decide)] at H; exact H
                                                                clear H
                                                                have H := H1
                                                                clear H1
                                                                have H' := Aside0.mk H
                                                                clear H
                                                                go_wp2
                                                                go_roundg kj34
                                                                case measure => have := HJ1.out; have := HJ6.out; have := HJ13.out; have := HJ15.out; have := HJ22.out; have := HK6.out; have := HJ24.out; have := HK8.out; have := HJ28.out; have := HJ34.out; omega
                                                                case rel => exact ⟨(wrap64 (x12_8 + 1)), (by first | rfl | (simp; done) | (simp [*]; done)), H', ⟨by have := HJ1.out; have := HJ6.out; have := HJ13.out; have := HJ15.out; have := HJ22.out; have := HK6.out; have := HJ24.out; have := HK8.out; have := HJ28.out; have := HJ34.out; omega⟩, ⟨by (with_reducible repeat (first | apply Kd.N_alloc | apply Kd.N_drewN | apply Kd.N_drew)); exact HO_3.out⟩, ⟨by repeat (first | (with_reducible first | exact HB.out | apply below_alloc | apply pw_below_drewN | apply below_drew1) | exact HB.out)⟩⟩
                                                        · rw [if_neg c34] at H
                                                          exact absurd H (by simp)
                                                      · rw [if_neg c33] at H
                                                        exact absurd H (by simp)
                                                    · rw [if_neg c32] at H
                                                      exact absurd H (by simp)
                                                  · rw [if_neg c31] at H
                                                    exact absurd H (by simp)
                                            · rw [if_neg c28] at H
                                              exact absurd H (by simp)
                                          · rw [if_neg c27] at H
                                            exact absurd H (by simp)
                        · rw [if_neg c22] at H
                          exact absurd H (by simp)
                      · rw [if_neg c21] at H
                        exact absurd H (by simp)
                    · rw [if_neg c20] at H
                      exact absurd H (by simp)
                  · rw [if_neg c19] at H
                    exact absurd H (by simp)

/-- THE ONE PURE STATEMENT of laws_FnPickAt: yours. -/
def laws_FnPickAt.Pure : Prop := ∀ (l0 : List Int), l0.length ≤ maxLen → l0.length * 1 ≤ 140737488351232 → (∀ x ∈ l0, (Lit.int .u8 x).wf = true) → ∃ k, laws_FnPickAt.f k l0 = some true
theorem laws_FnPickAt.walk (P : laws_FnPickAt.Pure) (a0 : Option Addr) (len0 cap0 : Nat) (z0 : List Int) (w : World) (w0 : (a0 = none ∧ len0 = 0 ∧ cap0 = 0 ∧ z0 = []) ∨ ∃ x, a0 = some x ∧ len0 ≤ cap0 ∧ cap0 ≤ maxLen ∧ z0.length = cap0 ∧ (∀ i, i < z0.length → w.cell? (x.add i) = some (.int .u8 (z0.getD i 0))) ∧ ∀ n ∈ z0, (Lit.int .u8 n).wf = true) (y0 : len0 * 1 ≤ 140737488351232) :
    Calls Try.prog 6 #[.slice a0 len0 cap0] w fun e w' => e = .returned (.bool true) ∧ Below w.heap.size w w' := by
  obtain ⟨l0, rfl, hr0, hm0, hw0, hc0⟩ := ReadsInt.ofRowC w0
  obtain ⟨k, h⟩ := P l0 hm0 y0 hw0
  refine (laws_FnPickAt.calls k _ _ l0 true w (Kd.C_of_reads (d := (0 : Int)) (h1 := fun _ => rfl) hr0) hc0 h).mono ?_
  rintro e w' ⟨rfl, hd⟩
  exact ⟨rfl, hd⟩

end Go.Proofs.Ytpckkkcaffhhnaa.P
