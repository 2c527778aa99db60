-- PxlawsFnPickTwo, LDraw, LDrawU, PximplFunRefs, PxspecFunRefs, LRefs, LDrawP, LHit, PureFnPickTwo: put together by squash.py
import Derived.Test.YtpckkkcaffhhnaaSqFnPickTwo3
import Derived.Test.YtpckkkcaffhhnaaSqFnPickTwo9
import Derived.Test.YtpckkkcaffhhnaaSqFnPickTwo11
import Derived.Test.YtpckkkcaffhhnaaSqFnPickTwo6
import Derived.Test.YtpckkkcaffhhnaaSqFnPickTwo5
import Derived.Test.YtpckkkcaffhhnaaSqFnPickTwo7
import Derived.Test.YtpckkkcaffhhnaaSqFnPickTwo4
import Derived.Test.YtpckkkcaffhhnaaSqFnPickTwo10
import Derived.Test.YtpckkkcaffhhnaaSqFnPickTwo8

-- made by printx.py (own driver over the kit's print); Lean checks it
namespace Go.Proofs.Ytpckkkcaffhhnaa.P
open Go.RowKit Go.Proofs.YtpckkkcaffhhnaaW.PrintWords Go.Proofs.YtpckkkcaffhhnaaW.PrintLast Go.Proofs.YtpckkkcaffhhnaaW.PrintMore
attribute [local go_sem] max2_int min2_int max_two min_two max_three min_three max_four min_four   -- for this text's walks alone
set_option linter.unusedVariables false
set_option linter.unusedSimpArgs false

/-! ### laws_FnPickTwo: function 8 -/
mutual
def laws_FnPickTwo.j0 : Nat → List Int → Option (Bool)
  | 0, _ => none
  | k + 1, x0 => (spec_DrawPickTwo.f k x0).bind fun t632 => ((impl_PickTwo.f t632).bind fun bt635 => ((spec_PickTwo.f k t632).bind fun bt637 => (if bt635.1.toList = bt637.1.toList then (laws_FnPickTwo.j1 k t632 bt635.1 bt635.2 (bt635.2 != bt637.2)) else (laws_FnPickTwo.j1 k t632 bt635.1 bt635.2 true))))
def laws_FnPickTwo.j1 : Nat → List (List (S30)) → ByteArray → Bool → Bool → Option (Bool)
  | 0, _, _, _, _ => none
  | k + 1, x3, x4, x5, x33 => if x33 = true then (some false) else (laws_FnPickTwo.j2 k x3 x4 x5)
def laws_FnPickTwo.j2 : Nat → List (List (S30)) → ByteArray → Bool → Option (Bool)
  | 0, _, _, _ => none
  | k + 1, x3, x4, x5 => laws_FnPickTwo.l0 k x3 x4 x5 0 0
def laws_FnPickTwo.l0 : Nat → List (List (S30)) → ByteArray → Bool → Int → Int → Option (Bool)
  | 0, _, _, _, _, _ => none
  | k + 1, x3, x4, x5, x8, x9 => if x9 < (x3.length : Int) then (laws_FnPickTwo.j4 k x3 x4 x5 x8 x9 x5) else (laws_FnPickTwo.j4 k x3 x4 x5 x8 x9 false)
def laws_FnPickTwo.j4 : Nat → List (List (S30)) → ByteArray → Bool → Int → Int → Bool → Option (Bool)
  | 0, _, _, _, _, _, _ => none
  | k + 1, x3, x4, x5, x8, x9, x40 => if x40 = true then (laws_FnPickTwo.j5 k x3 x4 x5 x8 x9) else (some (x5 == (decide (x8 > 1))))
def laws_FnPickTwo.j5 : Nat → List (List (S30)) → ByteArray → Bool → Int → Int → Option (Bool)
  | 0, _, _, _, _, _ => none
  | k + 1, x3, x4, x5, x8, x9 => laws_FnPickTwo.l1 k x3 x4 x5 x8 x9 0
def laws_FnPickTwo.l1 : Nat → List (List (S30)) → ByteArray → Bool → Int → Int → Int → Option (Bool)
  | 0, _, _, _, _, _, _ => none
  | k + 1, x3, x4, x5, x8, x9, x10 => if 0 ≤ x9 then (if x9 < (x3.length : Int) then (if x10 < ((rd_L13 x3 x9).length : Int) then (if 0 ≤ x10 then (if ((rd_T30 (rd_L13 x3 x9) x10).f0).toList = x4.toList then (if ((rd_T30 (rd_L13 x3 x9) x10).f1 = true) then (laws_FnPickTwo.l1 k x3 x4 x5 x8 x9 (wrap64 (x10 + 1))) else (laws_FnPickTwo.l1 k x3 x4 x5 (wrap64 (x8 + 1)) x9 (wrap64 (x10 + 1)))) else (laws_FnPickTwo.l1 k x3 x4 x5 x8 x9 (wrap64 (x10 + 1)))) else (none)) else (laws_FnPickTwo.l0 k x3 x4 x5 x8 (wrap64 (x9 + 1)))) else (none)) else (none)
end
def laws_FnPickTwo.f (k : Nat) (l0 : List Int) : Option (Bool) := if (l0.length : Int) > 1048576 then (some true) else (laws_FnPickTwo.j0 k l0)
set_option maxHeartbeats 8000000 in
set_option maxRecDepth 100000 in
theorem laws_FnPickTwo.calls (k : Nat) (A0 : Option Addr) (c0 : Nat) (l0 : List Int) (r : Bool) (w : World) (hr0 : Kd.C (Kd.int .u8) w A0 l0.length l0) (hc0 : l0.length ≤ c0) (h : laws_FnPickTwo.f k l0 = some r) :
    Calls Try.prog 8 #[.slice A0 l0.length c0] w fun e w' => e = .returned (.bool r) ∧ Below w.heap.size w w' := by
  have HR0 := Aside0.mk hr0
  have HC0 := Aside0.mk hc0
  clear hr0 hc0
  have HB := Aside0.mk (Below.refl w.heap.size w)
  have H : (if (l0.length : Int) > 1048576 then (some true) else (laws_FnPickTwo.j0 k l0)) = some r := h
  clear h
  have HC2 := Aside0.mk H
  clear H
  go_enter Try.func8, Try.ntmps8
  go_upto_if 13 with (fail)
  go_cut [] (fun wc => ∃ (kq : Nat), Aside0 (laws_FnPickTwo.j0 kq l0 = some r) ∧ Aside0 (kq ≤ k) ∧ Aside0 (Below w.heap.size w wc))
  case first =>
    have H := HC2.out
    clear HC2
    by_cases c3 : (l0.length : Int) > 1048576
    · rw [if_pos c3] at H
      have c3b0 : decide (1048576 < (l0.length : Int)) = true := decide_eq_true c3
      have c3b1 : decide (1048576 < l0.length) = true := decide_eq_true (by omega)
      clear c3
      (first | rw [c3b0] | (simp only [i64_w, i32_w]; rw [c3b0]) | (have cn_ := c3b0; simp only [bne] at cn_; rw [cn_]; clear cn_) | skip)
      obtain rfl := Option.some.inj H
      go_wp2
      go_ret
      exact ⟨by first | rfl | (simp [errW_none, errW_some] <;> rfl) | (simp [*, errW_none, errW_some] <;> rfl), by repeat (first | (with_reducible first | exact HB.out | apply below_alloc | apply pw_below_drewN | apply below_drew1) | exact HB.out)⟩
    · rw [if_neg c3] at H
      have c3b0 : decide (1048576 < (l0.length : Int)) = false := decide_eq_false c3
      have c3b1 : decide (1048576 < l0.length) = false := decide_eq_false (by omega)
      clear c3
      (first | rw [c3b0] | (simp only [i64_w, i32_w]; rw [c3b0]) | (have cn_ := c3b0; simp only [bne] at cn_; rw [cn_]; clear cn_) | skip)
      have H' := Aside0.mk H
      clear H
      go_wp2
      go_meet
      case rel => exact ⟨_, H', ⟨by first | omega | exact Nat.le_refl _⟩, ⟨by repeat (first | (with_reducible first | exact HB.out | apply below_alloc | apply pw_below_drewN | apply below_drew1) | exact HB.out)⟩⟩
  case rest =>
    clear HC2
    try clear p2
    try clear c3
    try clear c3b0
    try clear c3b1
    obtain ⟨kq, HA, HJ1, HB⟩ := hcut
    cases kq with
    | zero => exact absurd HA.out (by simp [laws_FnPickTwo.j0])
    | succ kj1 =>
      have H := HA.out
      clear HA
      simp only [laws_FnPickTwo.j0] at H
      replace H := Option.bind_eq_some_iff.mp H
      obtain ⟨t632, A40, H⟩ := H
      replace H : ((impl_PickTwo.f t632).bind fun bt635 => ((spec_PickTwo.f kj1 t632).bind fun bt637 => (if bt635.1.toList = bt637.1.toList then (laws_FnPickTwo.j1 kj1 t632 bt635.1 bt635.2 (bt635.2 != bt637.2)) else (laws_FnPickTwo.j1 kj1 t632 bt635.1 bt635.2 true)))) = some r := H
      have A4 := Aside0.mk A40
      clear A40
      replace H := Option.bind_eq_some_iff.mp H
      obtain ⟨⟨t635, t636⟩, A50, H⟩ := H
      replace H : ((spec_PickTwo.f kj1 t632).bind fun bt637 => (if t635.toList = bt637.1.toList then (laws_FnPickTwo.j1 kj1 t632 t635 t636 (t636 != bt637.2)) else (laws_FnPickTwo.j1 kj1 t632 t635 t636 true))) = some r := H
      have A5 := Aside0.mk A50
      clear A50
      replace H := Option.bind_eq_some_iff.mp H
      obtain ⟨⟨t637, t638⟩, A60, H⟩ := H
      replace H : (if t635.toList = t637.toList then (laws_FnPickTwo.j1 kj1 t632 t635 t636 (t636 != t638)) else (laws_FnPickTwo.j1 kj1 t632 t635 t636 true)) = some r := H
      have A6 := Aside0.mk A60
      clear A60
      have HC7 := Aside0.mk H
      clear H
      go_upto_region 6 with (first | ((with_reducible refine gate_callee (f := 33) rfl ?_); refine goesL_ (some 15) rfl rfl Try.func33 (by kernel_rfl) rfl #[.slice A0 l0.length c0] rfl (by (try simp only [List.map_toArray, List.map_cons, List.map_nil]); first | done | rfl | (simp only [List.length_drop, List.length_take]; rfl)) ?_; (with_reducible refine (spec_DrawPickTwo.calls kj1 _ _ l0 t632 _ ?side1 ?side2 A4.out).mono ?_); (case side1 => repeat (first | exact (Kd.C_below HR0.out HB.out) | (with_reducible refine Kd.C_alloc ?_ _) | (with_reducible refine Kd.C_drewN ?_ _) | (with_reducible refine Kd.C_drew ?_))); (case side2 => exact HC0.out); rintro e w8 ⟨v633, rfl, ho0, hb⟩; refine ⟨_, rfl, ?_⟩; have n0_ := Aside0.mk (Kd.N_lower (Kd.N_mono (ok' := fun k_ => True) ho0 (fun k_ hk_ => trivial)) (below_size (by repeat (first | (with_reducible first | exact HB.out | apply below_alloc | apply pw_below_drewN | apply below_drew1) | exact HB.out)))); have n1_ := Aside0.mk (below_step (by repeat (first | (with_reducible first | exact HB.out | apply below_alloc | apply pw_below_drewN | apply below_drew1) | exact HB.out)) hb); clear HB; have HO634 := n0_; have HB := n1_; clear n0_ n1_; (try clear hb); (try clear hb2); (try clear hk); (try clear hi); (try clear ho0); obtain ⟨Ao9, co9, eo9⟩ := Kd.N_slice HO634.out; subst eo9) | ((with_reducible refine gate_callee (f := 34) rfl ?_); refine goesL_ (some 18) rfl rfl Try.func34 (by kernel_rfl) rfl #[.slice Ao9 t632.length co9] rfl (by (try simp only [List.map_toArray, List.map_cons, List.map_nil]); first | done | rfl | (simp only [List.length_drop, List.length_take]; rfl)) ?_; (with_reducible refine (impl_PickTwo.calls _ _ t632 t635 t636 _ ?side1 ?side2 A5.out).mono ?_); (case side1 => repeat (first | exact (Kd.N_reads' HO634.out).2.2 | (with_reducible refine Kd.C_alloc ?_ _) | (with_reducible refine Kd.C_drewN ?_ _) | (with_reducible refine Kd.C_drew ?_))); (case side2 => exact (Kd.N_reads' HO634.out).2.1); rintro e w10 ⟨rfl, hb⟩; refine ⟨_, rfl, ?_⟩; have n0_ := Aside0.mk (Kd.N_below (by (with_reducible repeat (first | apply Kd.N_alloc | apply Kd.N_drewN | apply Kd.N_drew)); exact HO634.out) hb); have n1_ := Aside0.mk (below_step (by repeat (first | (with_reducible first | exact HB.out | apply below_alloc | apply pw_below_drewN | apply below_drew1) | exact HB.out)) hb); clear HO634; clear HB; have HO634 := n0_; have HB := n1_; clear n0_ n1_; (try clear hb); (try clear hb2); (try clear hk); (try clear hi)) | ((with_reducible refine gate_callee (f := 35) rfl ?_); refine goesL_ (some 23) rfl rfl Try.func35 (by kernel_rfl) rfl #[.slice Ao9 t632.length co9] rfl (by (try simp only [List.map_toArray, List.map_cons, List.map_nil]); first | done | rfl | (simp only [List.length_drop, List.length_take]; rfl)) ?_; (with_reducible refine (spec_PickTwo.calls kj1 _ _ t632 t637 t638 _ ?side1 ?side2 A6.out).mono ?_); (case side1 => repeat (first | exact (Kd.N_reads' HO634.out).2.2 | (with_reducible refine Kd.C_alloc ?_ _) | (with_reducible refine Kd.C_drewN ?_ _) | (with_reducible refine Kd.C_drew ?_))); (case side2 => exact (Kd.N_reads' HO634.out).2.1); rintro e w11 ⟨rfl, hb⟩; refine ⟨_, rfl, ?_⟩; have n0_ := Aside0.mk (Kd.N_below (by (with_reducible repeat (first | apply Kd.N_alloc | apply Kd.N_drewN | apply Kd.N_drew)); exact HO634.out) hb); have n1_ := Aside0.mk (below_step (by repeat (first | (with_reducible first | exact HB.out | apply below_alloc | apply pw_below_drewN | apply below_drew1) | exact HB.out)) hb); clear HO634; clear HB; have HO634 := n0_; have HB := n1_; clear n0_ n1_; (try clear hb); (try clear hb2); (try clear hk); (try clear hi)))
      (try simp only [Act.put, List.setIfInBounds_toArray, List.set_cons_zero, List.set_cons_succ])
      go_cut [33] (fun v33 wc => ∃ (kq : Nat) (x33_6 : Bool), v33 = .bool x33_6 ∧ Aside0 (laws_FnPickTwo.j1 kq t632 t635 t636 x33_6 = some r) ∧ Aside0 (kq ≤ kj1) ∧ Aside0 (Kd.N (Kd.slice 30 k30) 23 wc w.heap.size (fun _ => True) (.slice Ao9 t632.length co9) t632) ∧ Aside0 (Below w.heap.size w wc))
      case first =>
        have H := HC7.out
        clear HC7
        by_cases c12 : t635.toList = t637.toList
        · rw [if_pos c12] at H
          have c12b0 : (t635.toList == t637.toList) = true := beq_iff_eq.mpr c12
          have c12b1 : (t635.toList != t637.toList) = false := bne_eq_false_iff_eq.mpr c12
          clear c12
          (first | rw [c12b0] | (simp only [i64_w, i32_w]; rw [c12b0]) | (have cn_ := c12b0; simp only [bne] at cn_; rw [cn_]; clear cn_) | skip)
          have H' := Aside0.mk H
          clear H
          go_wp2
          go_meet
          case rel => exact ⟨_, ((t636 != t638)), (by first | rfl | (simp; done) | (simp [*]; done)), H', ⟨by have := HJ1.out; first | omega | exact Nat.le_refl _⟩, ⟨by (with_reducible repeat (first | apply Kd.N_alloc | apply Kd.N_drewN | apply Kd.N_drew)); exact HO634.out⟩, ⟨by repeat (first | (with_reducible first | exact HB.out | apply below_alloc | apply pw_below_drewN | apply below_drew1) | exact HB.out)⟩⟩
        · rw [if_neg c12] at H
          have c12b0 : (t635.toList == t637.toList) = false := beq_eq_false_iff_ne.mpr c12
          have c12b1 : (t635.toList != t637.toList) = true := bne_iff_ne.mpr c12
          (first | rw [c12b0] | (simp only [i64_w, i32_w]; rw [c12b0]) | (have cn_ := c12b0; simp only [bne] at cn_; rw [cn_]; clear cn_) | skip)
          have H' := Aside0.mk H
          clear H
          go_wp2
          go_meet
          case rel => exact ⟨_, (true), (by first | rfl | (simp; done) | (simp [*]; done)), H', ⟨by have := HJ1.out; first | omega | exact Nat.le_refl _⟩, ⟨by (with_reducible repeat (first | apply Kd.N_alloc | apply Kd.N_drewN | apply Kd.N_drew)); exact HO634.out⟩, ⟨by repeat (first | (with_reducible first | exact HB.out | apply below_alloc | apply pw_below_drewN | apply below_drew1) | exact HB.out)⟩⟩
      case rest =>
        clear HC7
        try clear c1
        try clear p2
        try clear c3
        try clear c3b0
        try clear c3b1
        try clear c8
        try clear c12
        try clear c12b0
        try clear c12b1
        try clear p2
        obtain ⟨kq, x33_6, rfl, HA, HJ6, HO_3, HB⟩ := hcut
        cases kq with
        | zero => exact absurd HA.out (by simp [laws_FnPickTwo.j1])
        | succ kj6 =>
          have H := HA.out
          clear HA
          simp only [laws_FnPickTwo.j1] at H
          have HC13 := Aside0.mk H
          clear H
          go_upto_if 33 with (fail)
          go_cut [] (fun wc => ∃ (kq : Nat), Aside0 (laws_FnPickTwo.j2 kq t632 t635 t636 = some r) ∧ Aside0 (kq ≤ kj6) ∧ Aside0 (Kd.N (Kd.slice 30 k30) 23 wc w.heap.size (fun _ => True) (.slice Ao9 t632.length co9) t632) ∧ Aside0 (Below w.heap.size w wc))
          case first =>
            have H := HC13.out
            clear HC13
            by_cases c14 : x33_6 = true
            · subst c14
              have H1 : (some false) = some r := by rw [if_pos rfl] at H; exact H
              clear H
              have H := H1
              clear H1
              obtain rfl := Option.some.inj H
              go_wp2
              go_ret
              exact ⟨by first | rfl | (simp [errW_none, errW_some] <;> rfl) | (simp [*, errW_none, errW_some] <;> rfl), by repeat (first | (with_reducible first | exact HB.out | apply below_alloc | apply pw_below_drewN | apply below_drew1) | exact HB.out)⟩
            · replace c14 := Bool.eq_false_iff.mpr c14
              subst c14
              have H1 : (laws_FnPickTwo.j2 kj6 t632 t635 t636) = some r := by rw [if_neg (show ¬ (false = true) by decide)] at H; exact H
              clear H
              have H := H1
              clear H1
              have H' := Aside0.mk H
              clear H
              go_wp2
              go_meet
              case rel => exact ⟨_, H', ⟨by have := HJ1.out; have := HJ6.out; first | omega | exact Nat.le_refl _⟩, ⟨by (with_reducible repeat (first | apply Kd.N_alloc | apply Kd.N_drewN | apply Kd.N_drew)); exact HO_3.out⟩, ⟨by repeat (first | (with_reducible first | exact HB.out | apply below_alloc | apply pw_below_drewN | apply below_drew1) | exact HB.out)⟩⟩
          case rest =>
            clear HC13
            try clear c1
            try clear p2
            try clear c3
            try clear c3b0
            try clear c3b1
            try clear c8
            try clear c12
            try clear c12b0
            try clear c12b1
            try clear c14
            try clear p2
            obtain ⟨kq, HA, HJ12, HO_3, HB⟩ := hcut
            cases kq with
            | zero => exact absurd HA.out (by simp [laws_FnPickTwo.j2])
            | succ kj12 =>
              have H := HA.out
              clear HA
              simp only [laws_FnPickTwo.j2] at H
              have H' := Aside0.mk H
              clear H
              go_wp2
              go_loopg [8, 9] kj12 (fun kq v8 v9 w' => ∃ (x8_4 : Int) (x9_4 : Int), v8 = .int .i64 x8_4 ∧ v9 = .int .i64 x9_4 ∧ Aside0 (laws_FnPickTwo.l0 kq t632 t635 t636 x8_4 x9_4 = some r) ∧ Aside0 (kq ≤ kj12) ∧ Aside0 (Kd.N (Kd.slice 30 k30) 23 w' w.heap.size (fun _ => True) (.slice Ao9 t632.length co9) t632) ∧ Aside0 (Below w.heap.size w w'))
              case atStart => exact ⟨(0), (0), (by first | rfl | (simp; done) | (simp [*]; done)), (by first | rfl | (simp; done) | (simp [*]; done)), H', ⟨Nat.le_refl _⟩, ⟨by (with_reducible repeat (first | apply Kd.N_alloc | apply Kd.N_drewN | apply Kd.N_drew)); exact HO_3.out⟩, ⟨by repeat (first | (with_reducible first | exact HB.out | apply below_alloc | apply pw_below_drewN | apply below_drew1) | exact HB.out)⟩⟩
              case round =>
                clear H'
                try clear c1
                try clear p2
                try clear c3
                try clear c3b0
                try clear c3b1
                try clear c8
                try clear c12
                try clear c12b0
                try clear c12b1
                try clear c14
                try clear p2
                obtain ⟨x8_4, x9_4, rfl, rfl, HA, HK4, HO_3, HB⟩ := hrel
                cases gk with
                | zero => exact absurd HA.out (by simp [laws_FnPickTwo.l0])
                | succ k4 =>
                  have H := HA.out
                  clear HA
                  simp only [laws_FnPickTwo.l0] at H
                  have HC15 := Aside0.mk H
                  clear H
                  go_upto_region 10 with (fail)
                  go_cut [40] (fun v40 wc => ∃ (kq : Nat) (x40_14 : Bool), v40 = .bool x40_14 ∧ Aside0 (laws_FnPickTwo.j4 kq t632 t635 t636 x8_4 x9_4 x40_14 = some r) ∧ Aside0 (kq ≤ k4) ∧ Aside0 (Kd.N (Kd.slice 30 k30) 23 wc w.heap.size (fun _ => True) (.slice Ao9 t632.length co9) t632) ∧ Aside0 (Below w.heap.size w wc))
                  case first =>
                    have H := HC15.out
                    clear HC15
                    by_cases c16 : x9_4 < (t632.length : Int)
                    · rw [if_pos c16] at H
                      have c16b0 : decide (x9_4 < (t632.length : Int)) = true := decide_eq_true c16
                      clear c16
                      (first | rw [c16b0] | (simp only [i64_w, i32_w]; rw [c16b0]) | (have cn_ := c16b0; simp only [bne] at cn_; rw [cn_]; clear cn_) | skip)
                      have H' := Aside0.mk H
                      clear H
                      go_wp2
                      go_meet
                      case rel => exact ⟨_, (t636), (by first | rfl | (simp; done) | (simp [*]; done)), H', ⟨by have := HJ1.out; have := HJ6.out; have := HJ12.out; have := HK4.out; first | omega | exact Nat.le_refl _⟩, ⟨by (with_reducible repeat (first | apply Kd.N_alloc | apply Kd.N_drewN | apply Kd.N_drew)); exact HO_3.out⟩, ⟨by repeat (first | (with_reducible first | exact HB.out | apply below_alloc | apply pw_below_drewN | apply below_drew1) | exact HB.out)⟩⟩
                    · rw [if_neg c16] at H
                      have c16b0 : decide (x9_4 < (t632.length : Int)) = false := decide_eq_false c16
                      clear c16
                      (first | rw [c16b0] | (simp only [i64_w, i32_w]; rw [c16b0]) | (have cn_ := c16b0; simp only [bne] at cn_; rw [cn_]; clear cn_) | skip)
                      have H' := Aside0.mk H
                      clear H
                      go_wp2
                      go_meet
                      case rel => exact ⟨_, (false), (by first | rfl | (simp; done) | (simp [*]; done)), H', ⟨by have := HJ1.out; have := HJ6.out; have := HJ12.out; have := HK4.out; first | omega | exact Nat.le_refl _⟩, ⟨by (with_reducible repeat (first | apply Kd.N_alloc | apply Kd.N_drewN | apply Kd.N_drew)); exact HO_3.out⟩, ⟨by repeat (first | (with_reducible first | exact HB.out | apply below_alloc | apply pw_below_drewN | apply below_drew1) | exact HB.out)⟩⟩
                  case rest =>
                    clear HC15
                    try clear c1
                    try clear p2
                    try clear c3
                    try clear c3b0
                    try clear c3b1
                    try clear c8
                    try clear c12
                    try clear c12b0
                    try clear c12b1
                    try clear c14
                    try clear c16
                    try clear c16b0
                    try clear p2
                    obtain ⟨kq, x40_14, rfl, HA, HJ14, HO_3, HB⟩ := hcut
                    cases kq with
                    | zero => exact absurd HA.out (by simp [laws_FnPickTwo.j4])
                    | succ kj14 =>
                      have H := HA.out
                      clear HA
                      simp only [laws_FnPickTwo.j4] at H
                      have HC17 := Aside0.mk H
                      clear H
                      go_upto_if 40 with (fail)
                      go_cut [] (fun wc => ∃ (kq : Nat), Aside0 (laws_FnPickTwo.j5 kq t632 t635 t636 x8_4 x9_4 = some r) ∧ Aside0 (kq ≤ kj14) ∧ Aside0 (Kd.N (Kd.slice 30 k30) 23 wc w.heap.size (fun _ => True) (.slice Ao9 t632.length co9) t632) ∧ Aside0 (Below w.heap.size w wc))
                      case first =>
                        have H := HC17.out
                        clear HC17
                        by_cases c18 : x40_14 = true
                        · subst c18
                          have H1 : (laws_FnPickTwo.j5 kj14 t632 t635 t636 x8_4 x9_4) = some r := by rw [if_pos rfl] at H; exact H
                          clear H
                          have H := H1
                          clear H1
                          have H' := Aside0.mk H
                          clear H
                          go_wp2
                          go_meet
                          case rel => exact ⟨_, H', ⟨by have := HJ1.out; have := HJ6.out; have := HJ12.out; have := HK4.out; have := HJ14.out; first | omega | exact Nat.le_refl _⟩, ⟨by (with_reducible repeat (first | apply Kd.N_alloc | apply Kd.N_drewN | apply Kd.N_drew)); exact HO_3.out⟩, ⟨by repeat (first | (with_reducible first | exact HB.out | apply below_alloc | apply pw_below_drewN | apply below_drew1) | exact HB.out)⟩⟩
                        · replace c18 := Bool.eq_false_iff.mpr c18
                          subst c18
                          have H1 : (some (t636 == (decide (x8_4 > 1)))) = some r := by rw [if_neg (show ¬ (false = true) by decide)] at H; exact H
                          clear H
                          have H := H1
                          clear H1
                          obtain rfl := Option.some.inj H
                          go_wp2
                          go_ret
                          exact ⟨by first | rfl | (simp [errW_none, errW_some] <;> rfl) | (simp [*, errW_none, errW_some] <;> rfl), by repeat (first | (with_reducible first | exact HB.out | apply below_alloc | apply pw_below_drewN | apply below_drew1) | exact HB.out)⟩
                      case rest =>
                        clear HC17
                        try clear c1
                        try clear p2
                        try clear c3
                        try clear c3b0
                        try clear c3b1
                        try clear c8
                        try clear c12
                        try clear c12b0
                        try clear c12b1
                        try clear c14
                        try clear c16
                        try clear c16b0
                        try clear c18
                        try clear p2
                        obtain ⟨kq, HA, HJ16, HO_3, HB⟩ := hcut
                        cases kq with
                        | zero => exact absurd HA.out (by simp [laws_FnPickTwo.j5])
                        | succ kj16 =>
                          have H := HA.out
                          clear HA
                          simp only [laws_FnPickTwo.j5] at H
                          have H' := Aside0.mk H
                          clear H
                          go_wp2
                          go_loopg [8, 10] kj16 (fun kq v8 v10 w' => ∃ (x8_7 : Int) (x10_7 : Int), v8 = .int .i64 x8_7 ∧ v10 = .int .i64 x10_7 ∧ Aside0 (laws_FnPickTwo.l1 kq t632 t635 t636 x8_7 x9_4 x10_7 = some r) ∧ Aside0 (kq ≤ kj16) ∧ Aside0 (Kd.N (Kd.slice 30 k30) 23 w' w.heap.size (fun _ => True) (.slice Ao9 t632.length co9) t632) ∧ Aside0 (Below w.heap.size w w'))
                          case atStart => exact ⟨(x8_4), (0), (by first | rfl | (simp; done) | (simp [*]; done)), (by first | rfl | (simp; done) | (simp [*]; done)), H', ⟨Nat.le_refl _⟩, ⟨by (with_reducible repeat (first | apply Kd.N_alloc | apply Kd.N_drewN | apply Kd.N_drew)); exact HO_3.out⟩, ⟨by repeat (first | (with_reducible first | exact HB.out | apply below_alloc | apply pw_below_drewN | apply below_drew1) | exact HB.out)⟩⟩
                          case round =>
                            clear H'
                            try clear c1
                            try clear p2
                            try clear c3
                            try clear c3b0
                            try clear c3b1
                            try clear c8
                            try clear c12
                            try clear c12b0
                            try clear c12b1
                            try clear c14
                            try clear c16
                            try clear c16b0
                            try clear c18
                            try clear p2
                            obtain ⟨x8_7, x10_7, rfl, rfl, HA, HK7, HO_3, HB⟩ := hrel
                            cases gk with
                            | zero => exact absurd HA.out (by simp [laws_FnPickTwo.l1])
                            | succ k7 =>
                              have H := HA.out
                              clear HA
                              simp only [laws_FnPickTwo.l1] at H
                              by_cases c19 : 0 ≤ x9_4
                              · rw [if_pos c19] at H
                                have c19b0 : decide (0 ≤ x9_4) = true := decide_eq_true c19
                                clear c19
                                by_cases c20 : x9_4 < (t632.length : Int)
                                · rw [if_pos c20] at H
                                  have c20b0 : decide (x9_4 < (t632.length : Int)) = true := decide_eq_true c20
                                  clear c20
                                  by_cases c21 : x10_7 < ((rd_L13 t632 x9_4).length : Int)
                                  · rw [if_pos c21] at H
                                    have c21b0 : decide (x10_7 < ((rd_L13 t632 x9_4).length : Int)) = true := decide_eq_true c21
                                    clear c21
                                    by_cases c22 : 0 ≤ x10_7
                                    · rw [if_pos c22] at H
                                      have c22b0 : decide (0 ≤ x10_7) = true := decide_eq_true c22
                                      clear c22
                                      by_cases c23 : ((rd_T30 (rd_L13 t632 x9_4) x10_7).f0).toList = t635.toList
                                      · rw [if_pos c23] at H
                                        have c23b0 : (((rd_T30 (rd_L13 t632 x9_4) x10_7).f0).toList == t635.toList) = true := beq_iff_eq.mpr c23
                                        have c23b1 : (((rd_T30 (rd_L13 t632 x9_4) x10_7).f0).toList != t635.toList) = false := bne_eq_false_iff_eq.mpr c23
                                        clear c23
                                        obtain ⟨bq24, hbq24⟩ : ∃ b_ : Bool, b_ = ((rd_T30 (rd_L13 t632 x9_4) x10_7).f1) := ⟨_, rfl⟩
                                        replace H : (if (bq24 = true) then (laws_FnPickTwo.l1 k7 t632 t635 t636 x8_7 x9_4 (wrap64 (x10_7 + 1))) else (laws_FnPickTwo.l1 k7 t632 t635 t636 (wrap64 (x8_7 + 1)) x9_4 (wrap64 (x10_7 + 1)))) = some r := by rw [← hbq24] at H; exact H
                                        have Nbq24 := Aside0.mk hbq24
                                        clear hbq24
                                        by_cases c25 : (bq24 = true)
                                        · subst c25
                                          have H1 : (laws_FnPickTwo.l1 k7 t632 t635 t636 x8_7 x9_4 (wrap64 (x10_7 + 1))) = some r := by rw [if_pos rfl] at H; exact H
                                          clear H
                                          have H := H1
                                          clear H1
                                          have H' := Aside0.mk H
                                          clear H
                                          have p639 : 0 ≤ (x9_4 : Int) := of_decide_eq_true (by first | (with_reducible assumption) | assumption)
                                          have q639 : x9_4 < (t632.length : Int) := of_decide_eq_true (by first | (with_reducible assumption) | assumption)
                                          obtain ⟨ad639, A639_0, c639_0, e639, hx639_0, hl639_0, hi639_0⟩ := at_L13 (Kd.N_reads' HO_3.out).2.2 x9_4 p639 q639
                                          cases e639
                                          obtain ⟨ce639, hce639, hMe639, hcc639⟩ := Kd.N_get HO_3.out [] x9_4 p639 (by first | exact q639 | exact of_decide_eq_true (by first | (with_reducible assumption) | assumption) | (have e_ := (Kd.N_reads' HO_3.out).1; omega))
                                          obtain ⟨ua639_0, uc639_0, rfl, ul639_0, ge639_0⟩ := Kd.FK_slice_open hMe639
                                          have hv639_0 := hcc639 0 _ rfl
                                          rw [Nat.add_zero, show ((Kd.slice 30 k30)).sz = 1 from rfl, Nat.mul_one] at hv639_0
                                          replace hv639_0 := Option.some.inj (hv639_0.symm.trans hx639_0)
                                          injection hv639_0 with hva_ hvn_ hvc_
                                          rw [hva_] at ge639_0
                                          rw [hvc_] at ul639_0
                                          have HL639_0 := Aside0.mk (show Kd.V k30 30 _ w.heap.size _ _ (rd_L13 t632 x9_4) from Kd.V_mk ul639_0 ge639_0)
                                          clear hva_ hvn_ hvc_ ge639_0 ul639_0
                                          clear hcc639 hce639
                                          have HR639_0 := Aside0.mk hi639_0
                                          have HC639_0 := Aside0.mk hl639_0
                                          clear hi639_0 hl639_0
                                          replace p639 := eq_true p639
                                          replace q639 := eq_true q639
                                          have p640 : 0 ≤ (x9_4 : Int) := of_decide_eq_true (by first | (with_reducible assumption) | assumption)
                                          have q640 : x9_4 < (t632.length : Int) := of_decide_eq_true (by first | (with_reducible assumption) | assumption)
                                          obtain ⟨ad640, A640_0, c640_0, e640, hx640_0, hl640_0, hi640_0⟩ := at_L13 (Kd.N_reads' HO_3.out).2.2 x9_4 p640 q640
                                          obtain rfl : ad639 = ad640 := (by injection e640)
                                          obtain ⟨ce640, hce640, hMe640, hcc640⟩ := Kd.N_get HO_3.out [] x9_4 p640 (by first | exact q640 | exact of_decide_eq_true (by first | (with_reducible assumption) | assumption) | (have e_ := (Kd.N_reads' HO_3.out).1; omega))
                                          obtain ⟨ua640_0, uc640_0, rfl, ul640_0, ge640_0⟩ := Kd.FK_slice_open hMe640
                                          have hv640_0 := hcc640 0 _ rfl
                                          rw [Nat.add_zero, show ((Kd.slice 30 k30)).sz = 1 from rfl, Nat.mul_one] at hv640_0
                                          replace hv640_0 := Option.some.inj (hv640_0.symm.trans hx640_0)
                                          injection hv640_0 with hva_ hvn_ hvc_
                                          rw [hva_] at ge640_0
                                          rw [hvc_] at ul640_0
                                          have HL640_0 := Aside0.mk (show Kd.V k30 30 _ w.heap.size _ _ (rd_L13 t632 x9_4) from Kd.V_mk ul640_0 ge640_0)
                                          clear hva_ hvn_ hvc_ ge640_0 ul640_0
                                          clear hcc640 hce640
                                          have HR640_0 := Aside0.mk hi640_0
                                          have HC640_0 := Aside0.mk hl640_0
                                          clear hi640_0 hl640_0
                                          replace p640 := eq_true p640
                                          replace q640 := eq_true q640
                                          have ea_ := Option.some.inj (hx639_0.symm.trans hx640_0)
                                          injection ea_ with ea_ en_ ec_
                                          subst ea_
                                          subst ec_
                                          clear en_
                                          have p641 : 0 ≤ (x10_7 : Int) := of_decide_eq_true (by first | (with_reducible assumption) | assumption)
                                          have q641 : x10_7 < ((rd_L13 t632 x9_4).length : Int) := of_decide_eq_true (by first | (with_reducible assumption) | assumption)
                                          obtain ⟨ad641, A641_2, c641_2, e641, hx641_0, hx641_1, hx641_2, hl641_2, hi641_2⟩ := at_T30 (by repeat (first | (with_reducible exact HR640_0.out) | (with_reducible refine Kd.C_alloc ?_ _) | (with_reducible refine Kd.C_drewN ?_ _) | (with_reducible refine Kd.C_drew ?_) | exact HR640_0.out)) x10_7 p641 q641
                                          (try rw [← Nbq24.out] at hx641_1)
                                          cases e641
                                          obtain ⟨ce641, hce641, hMe641, hcc641⟩ := Kd.V_get HL640_0.out z30 x10_7 p641 (by first | exact q641 | exact of_decide_eq_true (by first | (with_reducible assumption) | assumption) | (have e_ := (Kd.V_reads' HL640_0.out).1; omega))
                                          obtain ⟨ua641_2, uc641_2, rfl, ul641_2, ge641_2⟩ := k30_openF hMe641
                                          have hv641_2 := hcc641 2 _ rfl
                                          rw [add_field _ _ 2 (by omega)] at hv641_2
                                          replace hv641_2 := Option.some.inj (hv641_2.symm.trans hx641_2)
                                          injection hv641_2 with hva_ hvn_ hvc_
                                          rw [hva_] at ge641_2
                                          rw [hvc_] at ul641_2
                                          have HL641_2 := Aside0.mk (show Kd.V k38 38 _ w.heap.size _ _ ((rd_T30 (rd_L13 t632 x9_4) x10_7).f2) from Kd.V_mk ul641_2 ge641_2)
                                          clear hva_ hvn_ hvc_ ge641_2 ul641_2
                                          clear hcc641 hce641
                                          have HR641_2 := Aside0.mk hi641_2
                                          have HC641_2 := Aside0.mk hl641_2
                                          clear hi641_2 hl641_2
                                          replace p641 := eq_true p641
                                          replace q641 := eq_true q641
                                          have p642 : 0 ≤ (x9_4 : Int) := of_decide_eq_true (by first | (with_reducible assumption) | assumption)
                                          have q642 : x9_4 < (t632.length : Int) := of_decide_eq_true (by first | (with_reducible assumption) | assumption)
                                          obtain ⟨ad642, A642_0, c642_0, e642, hx642_0, hl642_0, hi642_0⟩ := at_L13 (Kd.N_reads' HO_3.out).2.2 x9_4 p642 q642
                                          obtain rfl : ad639 = ad642 := (by injection e642)
                                          obtain ⟨ce642, hce642, hMe642, hcc642⟩ := Kd.N_get HO_3.out [] x9_4 p642 (by first | exact q642 | exact of_decide_eq_true (by first | (with_reducible assumption) | assumption) | (have e_ := (Kd.N_reads' HO_3.out).1; omega))
                                          obtain ⟨ua642_0, uc642_0, rfl, ul642_0, ge642_0⟩ := Kd.FK_slice_open hMe642
                                          have hv642_0 := hcc642 0 _ rfl
                                          rw [Nat.add_zero, show ((Kd.slice 30 k30)).sz = 1 from rfl, Nat.mul_one] at hv642_0
                                          replace hv642_0 := Option.some.inj (hv642_0.symm.trans hx642_0)
                                          injection hv642_0 with hva_ hvn_ hvc_
                                          rw [hva_] at ge642_0
                                          rw [hvc_] at ul642_0
                                          have HL642_0 := Aside0.mk (show Kd.V k30 30 _ w.heap.size _ _ (rd_L13 t632 x9_4) from Kd.V_mk ul642_0 ge642_0)
                                          clear hva_ hvn_ hvc_ ge642_0 ul642_0
                                          clear hcc642 hce642
                                          have HR642_0 := Aside0.mk hi642_0
                                          have HC642_0 := Aside0.mk hl642_0
                                          clear hi642_0 hl642_0
                                          replace p642 := eq_true p642
                                          replace q642 := eq_true q642
                                          have ea_ := Option.some.inj (hx639_0.symm.trans hx642_0)
                                          injection ea_ with ea_ en_ ec_
                                          subst ea_
                                          subst ec_
                                          clear en_
                                          have p643 : 0 ≤ (x10_7 : Int) := of_decide_eq_true (by first | (with_reducible assumption) | assumption)
                                          have q643 : x10_7 < ((rd_L13 t632 x9_4).length : Int) := of_decide_eq_true (by first | (with_reducible assumption) | assumption)
                                          obtain ⟨ad643, A643_2, c643_2, e643, hx643_0, hx643_1, hx643_2, hl643_2, hi643_2⟩ := at_T30 (by repeat (first | (with_reducible exact HR642_0.out) | (with_reducible refine Kd.C_alloc ?_ _) | (with_reducible refine Kd.C_drewN ?_ _) | (with_reducible refine Kd.C_drew ?_) | exact HR642_0.out)) x10_7 p643 q643
                                          (try rw [← Nbq24.out] at hx643_1)
                                          cases e643
                                          obtain ⟨ce643, hce643, hMe643, hcc643⟩ := Kd.V_get HL642_0.out z30 x10_7 p643 (by first | exact q643 | exact of_decide_eq_true (by first | (with_reducible assumption) | assumption) | (have e_ := (Kd.V_reads' HL642_0.out).1; omega))
                                          obtain ⟨ua643_2, uc643_2, rfl, ul643_2, ge643_2⟩ := k30_openF hMe643
                                          have hv643_2 := hcc643 2 _ rfl
                                          rw [add_field _ _ 2 (by omega)] at hv643_2
                                          replace hv643_2 := Option.some.inj (hv643_2.symm.trans hx643_2)
                                          injection hv643_2 with hva_ hvn_ hvc_
                                          rw [hva_] at ge643_2
                                          rw [hvc_] at ul643_2
                                          have HL643_2 := Aside0.mk (show Kd.V k38 38 _ w.heap.size _ _ ((rd_T30 (rd_L13 t632 x9_4) x10_7).f2) from Kd.V_mk ul643_2 ge643_2)
                                          clear hva_ hvn_ hvc_ ge643_2 ul643_2
                                          clear hcc643 hce643
                                          have HR643_2 := Aside0.mk hi643_2
                                          have HC643_2 := Aside0.mk hl643_2
                                          clear hi643_2 hl643_2
                                          replace p643 := eq_true p643
                                          replace q643 := eq_true q643
                                          go_wp2
                                          go_roundg k7
                                          case measure => have := HJ1.out; have := HJ6.out; have := HJ12.out; have := HK4.out; have := HJ14.out; have := HJ16.out; have := HK7.out; omega
                                          case rel => exact ⟨(x8_7), (wrap64 (x10_7 + 1)), (by first | rfl | (simp; done) | (simp [*]; done)), (by first | rfl | (simp; done) | (simp [*]; done)), H', ⟨by have := HJ1.out; have := HJ6.out; have := HJ12.out; have := HK4.out; have := HJ14.out; have := HJ16.out; have := HK7.out; omega⟩, ⟨by (with_reducible repeat (first | apply Kd.N_alloc | apply Kd.N_drewN | apply Kd.N_drew)); exact HO_3.out⟩, ⟨by repeat (first | (with_reducible first | exact HB.out | apply below_alloc | apply pw_below_drewN | apply below_drew1) | exact HB.out)⟩⟩
                                        · replace c25 := Bool.eq_false_iff.mpr c25
                                          subst c25
                                          have H1 : (laws_FnPickTwo.l1 k7 t632 t635 t636 (wrap64 (x8_7 + 1)) x9_4 (wrap64 (x10_7 + 1))) = some r := by rw [if_neg (show ¬ (false = true) by decide)] at H; exact H
                                          clear H
                                          have H := H1
                                          clear H1
                                          have H' := Aside0.mk H
                                          clear H
                                          have p639 : 0 ≤ (x9_4 : Int) := of_decide_eq_true (by first | (with_reducible assumption) | assumption)
                                          have q639 : x9_4 < (t632.length : Int) := of_decide_eq_true (by first | (with_reducible assumption) | assumption)
                                          obtain ⟨ad639, A639_0, c639_0, e639, hx639_0, hl639_0, hi639_0⟩ := at_L13 (Kd.N_reads' HO_3.out).2.2 x9_4 p639 q639
                                          cases e639
                                          obtain ⟨ce639, hce639, hMe639, hcc639⟩ := Kd.N_get HO_3.out [] x9_4 p639 (by first | exact q639 | exact of_decide_eq_true (by first | (with_reducible assumption) | assumption) | (have e_ := (Kd.N_reads' HO_3.out).1; omega))
                                          obtain ⟨ua639_0, uc639_0, rfl, ul639_0, ge639_0⟩ := Kd.FK_slice_open hMe639
                                          have hv639_0 := hcc639 0 _ rfl
                                          rw [Nat.add_zero, show ((Kd.slice 30 k30)).sz = 1 from rfl, Nat.mul_one] at hv639_0
                                          replace hv639_0 := Option.some.inj (hv639_0.symm.trans hx639_0)
                                          injection hv639_0 with hva_ hvn_ hvc_
                                          rw [hva_] at ge639_0
                                          rw [hvc_] at ul639_0
                                          have HL639_0 := Aside0.mk (show Kd.V k30 30 _ w.heap.size _ _ (rd_L13 t632 x9_4) from Kd.V_mk ul639_0 ge639_0)
                                          clear hva_ hvn_ hvc_ ge639_0 ul639_0
                                          clear hcc639 hce639
                                          have HR639_0 := Aside0.mk hi639_0
                                          have HC639_0 := Aside0.mk hl639_0
                                          clear hi639_0 hl639_0
                                          replace p639 := eq_true p639
                                          replace q639 := eq_true q639
                                          have p640 : 0 ≤ (x9_4 : Int) := of_decide_eq_true (by first | (with_reducible assumption) | assumption)
                                          have q640 : x9_4 < (t632.length : Int) := of_decide_eq_true (by first | (with_reducible assumption) | assumption)
                                          obtain ⟨ad640, A640_0, c640_0, e640, hx640_0, hl640_0, hi640_0⟩ := at_L13 (Kd.N_reads' HO_3.out).2.2 x9_4 p640 q640
                                          obtain rfl : ad639 = ad640 := (by injection e640)
                                          obtain ⟨ce640, hce640, hMe640, hcc640⟩ := Kd.N_get HO_3.out [] x9_4 p640 (by first | exact q640 | exact of_decide_eq_true (by first | (with_reducible assumption) | assumption) | (have e_ := (Kd.N_reads' HO_3.out).1; omega))
                                          obtain ⟨ua640_0, uc640_0, rfl, ul640_0, ge640_0⟩ := Kd.FK_slice_open hMe640
                                          have hv640_0 := hcc640 0 _ rfl
                                          rw [Nat.add_zero, show ((Kd.slice 30 k30)).sz = 1 from rfl, Nat.mul_one] at hv640_0
                                          replace hv640_0 := Option.some.inj (hv640_0.symm.trans hx640_0)
                                          injection hv640_0 with hva_ hvn_ hvc_
                                          rw [hva_] at ge640_0
                                          rw [hvc_] at ul640_0
                                          have HL640_0 := Aside0.mk (show Kd.V k30 30 _ w.heap.size _ _ (rd_L13 t632 x9_4) from Kd.V_mk ul640_0 ge640_0)
                                          clear hva_ hvn_ hvc_ ge640_0 ul640_0
                                          clear hcc640 hce640
                                          have HR640_0 := Aside0.mk hi640_0
                                          have HC640_0 := Aside0.mk hl640_0
                                          clear hi640_0 hl640_0
                                          replace p640 := eq_true p640
                                          replace q640 := eq_true q640
                                          have ea_ := Option.some.inj (hx639_0.symm.trans hx640_0)
                                          injection ea_ with ea_ en_ ec_
                                          subst ea_
                                          subst ec_
                                          clear en_
                                          have p641 : 0 ≤ (x10_7 : Int) := of_decide_eq_true (by first | (with_reducible assumption) | assumption)
                                          have q641 : x10_7 < ((rd_L13 t632 x9_4).length : Int) := of_decide_eq_true (by first | (with_reducible assumption) | assumption)
                                          obtain ⟨ad641, A641_2, c641_2, e641, hx641_0, hx641_1, hx641_2, hl641_2, hi641_2⟩ := at_T30 (by repeat (first | (with_reducible exact HR640_0.out) | (with_reducible refine Kd.C_alloc ?_ _) | (with_reducible refine Kd.C_drewN ?_ _) | (with_reducible refine Kd.C_drew ?_) | exact HR640_0.out)) x10_7 p641 q641
                                          (try rw [← Nbq24.out] at hx641_1)
                                          cases e641
                                          obtain ⟨ce641, hce641, hMe641, hcc641⟩ := Kd.V_get HL640_0.out z30 x10_7 p641 (by first | exact q641 | exact of_decide_eq_true (by first | (with_reducible assumption) | assumption) | (have e_ := (Kd.V_reads' HL640_0.out).1; omega))
                                          obtain ⟨ua641_2, uc641_2, rfl, ul641_2, ge641_2⟩ := k30_openF hMe641
                                          have hv641_2 := hcc641 2 _ rfl
                                          rw [add_field _ _ 2 (by omega)] at hv641_2
                                          replace hv641_2 := Option.some.inj (hv641_2.symm.trans hx641_2)
                                          injection hv641_2 with hva_ hvn_ hvc_
                                          rw [hva_] at ge641_2
                                          rw [hvc_] at ul641_2
                                          have HL641_2 := Aside0.mk (show Kd.V k38 38 _ w.heap.size _ _ ((rd_T30 (rd_L13 t632 x9_4) x10_7).f2) from Kd.V_mk ul641_2 ge641_2)
                                          clear hva_ hvn_ hvc_ ge641_2 ul641_2
                                          clear hcc641 hce641
                                          have HR641_2 := Aside0.mk hi641_2
                                          have HC641_2 := Aside0.mk hl641_2
                                          clear hi641_2 hl641_2
                                          replace p641 := eq_true p641
                                          replace q641 := eq_true q641
                                          have p642 : 0 ≤ (x9_4 : Int) := of_decide_eq_true (by first | (with_reducible assumption) | assumption)
                                          have q642 : x9_4 < (t632.length : Int) := of_decide_eq_true (by first | (with_reducible assumption) | assumption)
                                          obtain ⟨ad642, A642_0, c642_0, e642, hx642_0, hl642_0, hi642_0⟩ := at_L13 (Kd.N_reads' HO_3.out).2.2 x9_4 p642 q642
                                          obtain rfl : ad639 = ad642 := (by injection e642)
                                          obtain ⟨ce642, hce642, hMe642, hcc642⟩ := Kd.N_get HO_3.out [] x9_4 p642 (by first | exact q642 | exact of_decide_eq_true (by first | (with_reducible assumption) | assumption) | (have e_ := (Kd.N_reads' HO_3.out).1; omega))
                                          obtain ⟨ua642_0, uc642_0, rfl, ul642_0, ge642_0⟩ := Kd.FK_slice_open hMe642
                                          have hv642_0 := hcc642 0 _ rfl
                                          rw [Nat.add_zero, show ((Kd.slice 30 k30)).sz = 1 from rfl, Nat.mul_one] at hv642_0
                                          replace hv642_0 := Option.some.inj (hv642_0.symm.trans hx642_0)
                                          injection hv642_0 with hva_ hvn_ hvc_
                                          rw [hva_] at ge642_0
                                          rw [hvc_] at ul642_0
                                          have HL642_0 := Aside0.mk (show Kd.V k30 30 _ w.heap.size _ _ (rd_L13 t632 x9_4) from Kd.V_mk ul642_0 ge642_0)
                                          clear hva_ hvn_ hvc_ ge642_0 ul642_0
                                          clear hcc642 hce642
                                          have HR642_0 := Aside0.mk hi642_0
                                          have HC642_0 := Aside0.mk hl642_0
                                          clear hi642_0 hl642_0
                                          replace p642 := eq_true p642
                                          replace q642 := eq_true q642
                                          have ea_ := Option.some.inj (hx639_0.symm.trans hx642_0)
                                          injection ea_ with ea_ en_ ec_
                                          subst ea_
                                          subst ec_
                                          clear en_
                                          have p643 : 0 ≤ (x10_7 : Int) := of_decide_eq_true (by first | (with_reducible assumption) | assumption)
                                          have q643 : x10_7 < ((rd_L13 t632 x9_4).length : Int) := of_decide_eq_true (by first | (with_reducible assumption) | assumption)
                                          obtain ⟨ad643, A643_2, c643_2, e643, hx643_0, hx643_1, hx643_2, hl643_2, hi643_2⟩ := at_T30 (by repeat (first | (with_reducible exact HR642_0.out) | (with_reducible refine Kd.C_alloc ?_ _) | (with_reducible refine Kd.C_drewN ?_ _) | (with_reducible refine Kd.C_drew ?_) | exact HR642_0.out)) x10_7 p643 q643
                                          (try rw [← Nbq24.out] at hx643_1)
                                          cases e643
                                          obtain ⟨ce643, hce643, hMe643, hcc643⟩ := Kd.V_get HL642_0.out z30 x10_7 p643 (by first | exact q643 | exact of_decide_eq_true (by first | (with_reducible assumption) | assumption) | (have e_ := (Kd.V_reads' HL642_0.out).1; omega))
                                          obtain ⟨ua643_2, uc643_2, rfl, ul643_2, ge643_2⟩ := k30_openF hMe643
                                          have hv643_2 := hcc643 2 _ rfl
                                          rw [add_field _ _ 2 (by omega)] at hv643_2
                                          replace hv643_2 := Option.some.inj (hv643_2.symm.trans hx643_2)
                                          injection hv643_2 with hva_ hvn_ hvc_
                                          rw [hva_] at ge643_2
                                          rw [hvc_] at ul643_2
                                          have HL643_2 := Aside0.mk (show Kd.V k38 38 _ w.heap.size _ _ ((rd_T30 (rd_L13 t632 x9_4) x10_7).f2) from Kd.V_mk ul643_2 ge643_2)
                                          clear hva_ hvn_ hvc_ ge643_2 ul643_2
                                          clear hcc643 hce643
                                          have HR643_2 := Aside0.mk hi643_2
                                          have HC643_2 := Aside0.mk hl643_2
                                          clear hi643_2 hl643_2
                                          replace p643 := eq_true p643
                                          replace q643 := eq_true q643
                                          go_wp2
                                          go_roundg k7
                                          case measure => have := HJ1.out; have := HJ6.out; have := HJ12.out; have := HK4.out; have := HJ14.out; have := HJ16.out; have := HK7.out; omega
                                          case rel => exact ⟨(wrap64 (x8_7 + 1)), (wrap64 (x10_7 + 1)), (by first | rfl | (simp; done) | (simp [*]; done)), (by first | rfl | (simp; done) | (simp [*]; done)), H', ⟨by have := HJ1.out; have := HJ6.out; have := HJ12.out; have := HK4.out; have := HJ14.out; have := HJ16.out; have := HK7.out; omega⟩, ⟨by (with_reducible repeat (first | apply Kd.N_alloc | apply Kd.N_drewN | apply Kd.N_drew)); exact HO_3.out⟩, ⟨by repeat (first | (with_reducible first | exact HB.out | apply below_alloc | apply pw_below_drewN | apply below_drew1) | exact HB.out)⟩⟩
                                      · rw [if_neg c23] at H
                                        have c23b0 : (((rd_T30 (rd_L13 t632 x9_4) x10_7).f0).toList == t635.toList) = false := beq_eq_false_iff_ne.mpr c23
                                        have c23b1 : (((rd_T30 (rd_L13 t632 x9_4) x10_7).f0).toList != t635.toList) = true := bne_iff_ne.mpr c23
                                        have H' := Aside0.mk H
                                        clear H
                                        have p639 : 0 ≤ (x9_4 : Int) := of_decide_eq_true (by first | (with_reducible assumption) | assumption)
                                        have q639 : x9_4 < (t632.length : Int) := of_decide_eq_true (by first | (with_reducible assumption) | assumption)
                                        obtain ⟨ad639, A639_0, c639_0, e639, hx639_0, hl639_0, hi639_0⟩ := at_L13 (Kd.N_reads' HO_3.out).2.2 x9_4 p639 q639
                                        cases e639
                                        obtain ⟨ce639, hce639, hMe639, hcc639⟩ := Kd.N_get HO_3.out [] x9_4 p639 (by first | exact q639 | exact of_decide_eq_true (by first | (with_reducible assumption) | assumption) | (have e_ := (Kd.N_reads' HO_3.out).1; omega))
                                        obtain ⟨ua639_0, uc639_0, rfl, ul639_0, ge639_0⟩ := Kd.FK_slice_open hMe639
                                        have hv639_0 := hcc639 0 _ rfl
                                        rw [Nat.add_zero, show ((Kd.slice 30 k30)).sz = 1 from rfl, Nat.mul_one] at hv639_0
                                        replace hv639_0 := Option.some.inj (hv639_0.symm.trans hx639_0)
                                        injection hv639_0 with hva_ hvn_ hvc_
                                        rw [hva_] at ge639_0
                                        rw [hvc_] at ul639_0
                                        have HL639_0 := Aside0.mk (show Kd.V k30 30 _ w.heap.size _ _ (rd_L13 t632 x9_4) from Kd.V_mk ul639_0 ge639_0)
                                        clear hva_ hvn_ hvc_ ge639_0 ul639_0
                                        clear hcc639 hce639
                                        have HR639_0 := Aside0.mk hi639_0
                                        have HC639_0 := Aside0.mk hl639_0
                                        clear hi639_0 hl639_0
                                        replace p639 := eq_true p639
                                        replace q639 := eq_true q639
                                        have p640 : 0 ≤ (x9_4 : Int) := of_decide_eq_true (by first | (with_reducible assumption) | assumption)
                                        have q640 : x9_4 < (t632.length : Int) := of_decide_eq_true (by first | (with_reducible assumption) | assumption)
                                        obtain ⟨ad640, A640_0, c640_0, e640, hx640_0, hl640_0, hi640_0⟩ := at_L13 (Kd.N_reads' HO_3.out).2.2 x9_4 p640 q640
                                        obtain rfl : ad639 = ad640 := (by injection e640)
                                        obtain ⟨ce640, hce640, hMe640, hcc640⟩ := Kd.N_get HO_3.out [] x9_4 p640 (by first | exact q640 | exact of_decide_eq_true (by first | (with_reducible assumption) | assumption) | (have e_ := (Kd.N_reads' HO_3.out).1; omega))
                                        obtain ⟨ua640_0, uc640_0, rfl, ul640_0, ge640_0⟩ := Kd.FK_slice_open hMe640
                                        have hv640_0 := hcc640 0 _ rfl
                                        rw [Nat.add_zero, show ((Kd.slice 30 k30)).sz = 1 from rfl, Nat.mul_one] at hv640_0
                                        replace hv640_0 := Option.some.inj (hv640_0.symm.trans hx640_0)
                                        injection hv640_0 with hva_ hvn_ hvc_
                                        rw [hva_] at ge640_0
                                        rw [hvc_] at ul640_0
                                        have HL640_0 := Aside0.mk (show Kd.V k30 30 _ w.heap.size _ _ (rd_L13 t632 x9_4) from Kd.V_mk ul640_0 ge640_0)
                                        clear hva_ hvn_ hvc_ ge640_0 ul640_0
                                        clear hcc640 hce640
                                        have HR640_0 := Aside0.mk hi640_0
                                        have HC640_0 := Aside0.mk hl640_0
                                        clear hi640_0 hl640_0
                                        replace p640 := eq_true p640
                                        replace q640 := eq_true q640
                                        have ea_ := Option.some.inj (hx639_0.symm.trans hx640_0)
                                        injection ea_ with ea_ en_ ec_
                                        subst ea_
                                        subst ec_
                                        clear en_
                                        have p641 : 0 ≤ (x10_7 : Int) := of_decide_eq_true (by first | (with_reducible assumption) | assumption)
                                        have q641 : x10_7 < ((rd_L13 t632 x9_4).length : Int) := of_decide_eq_true (by first | (with_reducible assumption) | assumption)
                                        obtain ⟨ad641, A641_2, c641_2, e641, hx641_0, hx641_1, hx641_2, hl641_2, hi641_2⟩ := at_T30 (by repeat (first | (with_reducible exact HR640_0.out) | (with_reducible refine Kd.C_alloc ?_ _) | (with_reducible refine Kd.C_drewN ?_ _) | (with_reducible refine Kd.C_drew ?_) | exact HR640_0.out)) x10_7 p641 q641
                                        cases e641
                                        obtain ⟨ce641, hce641, hMe641, hcc641⟩ := Kd.V_get HL640_0.out z30 x10_7 p641 (by first | exact q641 | exact of_decide_eq_true (by first | (with_reducible assumption) | assumption) | (have e_ := (Kd.V_reads' HL640_0.out).1; omega))
                                        obtain ⟨ua641_2, uc641_2, rfl, ul641_2, ge641_2⟩ := k30_openF hMe641
                                        have hv641_2 := hcc641 2 _ rfl
                                        rw [add_field _ _ 2 (by omega)] at hv641_2
                                        replace hv641_2 := Option.some.inj (hv641_2.symm.trans hx641_2)
                                        injection hv641_2 with hva_ hvn_ hvc_
                                        rw [hva_] at ge641_2
                                        rw [hvc_] at ul641_2
                                        have HL641_2 := Aside0.mk (show Kd.V k38 38 _ w.heap.size _ _ ((rd_T30 (rd_L13 t632 x9_4) x10_7).f2) from Kd.V_mk ul641_2 ge641_2)
                                        clear hva_ hvn_ hvc_ ge641_2 ul641_2
                                        clear hcc641 hce641
                                        have HR641_2 := Aside0.mk hi641_2
                                        have HC641_2 := Aside0.mk hl641_2
                                        clear hi641_2 hl641_2
                                        replace p641 := eq_true p641
                                        replace q641 := eq_true q641
                                        go_wp2
                                        go_roundg k7
                                        case measure => have := HJ1.out; have := HJ6.out; have := HJ12.out; have := HK4.out; have := HJ14.out; have := HJ16.out; have := HK7.out; omega
                                        case rel => exact ⟨(x8_7), (wrap64 (x10_7 + 1)), (by first | rfl | (simp; done) | (simp [*]; done)), (by first | rfl | (simp; done) | (simp [*]; done)), H', ⟨by have := HJ1.out; have := HJ6.out; have := HJ12.out; have := HK4.out; have := HJ14.out; have := HJ16.out; have := HK7.out; omega⟩, ⟨by (with_reducible repeat (first | apply Kd.N_alloc | apply Kd.N_drewN | apply Kd.N_drew)); exact HO_3.out⟩, ⟨by repeat (first | (with_reducible first | exact HB.out | apply below_alloc | apply pw_below_drewN | apply below_drew1) | exact HB.out)⟩⟩
                                    · rw [if_neg c22] at H
                                      exact absurd H (by simp)
                                  · rw [if_neg c21] at H
                                    have c21b0 : decide (x10_7 < ((rd_L13 t632 x9_4).length : Int)) = false := decide_eq_false c21
                                    clear c21
                                    have H' := Aside0.mk H
                                    clear H
                                    have p639 : 0 ≤ (x9_4 : Int) := of_decide_eq_true (by first | (with_reducible assumption) | assumption)
                                    have q639 : x9_4 < (t632.length : Int) := of_decide_eq_true (by first | (with_reducible assumption) | assumption)
                                    obtain ⟨ad639, A639_0, c639_0, e639, hx639_0, hl639_0, hi639_0⟩ := at_L13 (Kd.N_reads' HO_3.out).2.2 x9_4 p639 q639
                                    cases e639
                                    obtain ⟨ce639, hce639, hMe639, hcc639⟩ := Kd.N_get HO_3.out [] x9_4 p639 (by first | exact q639 | exact of_decide_eq_true (by first | (with_reducible assumption) | assumption) | (have e_ := (Kd.N_reads' HO_3.out).1; omega))
                                    obtain ⟨ua639_0, uc639_0, rfl, ul639_0, ge639_0⟩ := Kd.FK_slice_open hMe639
                                    have hv639_0 := hcc639 0 _ rfl
                                    rw [Nat.add_zero, show ((Kd.slice 30 k30)).sz = 1 from rfl, Nat.mul_one] at hv639_0
                                    replace hv639_0 := Option.some.inj (hv639_0.symm.trans hx639_0)
                                    injection hv639_0 with hva_ hvn_ hvc_
                                    rw [hva_] at ge639_0
                                    rw [hvc_] at ul639_0
                                    have HL639_0 := Aside0.mk (show Kd.V k30 30 _ w.heap.size _ _ (rd_L13 t632 x9_4) from Kd.V_mk ul639_0 ge639_0)
                                    clear hva_ hvn_ hvc_ ge639_0 ul639_0
                                    clear hcc639 hce639
                                    have HR639_0 := Aside0.mk hi639_0
                                    have HC639_0 := Aside0.mk hl639_0
                                    clear hi639_0 hl639_0
                                    replace p639 := eq_true p639
                                    replace q639 := eq_true q639
                                    go_wp2
                                    go_roundg k7
                                    case measure => have := HJ1.out; have := HJ6.out; have := HJ12.out; have := HK4.out; have := HJ14.out; have := HJ16.out; have := HK7.out; omega
                                    case rel => exact ⟨(x8_7), (wrap64 (x9_4 + 1)), (by first | rfl | (simp; done) | (simp [*]; done)), (by first | rfl | (simp; done) | (simp [*]; done)), H', ⟨by have := HJ1.out; have := HJ6.out; have := HJ12.out; have := HK4.out; have := HJ14.out; have := HJ16.out; have := HK7.out; omega⟩, ⟨by (with_reducible repeat (first | apply Kd.N_alloc | apply Kd.N_drewN | apply Kd.N_drew)); exact HO_3.out⟩, ⟨by repeat (first | (with_reducible first | exact HB.out | apply below_alloc | apply pw_below_drewN | apply below_drew1) | exact HB.out)⟩⟩
                                · rw [if_neg c20] at H
                                  exact absurd H (by simp)
                              · rw [if_neg c19] at H
                                exact absurd H (by simp)

/-- THE ONE PURE STATEMENT of laws_FnPickTwo: yours. -/
def laws_FnPickTwo.Pure : Prop := ∀ (l0 : List Int), l0.length ≤ maxLen → l0.length * 1 ≤ 140737488351232 → (∀ x ∈ l0, (Lit.int .u8 x).wf = true) → ∃ k, laws_FnPickTwo.f k l0 = some true
theorem laws_FnPickTwo.walk (P : laws_FnPickTwo.Pure) (a0 : Option Addr) (len0 cap0 : Nat) (z0 : List Int) (w : World) (w0 : (a0 = none ∧ len0 = 0 ∧ cap0 = 0 ∧ z0 = []) ∨ ∃ x, a0 = some x ∧ len0 ≤ cap0 ∧ cap0 ≤ maxLen ∧ z0.length = cap0 ∧ (∀ i, i < z0.length → w.cell? (x.add i) = some (.int .u8 (z0.getD i 0))) ∧ ∀ n ∈ z0, (Lit.int .u8 n).wf = true) (y0 : len0 * 1 ≤ 140737488351232) :
    Calls Try.prog 8 #[.slice a0 len0 cap0] w fun e w' => e = .returned (.bool true) ∧ Below w.heap.size w w' := by
  obtain ⟨l0, rfl, hr0, hm0, hw0, hc0⟩ := ReadsInt.ofRowC w0
  obtain ⟨k, h⟩ := P l0 hm0 y0 hw0
  refine (laws_FnPickTwo.calls k _ _ l0 true w (Kd.C_of_reads (d := (0 : Int)) (h1 := fun _ => rfl) hr0) hc0 h).mono ?_
  rintro e w' ⟨rfl, hd⟩
  exact ⟨rfl, hd⟩

end Go.Proofs.Ytpckkkcaffhhnaa.P

/- What the drawing functions compute: a code is read byte by byte; each pick is within its range. -/
namespace Go.Proofs.Ytpckkkcaffhhnaa.L
open Go.RowKit Go.Proofs.YtpckkkcaffhhnaaW.PrintWords Go.Proofs.YtpckkkcaffhhnaaW.PrintLast Go.Proofs.YtpckkkcaffhhnaaW.PrintMore Go.Proofs.Ytpckkkcaffhhnaa.P
set_option linter.unusedVariables false
set_option linter.unusedSimpArgs false

/-- The bytes of a code. -/
def Bytes (l : List Int) : Prop := l.length ≤ 1048576 ∧ ∀ x ∈ l, (Lit.int .u8 x).wf = true
/-- A place to read on from: nowhere near an overflow. -/
def Place (p : Int) : Prop := 0 ≤ p ∧ p < 1000000000000
theorem Bytes.take {l : List Int} (h : Bytes l) (n : Nat) : Bytes (l.take n) :=
  ⟨Nat.le_trans (by rw [List.length_take]; omega) h.1, fun x hx => h.2 x (List.mem_of_mem_take hx)⟩

theorem spec_l13Open_f (l : List Int) (h : Bytes l) : ∃ l', spec_l13Open.f l = some (l', 0) ∧ Bytes l' ∧ l'.length ≤ 2000 := by
  unfold spec_l13Open.f
  by_cases c : (l.length : Int) > 2000
  · rw [if_pos c, if_pos (by omega)]
    exact ⟨_, rfl, h.take 2000, by rw [List.length_take]; omega⟩
  · rw [if_neg c]
    exact ⟨l, rfl, h, by omega⟩
/-- The number that is made past the end of a code: some number, not negative. -/
theorem mixed (l : List Int) (hl : Bytes l) (h0 : 0 < l.length) (p : Int) (hp : 0 ≤ p) (hp' : p < 1000000000000) (x y q : Int) (hx : 0 ≤ x ∧ x ≤ 255) (hy : 0 ≤ y ∧ y ≤ 255) (hq : 0 ≤ q ∧ q ≤ p) :
    ∃ z, wrap64 ((wrap64 ((wrap64 ((wrap64 (x * 131)) + (wrap64 (y * 1117)))) + (wrap64 (p * 29)))) + (wrap64 (q * 53))) = z ∧ 0 ≤ z ∧ z < 1000000000000000 := by
  refine ⟨x * 131 + y * 1117 + p * 29 + q * 53, ?_, by omega, by omega⟩
  rw [wrap_id (n := x * 131) (by omega) (by omega), wrap_id (n := y * 1117) (by omega) (by omega), wrap_id (n := p * 29) (by omega) (by omega), wrap_id (n := q * 53) (by omega) (by omega),
    wrap_id (n := x * 131 + y * 1117) (by omega) (by omega), wrap_id (n := x * 131 + y * 1117 + p * 29) (by omega) (by omega), wrap_id (n := x * 131 + y * 1117 + p * 29 + q * 53) (by omega) (by omega)]
theorem spec_l13Rd_pick_f (l : List Int) (hl : Bytes l) (p n : Int) (hp : 0 ≤ p) (hp' : p < 1000000000000) (hn : 1 ≤ n) :
    ∃ r, (∀ k, 1 ≤ k → spec_l13Rd_pick.f k l p n = some (r, p + 1)) ∧ 0 ≤ r ∧ r < n := by
  have e1 : wrap64 (p + 1) = p + 1 := wrap_id (by omega) (by omega)
  have e2 : wrap64 (p + 1 - 1) = p := by rw [show p + 1 - 1 = p by omega]; exact wrap_id (by omega) (by omega)
  by_cases h0 : l.length = 0
  · refine ⟨0, fun k hk => ?_, by omega, by omega⟩
    obtain ⟨m, rfl, _⟩ := succ_of hk
    unfold spec_l13Rd_pick.f
    rw [if_neg (by omega), e1]
    simp only [spec_l13Rd_pick.j0]
    rw [if_pos (by rw [h0]; rfl)]
  · have hb : ((l.length : Int) == 0) = false := beq_eq_false_iff_ne.mpr (by omega)
    by_cases c : p < (l.length : Int)
    · have hb2 := rd_byte hl.2 p
      refine ⟨Int.tmod (rd l p) n, fun k hk => ?_, tmod_small hb2.1 hn⟩
      obtain ⟨m, rfl, _⟩ := succ_of hk
      unfold spec_l13Rd_pick.f
      rw [if_neg (by omega), e1, hb]
      simp only [spec_l13Rd_pick.j0]
      rw [if_neg (by decide), e2, if_pos c, if_pos hp, if_neg (by omega), wrap_id (n := rd l p) (by omega) (by omega)]
    · have hL : (1 : Int) ≤ l.length := by omega
      have t1 := tmod_small hp hL
      have h7 : wrap64 (p * 7) = p * 7 := wrap_id (by omega) (by omega)
      have h73 : wrap64 (p * 7 + 3) = p * 7 + 3 := wrap_id (by omega) (by omega)
      have t2 := tmod_small (a := p * 7 + 3) (by omega) hL
      have b1 := rd_byte hl.2 (Int.tmod p l.length)
      have b2 := rd_byte hl.2 (Int.tmod (p * 7 + 3) l.length)
      have q1 := tdiv_small hp hL
      have w1 := wrap_id (n := rd l (Int.tmod p l.length)) (by omega) (by omega)
      have w2 := wrap_id (n := rd l (Int.tmod (p * 7 + 3) l.length)) (by omega) (by omega)
      have w3 := wrap_id (n := Int.tdiv p l.length) (by omega) (by omega)
      obtain ⟨z, hz, z0, z1⟩ := mixed l hl (by omega) p hp hp' _ _ _ b1 b2 q1
      have q2 := tdiv_small (a := z) (n := 64) z0 (by omega)
      have w4 := wrap_id (n := Int.tdiv z 64) (by omega) (by omega)
      have x1 := xor_nonneg z (Int.tdiv z 64) z0 (by omega) q2.1 (by omega)
      refine ⟨Int.tmod (Go.bits .xor .i64 z (Int.tdiv z 64)) n, fun k hk => ?_, tmod_small x1.1 hn⟩
      obtain ⟨m, rfl, _⟩ := succ_of hk
      unfold spec_l13Rd_pick.f
      rw [if_neg (by omega), e1, hb]
      simp only [spec_l13Rd_pick.j0]
      rw [if_neg (by decide), e2, if_neg c, if_neg (by omega), if_pos t1.1, if_pos t1.2, h7, h73, if_pos t2.1, if_pos t2.2, if_neg (by omega), w1, w2, w3, hz, w4]
theorem spec_l13Rd_num_f (l : List Int) (hl : Bytes l) (p : Int) (hp : 0 ≤ p) (hp' : p < 1000000000000) (xs : List Int) (hx : 0 < xs.length) :
    ∃ r, (∀ k, 1 ≤ k → spec_l13Rd_num.f k l p xs = some (r, p + 1)) ∧ r ∈ xs := by
  obtain ⟨r, hr, r0, r1⟩ := spec_l13Rd_pick_f l hl p xs.length hp hp' (by omega)
  refine ⟨rd xs r, fun k hk => ?_, ?_⟩
  · unfold spec_l13Rd_num.f
    rw [hr k hk]
    simp only [Option.bind_some]
    rw [if_pos r0, if_pos r1]
  · unfold rd
    rw [List.getD_eq_getElem?_getD, List.getElem?_eq_getElem (by omega)]
    exact List.getElem_mem _
theorem spec_l13Rd_of_f (l : List Int) (hl : Bytes l) (p : Int) (hp : 0 ≤ p) (hp' : p < 1000000000000) (xs : List ByteArray) (hx : 0 < xs.length) :
    ∃ r, (∀ k, 1 ≤ k → spec_l13Rd_of.f k l p xs = some (r, p + 1)) ∧ r ∈ xs := by
  obtain ⟨r, hr, r0, r1⟩ := spec_l13Rd_pick_f l hl p xs.length hp hp' (by omega)
  refine ⟨rdOf ByteArray.empty xs r, fun k hk => ?_, ?_⟩
  · unfold spec_l13Rd_of.f
    rw [hr k hk]
    simp only [Option.bind_some]
    rw [if_pos r0, if_pos r1]
  · unfold rdOf
    rw [List.getD_eq_getElem?_getD, List.getElem?_eq_getElem (by omega)]
    exact List.getElem_mem _
def names6 : List ByteArray := [(⟨#[97]⟩ : ByteArray), (⟨#[98]⟩ : ByteArray), (⟨#[99]⟩ : ByteArray), (⟨#[100]⟩ : ByteArray), (⟨#[109, 97, 105, 110]⟩ : ByteArray), (⟨#[101]⟩ : ByteArray)]
theorem spec_l1Name_f (l : List Int) (hl : Bytes l) (p : Int) (hp : 0 ≤ p) (hp' : p < 1000000000000) :
    ∃ r, (∀ k, 1 ≤ k → spec_l1Name.f k l p = some (r, p + 1)) ∧ r ∈ names6 := by
  obtain ⟨r, hr, hm⟩ := spec_l13Rd_of_f l hl p hp hp' names6 (by decide)
  refine ⟨r, fun k hk => ?_, hm⟩
  unfold spec_l1Name.f
  have e := hr k hk
  unfold names6 at e
  rw [e]
  rfl
/-- A place further on, at most n places. -/
def On (p q : Int) (n : Int) : Prop := p ≤ q ∧ q ≤ p + n
theorem spec_l1Ins_f (l : List Int) (hl : Bytes l) (p : Int) (hp : 0 ≤ p) (hp' : p < 900000000000) :
    ∃ a b s q, (∀ k, 4 ≤ k → spec_l1Ins.f k l p = some (a, b, s, q)) ∧ On p q 2 ∧ s.size ≤ 4 := by
  obtain ⟨r, hr, r0, r1⟩ := spec_l13Rd_pick_f l hl p 8 hp (by omega) (by omega)
  obtain ⟨n1, hn1, _⟩ := spec_l13Rd_num_f l hl (p + 1) (by omega) (by omega) [1, (-1), 2, 5, (-3)] (by decide)
  obtain ⟨n2, hn2, _⟩ := spec_l13Rd_num_f l hl (p + 1) (by omega) (by omega) [6, 6, 7, 4] (by decide)
  obtain ⟨s1, hs1, hm1⟩ := spec_l1Name_f l hl (p + 1) (by omega) (by omega)
  have hz1 : s1.size ≤ 4 := by
    simp only [names6, List.mem_cons, List.not_mem_nil, or_false] at hm1
    rcases hm1 with rfl | rfl | rfl | rfl | rfl | rfl <;> decide
  have j2 : ∀ k, 1 ≤ k → ∀ b, ∃ a' b' s' q', (spec_l1Ins.j2 (k + 1) r b l (p + 1) = some (a', b', s', q')) ∧ On p q' 2 ∧ s'.size ≤ 4 ∧ ((b = true ∧ a' = 3 ∧ b' = 0 ∧ s' = s1 ∧ q' = p + 1 + 1) ∨ (b = false ∧ r = 6 ∧ a' = 5 ∧ b' = 0 ∧ s' = s1 ∧ q' = p + 1 + 1) ∨ (b = false ∧ r ≠ 6 ∧ a' = n2 ∧ b' = 0 ∧ s' = ⟨#[]⟩ ∧ q' = p + 1 + 1)) := by
    intro k hk b
    simp only [spec_l1Ins.j2]
    rw [hs1 k hk, hn2 k hk]
    cases b with
    | true => exact ⟨3, 0, s1, p + 1 + 1, rfl, ⟨by omega, by omega⟩, hz1, .inl ⟨rfl, rfl, rfl, rfl, rfl⟩⟩
    | false =>
      by_cases h6 : r = 6
      · exact ⟨5, 0, s1, p + 1 + 1, by rw [if_neg (by decide), if_pos h6]; rfl, ⟨by omega, by omega⟩, hz1, .inr (.inl ⟨rfl, h6, rfl, rfl, rfl, rfl⟩)⟩
      · exact ⟨n2, 0, ⟨#[]⟩, p + 1 + 1, by rw [if_neg (by decide), if_neg h6]; rfl, ⟨by omega, by omega⟩, by decide, .inr (.inr ⟨rfl, h6, rfl, rfl, rfl, rfl⟩)⟩
  -- which of the ways it goes hangs on r alone
  by_cases h01 : r = 0 ∨ r = 1
  · refine ⟨1, 0, ⟨#[]⟩, p + 1, fun k hk => ?_, ⟨by omega, by omega⟩, by decide⟩
    obtain ⟨m, rfl, _⟩ := succ_of (d := 3) hk
    unfold spec_l1Ins.f
    rw [hr _ (by omega)]
    simp only [Option.bind_some, spec_l1Ins.j0]
    rcases h01 with rfl | rfl <;> rfl
  · by_cases h23 : r = 2 ∨ r = 3
    · refine ⟨2, n1, ⟨#[]⟩, p + 1 + 1, fun k hk => ?_, ⟨by omega, by omega⟩, by decide⟩
      obtain ⟨m, rfl, hm⟩ := succ_of (d := 3) hk
      obtain ⟨m, rfl, hm2⟩ := succ_of (d := 2) hm
      unfold spec_l1Ins.f
      rw [hr _ (by omega)]
      simp only [Option.bind_some, spec_l1Ins.j0, spec_l1Ins.j1]
      rw [hn1 m (by omega)]
      rcases h23 with rfl | rfl <;> rfl
    · by_cases h45 : r = 4 ∨ r = 5
      · refine ⟨3, 0, s1, p + 1 + 1, fun k hk => ?_, ⟨by omega, by omega⟩, hz1⟩
        obtain ⟨m, rfl, hm⟩ := succ_of (d := 3) hk
        obtain ⟨m, rfl, hm2⟩ := succ_of (d := 2) hm
        obtain ⟨m, rfl, hm3⟩ := succ_of (d := 1) hm2
        unfold spec_l1Ins.f
        rw [hr _ (by omega)]
        simp only [Option.bind_some, spec_l1Ins.j0, spec_l1Ins.j1, spec_l1Ins.j2]
        rw [hs1 m (by omega)]
        rcases h45 with rfl | rfl <;> rfl
      · obtain ⟨a', b', s', q', _, hon, hsz, hwhat⟩ := j2 1 (Nat.le_refl _) false
        refine ⟨a', b', s', q', fun k hk => ?_, hon, hsz⟩
        obtain ⟨m, rfl, hm⟩ := succ_of (d := 3) hk
        obtain ⟨m, rfl, hm2⟩ := succ_of (d := 2) hm
        obtain ⟨m, rfl, hm3⟩ := succ_of (d := 1) hm2
        unfold spec_l1Ins.f
        rw [hr _ (by omega)]
        have e1 : (r == 1) = false := beq_eq_false_iff_ne.mpr (by omega)
        have e3 : (r == 3) = false := beq_eq_false_iff_ne.mpr (by omega)
        have e5 : (r == 5) = false := beq_eq_false_iff_ne.mpr (by omega)
        simp only [Option.bind_some]
        rw [if_neg (by omega), e1]
        simp only [spec_l1Ins.j0]
        rw [if_neg (by decide), if_neg (by omega), e3]
        simp only [spec_l1Ins.j1]
        rw [if_neg (by decide), if_neg (by omega), e5]
        simp only [spec_l1Ins.j2]
        rw [if_neg (by decide), hs1 m (by omega), hn2 m (by omega)]
        rcases hwhat with ⟨h, _⟩ | ⟨_, h6, rfl, rfl, rfl, rfl⟩ | ⟨_, h6, rfl, rfl, rfl, rfl⟩
        · exact absurd h (by decide)
        · rw [if_pos h6]; rfl
        · rw [if_neg h6]; rfl
theorem spec_l1Right_f (l : List Int) (hl : Bytes l) (p : Int) (hp : 0 ≤ p) (hp' : p < 900000000000) :
    ∃ a b s q, (∀ k, 4 ≤ k → spec_l1Right.f k l p = some (a, b, s, q)) ∧ On p q 3 ∧ s.size ≤ 4 := by
  obtain ⟨a, b, s, q, h, hq, hs⟩ := spec_l1Ins_f l hl p hp hp'
  by_cases c : a = 4
  · obtain ⟨s2, h2, hm⟩ := spec_l1Name_f l hl q (by have := hq.1; omega) (by have := hq.2; omega)
    refine ⟨a, b, s2, q + 1, fun k hk => ?_, ⟨by have := hq.1; omega, by have := hq.2; omega⟩, ?_⟩
    · unfold spec_l1Right.f
      rw [h k hk]
      simp only [Option.bind_some]
      rw [if_pos c, h2 k (by omega)]
      rfl
    · simp only [names6, List.mem_cons, List.not_mem_nil, or_false] at hm
      rcases hm with rfl | rfl | rfl | rfl | rfl | rfl <;> decide
  · refine ⟨a, b, s, q, fun k hk => ?_, ⟨hq.1, by have := hq.2; omega⟩, hs⟩
    unfold spec_l1Right.f
    rw [h k hk]
    simp only [Option.bind_some]
    rw [if_neg c]
theorem spec_l1Bent_f (l : List Int) (hl : Bytes l) (p : Int) (hp : 0 ≤ p) (hp' : p < 900000000000) :
    ∃ a b s q, (∀ k, 4 ≤ k → spec_l1Bent.f k l p = some (a, b, s, q)) ∧ On p q 5 ∧ s.size ≤ 7 := by
  obtain ⟨a, b, s, q, h, hq, hs⟩ := spec_l1Right_f l hl p hp hp'
  have q0 := hq.1
  have q1 := hq.2
  obtain ⟨r, hr, r0, r1⟩ := spec_l13Rd_pick_f l hl q 30 (by omega) (by omega) (by omega)
  obtain ⟨n1, hn1, _⟩ := spec_l13Rd_num_f l hl (q + 1) (by omega) (by omega) [0, 8, (-1), 1] (by decide)
  obtain ⟨n2, hn2, _⟩ := spec_l13Rd_num_f l hl (q + 1) (by omega) (by omega) [1, 1000, 1001] (by decide)
  obtain ⟨s1, hs1, hm1⟩ := spec_l13Rd_of_f l hl (q + 1) (by omega) (by omega) [(⟨#[65]⟩ : ByteArray), (⟨#[97, 98, 99, 100, 101, 102, 103]⟩ : ByteArray), (⟨#[97, 32, 98]⟩ : ByteArray), (⟨#[120]⟩ : ByteArray)] (by decide)
  have hz1 : s1.size ≤ 7 := by
    simp only [List.mem_cons, List.not_mem_nil, or_false] at hm1
    rcases hm1 with rfl | rfl | rfl | rfl <;> decide
  by_cases c0 : r = 0
  · refine ⟨n1, b, s, q + 1 + 1, fun k hk => ?_, ⟨by omega, by omega⟩, by omega⟩
    unfold spec_l1Bent.f
    rw [h k hk]; simp only [Option.bind_some]
    rw [hr k (by omega)]; simp only [Option.bind_some]
    rw [if_pos c0, hn1 k (by omega)]; rfl
  · by_cases c1 : r = 1
    · refine ⟨a, n2, s, q + 1 + 1, fun k hk => ?_, ⟨by omega, by omega⟩, by omega⟩
      unfold spec_l1Bent.f
      rw [h k hk]; simp only [Option.bind_some]
      rw [hr k (by omega)]; simp only [Option.bind_some]
      rw [if_neg c0, if_pos c1, hn2 k (by omega)]; rfl
    · by_cases c2 : r = 2
      · refine ⟨a, b, s1, q + 1 + 1, fun k hk => ?_, ⟨by omega, by omega⟩, hz1⟩
        unfold spec_l1Bent.f
        rw [h k hk]; simp only [Option.bind_some]
        rw [hr k (by omega)]; simp only [Option.bind_some]
        rw [if_neg c0, if_neg c1, if_pos c2, hs1 k (by omega)]; rfl
      · refine ⟨a, b, s, q + 1, fun k hk => ?_, ⟨by omega, by omega⟩, by omega⟩
        unfold spec_l1Bent.f
        rw [h k hk]; simp only [Option.bind_some]
        rw [hr k (by omega)]; simp only [Option.bind_some]
        rw [if_neg c0, if_neg c1, if_neg c2]
end Go.Proofs.Ytpckkkcaffhhnaa.L

/- What the drawing functions of units draw: some unit, small. -/
namespace Go.Proofs.Ytpckkkcaffhhnaa.L
open Go.RowKit Go.Proofs.YtpckkkcaffhhnaaW.PrintWords Go.Proofs.YtpckkkcaffhhnaaW.PrintLast Go.Proofs.YtpckkkcaffhhnaaW.PrintMore Go.Proofs.Ytpckkkcaffhhnaa.P
set_option linter.unusedVariables false
set_option linter.unusedSimpArgs false
/-- A function with a small name, at most n instructions, all with small names. -/
def SmallF (n : Nat) (x : S30) : Prop := x.f0.size ≤ 7 ∧ x.f2.length ≤ n ∧ ∀ y ∈ x.f2, y.f2.size ≤ 7
def SmallU (u : List S30) : Prop := 1 ≤ u.length ∧ u.length ≤ 4 ∧ ∀ x ∈ u, SmallF 6 x
theorem SmallF.fit {n : Nat} {x : S30} (h : SmallF n x) (hn : n ≤ 1000) : FitF x := ⟨by have := h.1; omega, by have := h.2.1; omega, fun y hy => by have := h.2.2 y hy; omega⟩
theorem SmallU.fit {u : List S30} (h : SmallU u) : ∀ x ∈ u, FitF x := fun x hx => (h.2.2 x hx).fit (by omega)
theorem names6_size {s : ByteArray} (h : s ∈ names6) : s.size ≤ 7 := by
  simp only [names6, List.mem_cons, List.not_mem_nil, or_false] at h
  rcases h with rfl | rfl | rfl | rfl | rfl | rfl <;> decide
theorem l2Fun_end (l : List Int) (hl : Bytes l) (a : ByteArray) (w : Bool) (p : Int) (body : List S38) (hp : 0 ≤ p) (hp' : p < 800000000000) (hb : body.length ≤ 4) (hs : ∀ y ∈ body, y.f2.size ≤ 7) :
    ∃ (body' : List S38) (q : Int), (∀ k, 2 ≤ k → spec_l2Fun.l0 k 0 l p a w body = some (a, w, body', q)) ∧ On p q 2 ∧ body'.length ≤ 5 ∧ ∀ y ∈ body', y.f2.size ≤ 7 := by
  obtain ⟨r, hr, r0, r1⟩ := spec_l13Rd_pick_f l hl p 6 hp (by omega) (by omega)
  obtain ⟨s, hn, hm⟩ := spec_l1Name_f l hl (p + 1) (by omega) (by omega)
  have hz := names6_size hm
  have app : ∀ i : S38, i.f2.size ≤ 7 → ∀ y ∈ body ++ [i], y.f2.size ≤ 7 := fun i hi y hy => by
    rcases List.mem_append.mp hy with h | h
    · exact hs y h
    · rw [List.mem_singleton.mp h]; exact hi
  by_cases h0 : r = 0
  · refine ⟨body ++ [⟨4, 0, s⟩], p + 1 + 1, fun k hk => ?_, ⟨by omega, by omega⟩, by rw [List.length_append]; simp; omega, app _ hz⟩
    obtain ⟨k, rfl, _⟩ := succ_of (d := 1) hk
    simp only [spec_l2Fun.l0]
    rw [if_neg (by omega), hr k (by omega)]
    simp only [Option.bind_some]
    rw [if_pos h0, hn k (by omega)]
    simp only [Option.bind_some]
    rw [if_pos (by omega)]
  · by_cases h1 : r = 1
    · refine ⟨body ++ [⟨7, 0, ⟨#[]⟩⟩], p + 1, fun k hk => ?_, ⟨by omega, by omega⟩, by rw [List.length_append]; simp; omega, app _ (by decide)⟩
      obtain ⟨k, rfl, _⟩ := succ_of (d := 1) hk
      simp only [spec_l2Fun.l0]
      rw [if_neg (by omega), hr k (by omega)]
      simp only [Option.bind_some]
      rw [if_neg h0, if_pos h1, if_pos (by omega)]
    · refine ⟨body ++ [⟨6, 0, ⟨#[]⟩⟩], p + 1, fun k hk => ?_, ⟨by omega, by omega⟩, by rw [List.length_append]; simp; omega, app _ (by decide)⟩
      obtain ⟨k, rfl, _⟩ := succ_of (d := 1) hk
      simp only [spec_l2Fun.l0]
      rw [if_neg (by omega), hr k (by omega)]
      simp only [Option.bind_some]
      rw [if_neg h0, if_neg h1, if_pos (by omega)]
theorem l2Fun_l0 (l : List Int) (hl : Bytes l) (a : ByteArray) (w : Bool) : ∀ (n : Nat) (p : Int) (body : List S38), 0 ≤ p → p + 4 * n < 700000000000 → body.length + n ≤ 4 → (∀ y ∈ body, y.f2.size ≤ 7) →
    ∃ (body' : List S38) (q : Int), (∀ k, n + 6 ≤ k → spec_l2Fun.l0 k (n : Int) l p a w body = some (a, w, body', q)) ∧ On p q (4 * n + 2) ∧ body'.length ≤ 5 ∧ ∀ y ∈ body', y.f2.size ≤ 7
  | 0, p, body, hp, hp', hb, hs => by
    obtain ⟨b, q, h1, h2, h3, h4⟩ := l2Fun_end l hl a w p body hp (by omega) (by omega) hs
    exact ⟨b, q, fun k hk => h1 k (by omega), ⟨h2.1, by have := h2.2; omega⟩, h3, h4⟩
  | n + 1, p, body, hp, hp', hb, hs => by
    obtain ⟨i, j, s, q, h, hq, hz⟩ := spec_l1Right_f l hl p hp (by omega)
    have q0 := hq.1
    have q1 := hq.2
    have hw : wrap64 (((n + 1 : Nat) : Int) - 1) = (n : Int) := by rw [wrap_id (by omega) (by omega)]; push_cast; omega
    have step : ∀ k, n + 6 ≤ k → spec_l2Fun.l0 (k + 1) ((n + 1 : Nat) : Int) l p a w body = if lastB i = true then spec_l2Fun.l0 k (n : Int) l q a w body else spec_l2Fun.l0 k (n : Int) l q a w (body ++ [⟨i, j, s⟩]) := by
      intro k hk
      simp only [spec_l2Fun.l0]
      rw [if_pos (by push_cast; omega), h k (by omega)]
      simp only [Option.bind_some]
      rw [spec_InsLast_f]
      simp only [Option.bind_some]
      rw [hw, if_pos (show body.length < 4398046511104 by omega)]
    cases hlast : lastB i with
    | true =>
      obtain ⟨b, q', h1, h2, h3, h4⟩ := l2Fun_l0 l hl a w n q body (by omega) (by push_cast at hp'; omega) (by omega) hs
      refine ⟨b, q', fun k hk => ?_, ⟨by have := h2.1; omega, by have := h2.2; push_cast; omega⟩, h3, h4⟩
      obtain ⟨k, rfl, hk'⟩ := succ_of (show n + 6 < k by omega)
      rw [step k hk', hlast, if_pos rfl, h1 k hk']
    | false =>
      obtain ⟨b, q', h1, h2, h3, h4⟩ := l2Fun_l0 l hl a w n q (body ++ [⟨i, j, s⟩]) (by omega) (by push_cast at hp'; omega) (by rw [List.length_append]; simp; omega) (fun y hy => by
        rcases List.mem_append.mp hy with h | h
        · exact hs y h
        · rw [List.mem_singleton.mp h]; show s.size ≤ 7; omega)
      refine ⟨b, q', fun k hk => ?_, ⟨by have := h2.1; omega, by have := h2.2; push_cast; omega⟩, h3, h4⟩
      obtain ⟨k, rfl, hk'⟩ := succ_of (show n + 6 < k by omega)
      rw [step k hk', hlast, if_neg (by decide), h1 k hk']
theorem spec_l2Fun_f (l : List Int) (hl : Bytes l) (p : Int) (hp : 0 ≤ p) (hp' : p < 600000000000) (a : ByteArray) (ha : a.size ≤ 7) :
    ∃ (x : S30) (q : Int), (∀ k, 20 ≤ k → spec_l2Fun.f k l p a = some (x.f0, x.f1, x.f2, q)) ∧ On p q 30 ∧ SmallF 5 x := by
  obtain ⟨r, hr, _, _⟩ := spec_l13Rd_pick_f l hl p 5 hp (by omega) (by omega)
  obtain ⟨n, hn, n0, n1⟩ := spec_l13Rd_pick_f l hl (p + 1) 5 (by omega) (by omega) (by omega)
  obtain ⟨m, rfl⟩ : ∃ m : Nat, n = m := ⟨n.toNat, by omega⟩
  obtain ⟨b, q, h1, h2, h3, h4⟩ := l2Fun_l0 l hl a (r == 0) m (p + 1 + 1) [] (by omega) (by omega) (by simp; omega) (by simp)
  refine ⟨⟨a, (r == 0), b⟩, q, fun k hk => ?_, ⟨by have := h2.1; omega, by have := h2.2; omega⟩, ha, h3, h4⟩
  unfold spec_l2Fun.f
  rw [hr k (by omega)]
  simp only [Option.bind_some]
  rw [hn k (by omega)]
  simp only [Option.bind_some]
  rw [h1 k (by omega)]
theorem l2Unit_l0 (l : List Int) (hl : Bytes l) : ∀ (n : Nat) (p : Int) (u : List S30), 0 ≤ p → p + 40 * n < 500000000000 → u.length + n ≤ 3 → (1 ≤ u.length ∨ 1 ≤ n) → (∀ x ∈ u, SmallF 5 x) →
    ∃ (u' : List S30) (q : Int), (∀ k, n + 30 ≤ k → spec_l2Unit.l0 k u (n : Int) l p = some (u', q)) ∧ On p q (40 * n) ∧ 1 ≤ u'.length ∧ u'.length ≤ 3 ∧ ∀ x ∈ u', SmallF 5 x
  | 0, p, u, hp, hp', hu, h1, hs => by
    refine ⟨u, p, fun k hk => ?_, ⟨by omega, by omega⟩, by omega, by omega, hs⟩
    obtain ⟨k, rfl, _⟩ := succ_of (show 29 < k by omega)
    simp only [spec_l2Unit.l0]
    rw [if_neg (by omega)]
  | n + 1, p, u, hp, hp', hu, h1, hs => by
    obtain ⟨s, hn, hm⟩ := spec_l1Name_f l hl p hp (by omega)
    obtain ⟨x, q, hx, hq, hsm⟩ := spec_l2Fun_f l hl (p + 1) (by omega) (by omega) s (names6_size hm)
    have q0 := hq.1
    have q1 := hq.2
    have hw : wrap64 (((n + 1 : Nat) : Int) - 1) = (n : Int) := by rw [wrap_id (by omega) (by omega)]; push_cast; omega
    have step : ∀ k, n + 30 ≤ k → spec_l2Unit.l0 (k + 1) u ((n + 1 : Nat) : Int) l p = if findI u s < 0 then spec_l2Unit.l0 k (u ++ [x]) (n : Int) l q else spec_l2Unit.l0 k u (n : Int) l (p + 1) := by
      intro k hk
      simp only [spec_l2Unit.l0]
      rw [if_pos (by push_cast; omega), hn k (by omega)]
      simp only [Option.bind_some]
      rw [spec_l2Find_f u (by omega) s k (by omega)]
      simp only [Option.bind_some]
      rw [hw, hx k (by omega)]
      simp only [Option.bind_some]
      rw [if_pos (show u.length < 2932031007402 by omega)]
    by_cases hf : findI u s < 0
    · obtain ⟨u', q', g1, g2, g3, g4, g5⟩ := l2Unit_l0 l hl n q (u ++ [x]) (by omega) (by push_cast at hp'; omega) (by rw [List.length_append]; simp; omega) (.inl (by rw [List.length_append]; simp)) (fun y hy => by
        rcases List.mem_append.mp hy with h | h
        · exact hs y h
        · rw [List.mem_singleton.mp h]; exact hsm)
      refine ⟨u', q', fun k hk => ?_, ⟨by have := g2.1; omega, by have := g2.2; push_cast; omega⟩, g3, g4, g5⟩
      obtain ⟨k, rfl, hk'⟩ := succ_of (show n + 30 < k by omega)
      rw [step k hk', if_pos hf, g1 k hk']
    · have hne : 1 ≤ u.length := by
        cases u with
        | nil => exact absurd (show findI ([] : List S30) s < 0 from by unfold findI; simp [idxFrom]) hf
        | cons _ _ => simp
      obtain ⟨u', q', g1, g2, g3, g4, g5⟩ := l2Unit_l0 l hl n (p + 1) u (by omega) (by push_cast at hp'; omega) (by omega) (.inl hne) hs
      refine ⟨u', q', fun k hk => ?_, ⟨by have := g2.1; omega, by have := g2.2; push_cast; omega⟩, g3, g4, g5⟩
      obtain ⟨k, rfl, hk'⟩ := succ_of (show n + 30 < k by omega)
      rw [step k hk', if_neg hf, g1 k hk']
theorem spec_l2Unit_f (l : List Int) (hl : Bytes l) (p : Int) (hp : 0 ≤ p) (hp' : p < 400000000000) :
    ∃ (u : List S30) (q : Int), (∀ k, 40 ≤ k → spec_l2Unit.f k l p = some (u, q)) ∧ On p q 130 ∧ 1 ≤ u.length ∧ u.length ≤ 3 ∧ ∀ x ∈ u, SmallF 5 x := by
  obtain ⟨n, hn, n0, n1⟩ := spec_l13Rd_pick_f l hl p 3 hp (by omega) (by omega)
  obtain ⟨m, rfl⟩ : ∃ m : Nat, n = m := ⟨n.toNat, by omega⟩
  obtain ⟨u, q, h1, h2, h3, h4, h5⟩ := l2Unit_l0 l hl (m + 1) (p + 1) [] (by omega) (by push_cast; omega) (by simp; omega) (.inr (by omega)) (by simp)
  refine ⟨u, q, fun k hk => ?_, ⟨by have := h2.1; omega, by have := h2.2; push_cast at this; omega⟩, h3, h4, h5⟩
  unfold spec_l2Unit.f
  rw [hn k (by omega)]
  simp only [Option.bind_some]
  rw [show wrap64 (1 + (m : Int)) = ((m + 1 : Nat) : Int) from by rw [wrap_id (by omega) (by omega)]; push_cast; omega, h1 k (by omega)]
theorem SmallF.mono {n m : Nat} {x : S30} (h : SmallF n x) (hm : n ≤ m) : SmallF m x := ⟨h.1, Nat.le_trans h.2.1 hm, h.2.2⟩
theorem set_small {u : List S30} (hs : ∀ x ∈ u, SmallF 5 x) (i : Nat) (y : S30) (hy : SmallF 6 y) : ∀ x ∈ u.set i y, SmallF 6 x := fun x hx => by
  rcases List.mem_or_eq_of_mem_set hx with h | h
  · exact (hs x h).mono (by omega)
  · rw [h]; exact hy
theorem spec_l2Bent_f (l : List Int) (hl : Bytes l) (p : Int) (hp : 0 ≤ p) (hp' : p < 300000000000) :
    ∃ (u : List S30) (q : Int), (∀ k, 50 ≤ k → spec_l2Bent.f k l p = some (u, q)) ∧ On p q 150 ∧ SmallU u := by
  obtain ⟨u, q1, hu, hq1, hn1, hn2, hs⟩ := spec_l2Unit_f l hl p hp (by omega)
  have o0 := hq1.1
  have o1 := hq1.2
  obtain ⟨ix, hix, i0, i1⟩ := spec_l13Rd_pick_f l hl q1 (u.length : Int) (by omega) (by omega) (by omega)
  obtain ⟨c, hc, c0, c1⟩ := spec_l13Rd_pick_f l hl (q1 + 1) 40 (by omega) (by omega) (by omega)
  obtain ⟨s, hS, hm⟩ := spec_l13Rd_of_f l hl (q1 + 1 + 1) (by omega) (by omega) ([(⟨#[]⟩ : ByteArray), (⟨#[65]⟩ : ByteArray), (⟨#[109, 97, 105, 110]⟩ : ByteArray)] : List ByteArray) (by decide)
  have hz : s.size ≤ 7 := by
    simp only [List.mem_cons, List.not_mem_nil, or_false] at hm
    rcases hm with rfl | rfl | rfl <;> decide
  obtain ⟨b0, b1, b2, q2, hb, hq2, hbz⟩ := spec_l1Bent_f l hl (q1 + 1 + 1) (by omega) (by omega)
  have o2 := hq2.1
  have o3 := hq2.2
  have hx : SmallF 5 (rd_T30 u ix) := hs _ (getD_mem (by omega))
  have base : ∀ k, 50 ≤ k → spec_l2Bent.f k l p = if c = 0 then some (u.set ix.toNat ⟨s, (rd_T30 u ix).f1, (rd_T30 u ix).f2⟩, q1 + 1 + 1 + 1) else if c = 1 then some (u.set ix.toNat ⟨(rd_T30 u ix).f0, (rd_T30 u ix).f1, []⟩, q1 + 1 + 1) else if c = 2 then some (u.set ix.toNat ⟨(rd_T30 u ix).f0, (rd_T30 u ix).f1, (rd_T30 u ix).f2 ++ [⟨b0, b1, b2⟩]⟩, q2) else if c = 3 then some (u ++ [rd_T30 u ix], q1 + 1 + 1) else some (u, q1 + 1 + 1) := by
    intro k hk
    unfold spec_l2Bent.f
    rw [hu k (by omega)]
    simp only [Option.bind_some]
    rw [hix k (by omega)]
    simp only [Option.bind_some]
    rw [hc k (by omega)]
    simp only [Option.bind_some]
    rw [if_pos ⟨i0, i1, by omega, by have := hx.2.1; omega⟩, hS k (by omega), hb k (by omega)]
    simp only [Option.bind_some]
  by_cases e0 : c = 0
  · refine ⟨u.set ix.toNat ⟨s, (rd_T30 u ix).f1, (rd_T30 u ix).f2⟩, q1 + 1 + 1 + 1, fun k hk => by rw [base k hk, if_pos e0], ⟨by omega, by omega⟩, by rw [List.length_set]; omega, by rw [List.length_set]; omega, set_small hs _ _ ⟨hz, Nat.le_trans hx.2.1 (by omega), hx.2.2⟩⟩
  by_cases e1 : c = 1
  · refine ⟨u.set ix.toNat ⟨(rd_T30 u ix).f0, (rd_T30 u ix).f1, []⟩, q1 + 1 + 1, fun k hk => by rw [base k hk, if_neg e0, if_pos e1], ⟨by omega, by omega⟩, by rw [List.length_set]; omega, by rw [List.length_set]; omega, set_small hs _ _ ⟨hx.1, Nat.zero_le _, fun y hy => absurd hy (by simp)⟩⟩
  by_cases e2 : c = 2
  · refine ⟨u.set ix.toNat ⟨(rd_T30 u ix).f0, (rd_T30 u ix).f1, (rd_T30 u ix).f2 ++ [⟨b0, b1, b2⟩]⟩, q2, fun k hk => by rw [base k hk, if_neg e0, if_neg e1, if_pos e2], ⟨by omega, by omega⟩, by rw [List.length_set]; omega, by rw [List.length_set]; omega, set_small hs _ _ ⟨hx.1, by have := hx.2.1; rw [List.length_append]; simp; omega, fun y hy => ?_⟩⟩
    rcases List.mem_append.mp hy with h | h
    · exact hx.2.2 y h
    · rw [List.mem_singleton.mp h]; exact hbz
  by_cases e3 : c = 3
  · refine ⟨u ++ [rd_T30 u ix], q1 + 1 + 1, fun k hk => by rw [base k hk, if_neg e0, if_neg e1, if_neg e2, if_pos e3], ⟨by omega, by omega⟩, by rw [List.length_append]; simp, by rw [List.length_append]; simp; omega, fun x hx2 => ?_⟩
    rcases List.mem_append.mp hx2 with h | h
    · exact (hs x h).mono (by omega)
    · rw [List.mem_singleton.mp h]; exact hx.mono (by omega)
  · exact ⟨u, q1 + 1 + 1, fun k hk => by rw [base k hk, if_neg e0, if_neg e1, if_neg e2, if_neg e3], ⟨by omega, by omega⟩, by omega, by omega, fun x hx2 => (hs x hx2).mono (by omega)⟩
end Go.Proofs.Ytpckkkcaffhhnaa.L

-- made by printx.py (own driver over the kit's print); Lean checks it
namespace Go.Proofs.Ytpckkkcaffhhnaa.P
open Go.RowKit Go.Proofs.YtpckkkcaffhhnaaW.PrintWords Go.Proofs.YtpckkkcaffhhnaaW.PrintLast Go.Proofs.YtpckkkcaffhhnaaW.PrintMore
attribute [local go_sem] max2_int min2_int max_two min_two max_three min_three max_four min_four   -- for this text's walks alone
set_option linter.unusedVariables false
set_option linter.unusedSimpArgs false

/-! ### impl_FunRefs: function 20 -/
def impl_FunRefs.f (k : Nat) (a0_0 : ByteArray) (a0_1 : Bool) (l0_2 : List (S38)) : Option (List ByteArray) := (impl_FunOk.f a0_0 a0_1 l0_2).bind fun t297 => (if t297 = true then ((impl_Fun_refs.f k a0_0 a0_1 l0_2).bind fun t298 => (some t298)) else (some ([] : List ByteArray)))
end Go.Proofs.Ytpckkkcaffhhnaa.P

-- made by printx.py (own driver over the kit's print); Lean checks it
namespace Go.Proofs.Ytpckkkcaffhhnaa.P
open Go.RowKit Go.Proofs.YtpckkkcaffhhnaaW.PrintWords Go.Proofs.YtpckkkcaffhhnaaW.PrintLast Go.Proofs.YtpckkkcaffhhnaaW.PrintMore
attribute [local go_sem] max2_int min2_int max_two min_two max_three min_three max_four min_four   -- for this text's walks alone
set_option linter.unusedVariables false
set_option linter.unusedSimpArgs false

/-! ### spec_FunRefs: function 21 -/
def spec_FunRefs.f (k : Nat) (a0_0 : ByteArray) (a0_1 : Bool) (l0_2 : List (S38)) : Option (List ByteArray) := (spec_FunOk.f k a0_0 a0_1 l0_2).bind fun t315 => (if t315 = true then ((spec_l2Refs.f k l0_2).bind fun t316 => (some t316)) else (some (([] : List ByteArray))))
end Go.Proofs.Ytpckkkcaffhhnaa.P

/- The names in a function; marks in texts. -/
namespace Go.Proofs.Ytpckkkcaffhhnaa.L
open Go.RowKit Go.Proofs.YtpckkkcaffhhnaaW.PrintWords Go.Proofs.YtpckkkcaffhhnaaW.PrintLast Go.Proofs.YtpckkkcaffhhnaaW.PrintMore Go.Proofs.Ytpckkkcaffhhnaa.P
set_option linter.unusedVariables false
set_option linter.unusedSimpArgs false
def hasB (l : List ByteArray) (a : ByteArray) : Bool := l.any fun x => x.toList == a.toList
def refsAdd (x : S38) (s : List ByteArray) : List ByteArray := if refersB x.f0 && !hasB s x.f2 then s ++ [x.f2] else s
def refsV (l : List S38) : List ByteArray := l.foldl (fun s x => refsAdd x s) []
theorem spec_l2Has_f (l : List ByteArray) (hn : l.length ≤ 9223372036854775806) (a : ByteArray) (k : Nat) (hk : l.length < k) : spec_l2Has.f k l a = some (hasB l a) := by
  have e : ∀ (l' : List ByteArray) (i : Nat), runS (fun _ x (_ : Unit) => if x.toList = a.toList then (.inr (some true) : Unit ⊕ Option Bool) else .inl ()) (fun _ => some false) l' i () = some (hasB l' a) := by
    intro l'
    induction l' with
    | nil => intro i; rfl
    | cons x l' ih =>
      intro i
      simp only [runS, hasB, List.any_cons]
      by_cases h : x.toList = a.toList
      · rw [if_pos h, beq_iff_eq.mpr h]; rfl
      · rw [if_neg h, beq_eq_false_iff_ne.mpr h]
        exact ih (i + 1)
  unfold spec_l2Has.f
  refine (loop_run (fun _ x (_ : Unit) => if x.toList = a.toList then (.inr (some true) : Unit ⊕ Option Bool) else .inl ()) (fun _ _ => some false) (fun _ _ => True) ByteArray.empty l hn (fun k _ i => spec_l2Has.l0 k l a i) 0 ?_ (fun _ _ _ _ _ _ => trivial) ?_ k (by omega) () trivial).trans (e l 0)
  · intro k i s _ hi _
    simp only [spec_l2Has.l0]
    rw [if_pos (by omega), if_pos (by omega)]
    show (if (l.getD i ByteArray.empty).toList = a.toList then _ else _) = _
    split <;> rfl
  · intro k s _ _
    simp only [spec_l2Has.l0]
    rw [if_neg (by omega)]
def funRefsV (x : S30) : List ByteArray := if funOkB x.f0 x.f2 = true then refsV x.f2 else []
end Go.Proofs.Ytpckkkcaffhhnaa.L

/- What the drawing functions of several units draw: some units, small. -/
namespace Go.Proofs.Ytpckkkcaffhhnaa.L
open Go.RowKit Go.Proofs.YtpckkkcaffhhnaaW.PrintWords Go.Proofs.YtpckkkcaffhhnaaW.PrintLast Go.Proofs.YtpckkkcaffhhnaaW.PrintMore Go.Proofs.Ytpckkkcaffhhnaa.P
set_option linter.unusedVariables false
set_option linter.unusedSimpArgs false
def SmallV (u : List S30) : Prop := u.length ≤ 4 ∧ ∀ x ∈ u, SmallF 6 x
def Small3 (u : List S30) : Prop := u.length ≤ 3 ∧ ∀ x ∈ u, SmallF 5 x
theorem Small3.v {u : List S30} (h : Small3 u) : SmallV u := ⟨by have := h.1; omega, fun x hx => (h.2 x hx).mono (by omega)⟩
theorem all_snoc {α : Type} {P : α → Prop} {l : List α} {a : α} (h : ∀ x ∈ l, P x) (ha : P a) : ∀ x ∈ l ++ [a], P x := fun x hx => by
  rcases List.mem_append.mp hx with h1 | h1
  · exact h x h1
  · rw [List.mem_singleton.mp h1]; exact ha
theorem l3Units_l0 (l : List Int) (hl : Bytes l) : ∀ (n : Nat) (p : Int) (us : List (List S30)), 0 ≤ p → p + 200 * n < 300000000000 → us.length + n ≤ 8 → (∀ u ∈ us, Small3 u) →
    ∃ (us' : List (List S30)) (q : Int), (∀ k, n + 50 ≤ k → spec_l3Units.l0 k us (n : Int) l p = some (us', q)) ∧ On p q (200 * n) ∧ us'.length = us.length + n ∧ ∀ u ∈ us', Small3 u
  | 0, p, us, hp, hp', hu, hs => by
    refine ⟨us, p, fun k hk => ?_, ⟨by omega, by omega⟩, by omega, hs⟩
    obtain ⟨k, rfl, _⟩ := succ_of (show 1 < k by omega)
    simp only [spec_l3Units.l0]
    rw [if_neg (by omega)]
  | n + 1, p, us, hp, hp', hu, hs => by
    obtain ⟨u, q, h, hq, h1, h2, h3⟩ := spec_l2Unit_f l hl p hp (by omega)
    have q0 := hq.1
    have q1 := hq.2
    have hw : wrap64 (((n + 1 : Nat) : Int) - 1) = (n : Int) := by rw [wrap_id (by omega) (by omega)]; push_cast; omega
    obtain ⟨us', q', g1, g2, g3, g4⟩ := l3Units_l0 l hl n q (us ++ [u]) (by omega) (by push_cast at hp'; omega) (by rw [List.length_append]; simp; omega) (all_snoc hs ⟨h2, h3⟩)
    refine ⟨us', q', fun k hk => ?_, ⟨by have := g2.1; omega, by have := g2.2; push_cast; omega⟩, by rw [g3, List.length_append]; simp; omega, g4⟩
    obtain ⟨k, rfl, hk'⟩ := succ_of (show n + 50 < k by omega)
    simp only [spec_l3Units.l0]
    rw [if_pos (by push_cast; omega), h k (by omega)]
    simp only [Option.bind_some]
    rw [if_pos (show us.length < 5864062014805 by omega), hw, g1 k hk']
theorem spec_l3Units_f (l : List Int) (hl : Bytes l) (p : Int) (hp : 0 ≤ p) (hp' : p < 200000000000) (a : Nat) (ha : a ≤ 6) :
    ∃ (us : List (List S30)) (q : Int), (∀ k, 70 ≤ k → spec_l3Units.f k l p (a : Int) = some (us, q)) ∧ On p q 2000 ∧ us.length ≤ a ∧ ∀ u ∈ us, Small3 u := by
  obtain ⟨n, hn, n0, n1⟩ := spec_l13Rd_pick_f l hl p ((a : Int) + 1) hp (by omega) (by omega)
  obtain ⟨m, rfl⟩ : ∃ m : Nat, n = m := ⟨n.toNat, by omega⟩
  obtain ⟨us, q, h1, h2, h3, h4⟩ := l3Units_l0 l hl m (p + 1) [] (by omega) (by omega) (by simp; omega) (by simp)
  refine ⟨us, q, fun k hk => ?_, ⟨by have := h2.1; omega, by have := h2.2; omega⟩, by rw [h3]; simp; omega, h4⟩
  unfold spec_l3Units.f
  rw [show wrap64 ((a : Int) + 1) = (a : Int) + 1 from wrap_id (by omega) (by omega), hn k (by omega)]
  simp only [Option.bind_some]
  rw [h1 k (by omega)]
theorem l3Thin_l1 (us : List (List S30)) (hus : ∀ u ∈ us, Small3 u) (i : Nat) (hi : i < us.length) (out : List (List S30)) (hout : out.length ≤ 8) : ∀ (m j : Nat) (acc : List S30) (names : List ByteArray), j + m = (us.getD i []).length → acc.length ≤ j → (∀ x ∈ acc, SmallF 5 x) → names.length + m ≤ 500 →
    ∃ (acc' : List S30) (names' : List ByteArray), (∀ k, 600 + m ≤ k → spec_l3Thin.l1 k us out names (i : Int) acc (j : Int) = spec_l3Thin.l0 (k - m - 1) us (out ++ [acc']) names' (wrap64 ((i : Int) + 1))) ∧ Small3 acc' ∧ names'.length ≤ names.length + m
  | 0, j, acc, names, hj, ha, hs, hn => by
    have hu := hus _ (getD_mem (d := []) hi)
    refine ⟨acc, names, fun k hk => ?_, ⟨by have := hu.1; omega, hs⟩, by omega⟩
    obtain ⟨k, rfl, _⟩ := succ_of (show 1 < k by omega)
    simp only [spec_l3Thin.l1]
    rw [show rd_L13 us (i : Int) = us.getD i [] from rfl, if_pos (by omega), if_pos (by omega), if_neg (by omega), if_pos (show out.length < 5864062014805 by omega)]
    rfl
  | m + 1, j, acc, names, hj, ha, hs, hn => by
    have hu := hus _ (getD_mem (d := []) hi)
    have hx : SmallF 5 ((us.getD i []).getD j z30) := hu.2 _ (getD_mem (by omega))
    have hw : wrap64 ((j : Int) + 1) = ((j + 1 : Nat) : Int) := by have := hu.1; rw [wrap_id (by omega) (by omega)]; push_cast; rfl
    have step : ∀ k, 600 ≤ k → spec_l3Thin.l1 (k + 1) us out names (i : Int) acc (j : Int) = if ((us.getD i []).getD j z30).f1 = true ∨ hasB names ((us.getD i []).getD j z30).f0 = false then spec_l3Thin.l1 k us out (names ++ [((us.getD i []).getD j z30).f0]) (i : Int) (acc ++ [(us.getD i []).getD j z30]) ((j + 1 : Nat) : Int) else spec_l3Thin.l1 k us out names (i : Int) acc ((j + 1 : Nat) : Int) := by
      intro k hk
      simp only [spec_l3Thin.l1]
      rw [show rd_L13 us (i : Int) = us.getD i [] from rfl, show rd_T30 (us.getD i []) (j : Int) = (us.getD i []).getD j z30 from rfl]
      rw [if_pos (by omega), if_pos (by omega), if_pos (by omega), if_pos (by omega), if_pos (show acc.length < 2932031007402 by have := hu.1; omega), if_pos (show names.length < 8796093022208 by omega), spec_l2Has_f names (by omega) _ k (by omega), hw]
      simp only [Option.bind_some]
      cases h1 : ((us.getD i []).getD j z30).f1 with
      | true => rw [if_pos rfl, if_pos (.inl rfl), ← h1]
      | false =>
        rw [if_neg (by decide)]
        cases h2 : hasB names ((us.getD i []).getD j z30).f0 with
        | true => rw [if_pos rfl, if_neg (by simp)]
        | false => rw [if_neg (by decide), if_pos (.inr rfl), ← h1]
    by_cases hc : ((us.getD i []).getD j z30).f1 = true ∨ hasB names ((us.getD i []).getD j z30).f0 = false
    · obtain ⟨acc', names', g1, g2, g3⟩ := l3Thin_l1 us hus i hi out hout m (j + 1) (acc ++ [(us.getD i []).getD j z30]) (names ++ [((us.getD i []).getD j z30).f0]) (by omega) (by rw [List.length_append]; simp; omega) (all_snoc hs hx) (by rw [List.length_append]; simp; omega)
      refine ⟨acc', names', fun k hk => ?_, g2, by rw [List.length_append] at g3; simp at g3; omega⟩
      obtain ⟨k, rfl, hk'⟩ := succ_of (show 600 + m < k by omega)
      rw [step k (by omega), if_pos hc, g1 k hk', show k + 1 - (m + 1) - 1 = k - m - 1 by omega]
    · obtain ⟨acc', names', g1, g2, g3⟩ := l3Thin_l1 us hus i hi out hout m (j + 1) acc names (by omega) (by omega) hs (by omega)
      refine ⟨acc', names', fun k hk => ?_, g2, by omega⟩
      obtain ⟨k, rfl, hk'⟩ := succ_of (show 600 + m < k by omega)
      rw [step k (by omega), if_neg hc, g1 k hk', show k + 1 - (m + 1) - 1 = k - m - 1 by omega]
theorem l3Thin_l0 (us : List (List S30)) (hus : ∀ u ∈ us, Small3 u) (hl : us.length ≤ 8) : ∀ (m i : Nat) (out : List (List S30)) (names : List ByteArray), i + m = us.length → out.length = i → (∀ u ∈ out, Small3 u) → names.length + 3 * m ≤ 400 →
    ∃ us' : List (List S30), (∀ k, 700 + 10 * m ≤ k → spec_l3Thin.l0 k us out names (i : Int) = some us') ∧ us'.length = us.length ∧ ∀ u ∈ us', Small3 u
  | 0, i, out, names, hi, ho, hs, hn => by
    refine ⟨out, fun k hk => ?_, by omega, hs⟩
    obtain ⟨k, rfl, _⟩ := succ_of (show 1 < k by omega)
    simp only [spec_l3Thin.l0]
    rw [if_neg (by omega)]
  | m + 1, i, out, names, hi, ho, hs, hn => by
    have hu := hus _ (getD_mem (d := []) (show i < us.length by omega))
    have hu1 := hu.1
    obtain ⟨acc, names', g1, g2, g3⟩ := l3Thin_l1 us hus i (by omega) out (by omega) (us.getD i []).length 0 [] names (by omega) (by simp) (by simp) (by omega)
    obtain ⟨us', f1, f2, f3⟩ := l3Thin_l0 us hus hl m (i + 1) (out ++ [acc]) names' (by omega) (by rw [List.length_append]; simp; omega) (all_snoc hs g2) (by omega)
    refine ⟨us', fun k hk => ?_, f2, f3⟩
    obtain ⟨k, rfl, hk'⟩ := succ_of (show 700 + 10 * m + 9 < k by omega)
    simp only [spec_l3Thin.l0]
    rw [if_pos (by omega)]
    have e := g1 k (by omega)
    rw [show ((0 : Nat) : Int) = 0 from rfl] at e
    rw [e, show wrap64 ((i : Int) + 1) = ((i + 1 : Nat) : Int) from by rw [wrap_id (by omega) (by omega)]; push_cast; rfl]
    exact f1 _ (by omega)
theorem spec_l3Thin_f (us : List (List S30)) (hus : ∀ u ∈ us, Small3 u) (hl : us.length ≤ 8) : ∃ us' : List (List S30), (∀ k, 1000 ≤ k → spec_l3Thin.f k us = some us') ∧ us'.length = us.length ∧ ∀ u ∈ us', Small3 u := by
  obtain ⟨us', h1, h2, h3⟩ := l3Thin_l0 us hus hl us.length 0 [] [] (by omega) rfl (by simp) (by simp; omega)
  exact ⟨us', fun k hk => h1 k (by omega), h2, h3⟩
theorem l3Bent_l0 (l : List Int) (p : Int) : ∀ (m : Nat) (us : List (List S30)), us.length + m = 9 → (∀ u ∈ us, SmallV u) → ∃ us' : List (List S30), (∀ k, m + 2 ≤ k → spec_l3Bent.l0 k us l p = some (us', p)) ∧ us'.length ≤ 9 ∧ ∀ u ∈ us', SmallV u
  | 0, us, h, hs => by
    refine ⟨us, fun k hk => ?_, by omega, hs⟩
    obtain ⟨k, rfl, _⟩ := succ_of (show 1 < k by omega)
    simp only [spec_l3Bent.l0]
    rw [if_neg (by omega)]
  | m + 1, us, h, hs => by
    obtain ⟨us', g1, g2, g3⟩ := l3Bent_l0 l p m (us ++ [[]]) (by rw [List.length_append]; simp; omega) (all_snoc hs ⟨by simp, by simp⟩)
    refine ⟨us', fun k hk => ?_, g2, g3⟩
    obtain ⟨k, rfl, hk'⟩ := succ_of (show m + 2 < k by omega)
    simp only [spec_l3Bent.l0]
    rw [if_pos (by omega), if_pos (by omega), g1 k hk']
theorem l3Bent_j0 (l : List Int) (hl : Bytes l) (us : List (List S30)) (hn : us.length ≤ 8) (hs : ∀ u ∈ us, SmallV u) (p : Int) (hp : 0 ≤ p) (hp' : p < 200000000000) :
    ∃ (us' : List (List S30)) (q : Int), (∀ k, 100 ≤ k → spec_l3Bent.j0 k us l p = some (us', q)) ∧ On p q 300 ∧ us'.length ≤ 9 ∧ ∀ u ∈ us', SmallV u := by
  obtain ⟨c, hc, c0, c1⟩ := spec_l13Rd_pick_f l hl p 30 hp (by omega) (by omega)
  obtain ⟨u, q, hu, hq, hsu⟩ := spec_l2Bent_f l hl (p + 1) (by omega) (by omega)
  have q0 := hq.1
  have q1 := hq.2
  obtain ⟨us', g1, g2, g3⟩ := l3Bent_l0 l (p + 1) (9 - us.length) us (by omega) hs
  by_cases e0 : c = 0
  · refine ⟨us ++ [u], q, fun k hk => ?_, ⟨by omega, by omega⟩, by rw [List.length_append]; simp; omega, all_snoc hs ⟨hsu.2.1, hsu.2.2⟩⟩
    obtain ⟨k, rfl, _⟩ := succ_of (show 90 < k by omega)
    simp only [spec_l3Bent.j0]
    rw [hc k (by omega)]
    simp only [Option.bind_some]
    rw [if_pos e0, hu k (by omega)]
    simp only [Option.bind_some]
    rw [if_pos (show us.length < 5864062014805 by omega)]
  · by_cases e1 : c = 1
    · refine ⟨us', p + 1, fun k hk => ?_, ⟨by omega, by omega⟩, g2, g3⟩
      obtain ⟨k, rfl, _⟩ := succ_of (show 90 < k by omega)
      simp only [spec_l3Bent.j0]
      rw [hc k (by omega)]
      simp only [Option.bind_some]
      rw [if_neg e0, if_pos e1, g1 k (by omega)]
    · refine ⟨us, p + 1, fun k hk => ?_, ⟨by omega, by omega⟩, by omega, hs⟩
      obtain ⟨k, rfl, _⟩ := succ_of (show 90 < k by omega)
      simp only [spec_l3Bent.j0]
      rw [hc k (by omega)]
      simp only [Option.bind_some]
      rw [if_neg e0, if_neg e1]
theorem spec_l3Bent_f (l : List Int) (hl : Bytes l) (p : Int) (hp : 0 ≤ p) (hp' : p < 100000000000) (a : Nat) (ha : a ≤ 6) :
    ∃ (us : List (List S30)) (q : Int), (∀ k, 2000 ≤ k → spec_l3Bent.f k l p (a : Int) = some (us, q)) ∧ On p q 3000 ∧ us.length ≤ 9 ∧ ∀ u ∈ us, SmallV u := by
  obtain ⟨us, q, h, hq, hn, hs⟩ := spec_l3Units_f l hl p hp (by omega) a ha
  have q0 := hq.1
  have q1 := hq.2
  obtain ⟨c, hc, c0, c1⟩ := spec_l13Rd_pick_f l hl q 3 (by omega) (by omega) (by omega)
  obtain ⟨ut, ht, htn, hts⟩ := spec_l3Thin_f us hs (by omega)
  obtain ⟨r1, p1, g1, g2, g3, g4⟩ := l3Bent_j0 l hl ut (by omega) (fun u hu => (hts u hu).v) (q + 1) (by omega) (by omega)
  obtain ⟨r2, p2, f1, f2, f3, f4⟩ := l3Bent_j0 l hl us (by omega) (fun u hu => (hs u hu).v) (q + 1) (by omega) (by omega)
  by_cases e : c > 0
  · refine ⟨r1, p1, fun k hk => ?_, ⟨by have := g2.1; omega, by have := g2.2; omega⟩, g3, g4⟩
    unfold spec_l3Bent.f
    rw [h k (by omega)]
    simp only [Option.bind_some]
    rw [hc k (by omega)]
    simp only [Option.bind_some]
    rw [if_pos e, ht k (by omega)]
    simp only [Option.bind_some]
    rw [g1 k (by omega)]
  · refine ⟨r2, p2, fun k hk => ?_, ⟨by have := f2.1; omega, by have := f2.2; omega⟩, f3, f4⟩
    unfold spec_l3Bent.f
    rw [h k (by omega)]
    simp only [Option.bind_some]
    rw [hc k (by omega)]
    simp only [Option.bind_some]
    rw [if_neg e, f1 k (by omega)]
end Go.Proofs.Ytpckkkcaffhhnaa.L

/- What is found in ok units: places and names. -/
namespace Go.Proofs.Ytpckkkcaffhhnaa.L
open Go.RowKit Go.Proofs.YtpckkkcaffhhnaaW.PrintWords Go.Proofs.YtpckkkcaffhhnaaW.PrintLast Go.Proofs.YtpckkkcaffhhnaaW.PrintMore Go.Proofs.Ytpckkkcaffhhnaa.P
set_option linter.unusedVariables false
theorem SmallV.fit {u : UnitV} (h : SmallV u) : FitU u := ⟨by have := h.1; omega, fun x hx => (h.2 x hx).fit (by omega)⟩
/-- Where a unit is ok, a function's place is found by its name. -/
theorem good_at (u : UnitV) (h : unitOkB u = true) (i : Nat) (hi : i < u.length) : findI u (u.getD i z30).f0 = (i : Int) := by
  have key : ∀ (l : List S30) (j : Nat), allFrom (fun i x => funOkB x.f0 x.f2 && (findI u x.f0 == (i : Int))) l j = true → ∀ i, i < l.length → findI u (l.getD i z30).f0 = ((j + i : Nat) : Int) := by
    intro l
    induction l with
    | nil => intro j _ i hi; simp at hi
    | cons x l ih =>
      intro j h i hi
      simp only [allFrom, Bool.and_eq_true, beq_iff_eq] at h
      cases i with
      | zero => simpa using h.1.2
      | succ i =>
        have := ih (j + 1) h.2 i (by simpa using hi)
        simp only [List.getD_cons_succ]
        rw [this]
        congr 1
        omega
  unfold unitOkB at h
  simp only [Bool.and_eq_true] at h
  have := key u 0 h.1 i hi
  simpa using this
theorem find_hit (u : UnitV) (a : ByteArray) (h : 0 ≤ findI u a) : (u.getD (findI u a).toNat z30).f0.toList = a.toList := by
  have key : ∀ (l : List S30) (j : Int), 0 ≤ j → 0 ≤ idxFrom (named a) l j → (l.getD (idxFrom (named a) l j - j).toNat z30).f0.toList = a.toList := by
    intro l
    induction l with
    | nil => intro j hj h; simp [idxFrom] at h
    | cons x l ih =>
      intro j hj h
      by_cases hq : named a x = true
      · have e : idxFrom (named a) (x :: l) j = j := by simp [idxFrom, hq]
        rw [e]
        simp only [Int.sub_self, Int.toNat_zero, List.getD_cons_zero]
        exact beq_iff_eq.mp hq
      · have e : idxFrom (named a) (x :: l) j = idxFrom (named a) l (j + 1) := by simp [idxFrom, hq]
        rw [e] at h ⊢
        have hlo := idxFrom_lo (named a) l (j + 1) (by omega)
        have := ih (j + 1) (by omega) h
        have h2 := hlo.2.2 h
        rw [show (idxFrom (named a) l (j + 1) - j).toNat = (idxFrom (named a) l (j + 1) - (j + 1)).toNat + 1 by omega]
        simpa using this
  have := key u 0 (by omega) h
  unfold findI
  simpa using this
theorem findI_of {u : UnitV} {a b : ByteArray} (h : a.toList = b.toList) : findI u a = findI u b := by
  unfold findI named
  rw [h]
/-- In an ok unit: a function of that name stands where the name is found. -/
theorem named_at {u : UnitV} (h : unitOkB u = true) {i : Nat} (hi : i < u.length) {a : ByteArray} (hn : (u.getD i z30).f0.toList = a.toList) : findI u a = (i : Int) := by
  rw [← findI_of hn]; exact good_at u h i hi
theorem unitsOk_at {l : List UnitV} {n : Int} (h : unitsOkB l n = true) : ∀ u ∈ l, unitOkB u = true := by
  intro u hu
  unfold unitsOkB at h
  simp only [Bool.and_eq_true, decide_eq_true_eq, Bool.not_eq_true', List.any_eq_false] at h
  have h3 := h.2 u hu
  revert h3
  cases unitOkB u <;> simp
def hit (u : UnitV) (a : ByteArray) (b : Bool) : Prop := 0 ≤ findI u a ∧ weakAt u a = b
end Go.Proofs.Ytpckkkcaffhhnaa.L

/- A name that stands twice: for every code, the law on PickTwo answers true. -/
namespace Go.Proofs.Ytpckkkcaffhhnaa.Pure
open Go.RowKit Go.Proofs.Ytpckkkcaffhhnaa.P Go.Proofs.Ytpckkkcaffhhnaa.L Go.Proofs.YtpckkkcaffhhnaaW.PrintWords
set_option linter.unusedVariables false
theorem draw_two (l : List Int) (hl : Bytes l) : ∃ us, (∀ k, 2000 ≤ k → spec_DrawPickTwo.f k l = some us) ∧ us.length ≤ 9 ∧ ∀ u ∈ us, SmallV u := by
  obtain ⟨l', e, hl', _⟩ := spec_l13Open_f l hl
  obtain ⟨us, q, h, hq, hn, hu⟩ := spec_l3Bent_f l' hl' 0 (by decide) (by decide) 4 (by decide)
  refine ⟨us, fun k hk => ?_, hn, hu⟩
  unfold spec_DrawPickTwo.f
  rw [e]; simp only [Option.bind_some]
  rw [show (4 : Int) = ((4 : Nat) : Int) from rfl, h k (by omega)]; rfl
theorem impl_PickTwo_f (l : List UnitV) (hl : ∀ u ∈ l, FitU u) : impl_PickTwo.f l = some (pickTwoV l) := by
  unfold impl_PickTwo.f
  rw [if_pos (fun u hu => ⟨(hl u hu).1, fun x hx => (hl u hu).2 x hx⟩)]
theorem pickTwo_spec (us : List UnitV) : match pickTwoV us with
    | (s, false) => True
    | (s, true) => unitsOkB us 8 = true ∧ strongV us s > 1 := by
  unfold pickTwoV
  by_cases h : unitsOkB us 8 = true
  · rw [if_pos h]
    unfold twoV twoOut
    cases hf : us.flatten.find? (twice us) with
    | none => trivial
    | some x =>
      refine ⟨h, ?_⟩
      have := List.find?_some hf
      unfold twice at this
      exact of_decide_eq_true this
  · rw [if_neg h]; trivial
theorem two_l1 (us : List UnitV) (s : ByteArray) (hl : us.length ≤ 9) (hu : ∀ u ∈ us, u.length ≤ 4) (hok : ∀ u ∈ us, unitOkB u = true) (x : Nat) (hx : x < us.length) : ∀ m y (c : Int) k, y + m = (us.getD x []).length → 0 ≤ c → c ≤ 100 - m → m + 1 ≤ k → laws_FnPickTwo.l1 k us s true c (x : Int) (y : Int) = laws_FnPickTwo.l0 (k - m - 1) us s true (if (y : Int) ≤ findI (us.getD x []) s ∧ weakAt (us.getD x []) s = false then c + 1 else c) (wrap64 ((x : Int) + 1)) := by
  have hux := hu _ (getD_mem (d := []) hx)
  have hlo := findI_lo (us.getD x []) s
  intro m
  induction m with
  | zero =>
    intro y c k hy hc hc2 hk
    obtain ⟨k, rfl, _⟩ := succ_of (show 0 < k by omega)
    simp only [laws_FnPickTwo.l1]
    rw [show rd_L13 us (x : Int) = us.getD x [] from rfl, if_pos (by omega), if_pos (by omega), if_neg (by omega), if_neg (fun h => by have := h.1; omega)]
    rfl
  | succ m ih =>
    intro y c k hy hc hc2 hk
    obtain ⟨k, rfl, _⟩ := succ_of (show 0 < k by omega)
    have hw : wrap64 ((y : Int) + 1) = ((y + 1 : Nat) : Int) := by rw [wrap_id (by omega) (by omega)]; push_cast; rfl
    have hwc : wrap64 (c + 1) = c + 1 := wrap_id (by omega) (by omega)
    have hk2 : k + 1 - (m + 1) - 1 = k - m - 1 := by omega
    simp only [laws_FnPickTwo.l1]
    rw [show rd_L13 us (x : Int) = us.getD x [] from rfl, show rd_T30 (us.getD x []) (y : Int) = (us.getD x []).getD y z30 from rfl, if_pos (by omega), if_pos (by omega), if_pos (by omega), if_pos (by omega), hw, hwc, hk2]
    by_cases hname : ((us.getD x []).getD y z30).f0.toList = s.toList
    · have hat := named_at (hok _ (getD_mem (d := []) hx)) (show y < (us.getD x []).length by omega) hname
      have hwk : weakAt (us.getD x []) s = ((us.getD x []).getD y z30).f1 := by unfold weakAt; rw [hat]; rfl
      rw [if_pos hname, ih (y + 1) c k (by omega) hc (by omega) (by omega), ih (y + 1) (c + 1) k (by omega) (by omega) (by omega) (by omega), hat, hwk]
      rw [if_neg (show ¬ (((y + 1 : Nat) : Int) ≤ (y : Int) ∧ ((us.getD x []).getD y z30).f1 = false) from fun h => by have := h.1; omega), if_neg (show ¬ (((y + 1 : Nat) : Int) ≤ (y : Int) ∧ ((us.getD x []).getD y z30).f1 = false) from fun h => by have := h.1; omega)]
      cases hf : ((us.getD x []).getD y z30).f1 with
      | true => rw [if_pos rfl, if_neg (fun h => absurd h.2 (by decide))]
      | false => rw [if_neg (by decide), if_pos ⟨Int.le_refl _, rfl⟩]
    · have hne : findI (us.getD x []) s ≠ (y : Int) := by
        intro he
        have := find_hit (us.getD x []) s (by omega)
        rw [he] at this
        exact hname this
      rw [if_neg hname, ih (y + 1) c k (by omega) hc (by omega) (by omega)]
      congr 1
      by_cases hq : (y : Int) ≤ findI (us.getD x []) s ∧ weakAt (us.getD x []) s = false
      · rw [if_pos hq, if_pos ⟨by have := hq.1; omega, hq.2⟩]
      · rw [if_neg hq, if_neg (fun h => hq ⟨by have := h.1; omega, h.2⟩)]
theorem FnPickTwo : laws_FnPickTwo.Pure := by
  intro l _ _ hw
  unfold laws_FnPickTwo.f
  by_cases h : (l.length : Int) > 1048576
  · exact ⟨1, by rw [if_pos h]⟩
  obtain ⟨us, hd, hl, hsm⟩ := draw_two l ⟨by omega, hw⟩
  have hf : ∀ u ∈ us, FitU u := fun u hu => (hsm u hu).fit
  have hlen : ∀ u ∈ us, u.length ≤ 4 := fun u hu => (hsm u hu).1
  obtain ⟨K, hK⟩ : ∃ K : Nat, 1000000000000000 ≤ K := ⟨_, Nat.le_refl _⟩
  refine ⟨K + 3, ?_⟩
  rw [if_neg h]
  simp only [laws_FnPickTwo.j0]
  rw [hd _ (by omega)]; simp only [Option.bind_some]
  rw [impl_PickTwo_f us hf, spec_PickTwo_f us (by omega) hf _ (by omega)]
  simp only [Option.bind_some, if_true, bne_self_eq_false, laws_FnPickTwo.j1]
  rw [if_neg (by decide)]
  simp only [laws_FnPickTwo.j2]
  have hs := pickTwo_spec us
  revert hs
  generalize pickTwoV us = r
  obtain ⟨s, b⟩ := r
  intro hs
  cases b with
  | false =>
    obtain ⟨k, rfl⟩ : ∃ q, K = q + 2 := ⟨K - 2, by omega⟩
    simp only [laws_FnPickTwo.l0, laws_FnPickTwo.j4]
    split <;> rfl
  | true =>
    obtain ⟨hok, hgt⟩ := hs
    have hok2 := unitsOk_at hok
    have key : ∀ (m x : Nat) (c : Int) (k : Nat), x + m = us.length → 0 ≤ c → c ≤ x → 20 * m + 10 ≤ k → laws_FnPickTwo.l0 k us s true c (x : Int) = some (true == decide ((us.drop x).foldl (fun c u => strongStep s u c) c > 1)) := by
      intro m
      induction m with
      | zero =>
        intro x c k hx hc hc2 hk
        obtain ⟨k, rfl⟩ : ∃ q, k = q + 2 := ⟨k - 2, by omega⟩
        simp only [laws_FnPickTwo.l0]
        rw [if_neg (by omega)]
        simp only [laws_FnPickTwo.j4]
        rw [if_neg (by decide), List.drop_eq_nil_of_le (by omega)]
        rfl
      | succ m ih =>
        intro x c k hx hc hc2 hk
        obtain ⟨k, rfl⟩ : ∃ q, k = q + 3 := ⟨k - 3, by omega⟩
        have hux := hlen _ (getD_mem (d := []) (show x < us.length by omega))
        have hst := strongStep_le s (us.getD x []) c
        simp only [laws_FnPickTwo.l0]
        rw [if_pos (by omega)]
        simp only [laws_FnPickTwo.j4]
        rw [if_pos trivial]
        simp only [laws_FnPickTwo.j5]
        rw [show (0 : Int) = ((0 : Nat) : Int) from rfl, two_l1 us s hl hlen hok2 x (by omega) (us.getD x []).length 0 c k (by omega) hc (by omega) (by omega), show wrap64 ((x : Int) + 1) = ((x + 1 : Nat) : Int) from by rw [wrap_id (by omega) (by omega)]; push_cast; rfl]
        have e : (us.drop x).foldl (fun c u => strongStep s u c) c = (us.drop (x + 1)).foldl (fun c u => strongStep s u c) (strongStep s (us.getD x []) c) := by
          rw [List.drop_eq_getElem_cons (show x < us.length by omega), List.foldl_cons, List.getD_eq_getElem?_getD, List.getElem?_eq_getElem (show x < us.length by omega)]
          rfl
        rw [e]
        exact ih (x + 1) (strongStep s (us.getD x []) c) _ (by omega) (by omega) (by push_cast; omega) (by omega)
    refine (key us.length 0 0 K (by omega) (by omega) (by omega) (by omega)).trans ?_
    have e : (us.drop 0).foldl (fun c u => strongStep s u c) 0 = strongV us s := rfl
    rw [e, decide_eq_true hgt]
    rfl
end Go.Proofs.Ytpckkkcaffhhnaa.Pure
