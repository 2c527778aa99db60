-- Pxspecl3Ok, Pxspecl3Strong, Pximplpick, PximplPickAt, Pxspecl3At, PxspecPickAt, LRun, LPick, LTwo, PximplPickTwo: put together by squash.py
import Derived.Test.YtpckkkcaffhhnaaSqFnPickTwo3
import Derived.Test.YtpckkkcaffhhnaaSqFnPickTwo10
import Derived.Test.YtpckkkcaffhhnaaSqFnPickTwo4
import Derived.Test.YtpckkkcaffhhnaaSqFnPickTwo6

-- made by printx.py (own driver over the kit's print); Lean checks it
namespace Go.Proofs.Ytpckkkcaffhhnaa.P
open Go.RowKit Go.Proofs.YtpckkkcaffhhnaaW.PrintWords Go.Proofs.YtpckkkcaffhhnaaW.PrintLast Go.Proofs.YtpckkkcaffhhnaaW.PrintMore
attribute [local go_sem] max2_int min2_int max_two min_two max_three min_three max_four min_four   -- for this text's walks alone
set_option linter.unusedVariables false
set_option linter.unusedSimpArgs false

/-! ### spec_l3Ok: function 84 -/
def spec_l3Ok.l0 : Nat → List (List (S30)) → Int → Int → Option (Bool)
  | 0, _, _, _ => none
  | k + 1, x0, x1, x5 => if x5 < (x0.length : Int) then (if 0 ≤ x5 then ((spec_UnitOk.f k (rd_L13 x0 x5)).bind fun t526 => (if t526 = true then (spec_l3Ok.l0 k x0 x1 (wrap64 (x5 + 1))) else (some false))) else (none)) else (some (decide ((x0.length : Int) ≤ x1)))
def spec_l3Ok.f (k : Nat) (l0 : List (List (S30))) (a1 : Int) : Option (Bool) := spec_l3Ok.l0 k l0 a1 0
set_option maxHeartbeats 8000000 in
set_option maxRecDepth 100000 in
theorem spec_l3Ok.calls (k : Nat) (A0 : Option Addr) (c0 : Nat) (l0 : List (List (S30))) (a1 : Int) (r : Bool) (w : World) (hr0 : Kd.C (Kd.slice 30 k30) w A0 l0.length l0) (hc0 : l0.length ≤ c0) (h : spec_l3Ok.f k l0 a1 = some r) :
    Calls Try.prog 84 #[.slice A0 l0.length c0, .int .i64 a1] w fun e w' => e = .returned (.bool r) ∧ Below w.heap.size w w' := by
  have HR0 := Aside0.mk hr0
  have HC0 := Aside0.mk hc0
  clear hr0 hc0
  have HB := Aside0.mk (Below.refl w.heap.size w)
  have H : (spec_l3Ok.l0 k l0 a1 0) = some r := h
  clear h
  have H' := Aside0.mk H
  clear H
  go_enter Try.func84, Try.ntmps84
  go_wp2
  go_loopg [5] k (fun kq v5 w' => ∃ (x5_1 : Int), v5 = .int .i64 x5_1 ∧ Aside0 (spec_l3Ok.l0 kq l0 a1 x5_1 = some r) ∧ Aside0 (kq ≤ k) ∧ Aside0 (Below w.heap.size w w'))
  case atStart => exact ⟨(0), (by first | rfl | (simp; done) | (simp [*]; done)), H', ⟨Nat.le_refl _⟩, ⟨by repeat (first | (with_reducible first | exact HB.out | apply below_alloc | apply pw_below_drewN | apply below_drew1) | exact HB.out)⟩⟩
  case round =>
    clear H'
    try clear p2
    obtain ⟨x5_1, rfl, HA, HK1, HB⟩ := hrel
    cases gk with
    | zero => exact absurd HA.out (by simp [spec_l3Ok.l0])
    | succ k1 =>
      have H := HA.out
      clear HA
      simp only [spec_l3Ok.l0] at H
      by_cases c3 : x5_1 < (l0.length : Int)
      · rw [if_pos c3] at H
        have c3b0 : decide (x5_1 < (l0.length : Int)) = true := decide_eq_true c3
        clear c3
        by_cases c4 : 0 ≤ x5_1
        · rw [if_pos c4] at H
          have c4b0 : decide (0 ≤ x5_1) = true := decide_eq_true c4
          clear c4
          replace H := Option.bind_eq_some_iff.mp H
          obtain ⟨t526, A50, H⟩ := H
          replace H : (if t526 = true then (spec_l3Ok.l0 k1 l0 a1 (wrap64 (x5_1 + 1))) else (some false)) = some r := H
          have A5 := Aside0.mk A50
          clear A50
          by_cases c6 : t526 = true
          · subst c6
            have H1 : (spec_l3Ok.l0 k1 l0 a1 (wrap64 (x5_1 + 1))) = some r := by rw [if_pos rfl] at H; exact H
            clear H
            have H := H1
            clear H1
            have H' := Aside0.mk H
            clear H
            have p525 : 0 ≤ (x5_1 : Int) := of_decide_eq_true (by first | (with_reducible assumption) | assumption)
            have q525 : x5_1 < (l0.length : Int) := of_decide_eq_true (by first | (with_reducible assumption) | assumption)
            obtain ⟨ad525, A525_0, c525_0, e525, hx525_0, hl525_0, hi525_0⟩ := at_L13 HR0.out x5_1 p525 q525
            cases e525
            replace hx525_0 := (HB.out.cell (World.block_lt_of_cell? w _ hx525_0)).trans hx525_0
            have HR525_0 := Aside0.mk hi525_0
            have HC525_0 := Aside0.mk hl525_0
            clear hi525_0 hl525_0
            replace p525 := eq_true p525
            replace q525 := eq_true q525
            go_wp2_with (first | ((with_reducible refine gate_callee (f := 18) rfl ?_); refine goesL_ (some 16) rfl rfl Try.func18 (by kernel_rfl) rfl #[.slice A525_0 (rd_L13 l0 x5_1).length c525_0] rfl (by (try simp only [List.map_toArray, List.map_cons, List.map_nil]); first | done | rfl | (simp only [List.length_drop, List.length_take]; rfl)) ?_; (with_reducible refine (spec_UnitOk.calls k1 _ _ (rd_L13 l0 x5_1) true _ ?side1 ?side2 A5.out).mono ?_); (case side1 => repeat (first | exact (Kd.C_below HR525_0.out HB.out) | (with_reducible refine Kd.C_alloc ?_ _) | (with_reducible refine Kd.C_drewN ?_ _) | (with_reducible refine Kd.C_drew ?_))); (case side2 => exact HC525_0.out); rintro e w7 ⟨rfl, hb⟩; refine ⟨_, rfl, ?_⟩; have n0_ := Aside0.mk (below_step (by repeat (first | (with_reducible first | exact HB.out | apply below_alloc | apply pw_below_drewN | apply below_drew1) | exact HB.out)) hb); clear HB; have HB := n0_; clear n0_; (try clear hb); (try clear hb2); (try clear hk); (try clear hi)))
            go_roundg k1
            case measure => have := HK1.out; omega
            case rel => exact ⟨(wrap64 (x5_1 + 1)), (by first | rfl | (simp; done) | (simp [*]; done)), H', ⟨by have := HK1.out; omega⟩, ⟨by repeat (first | (with_reducible first | exact HB.out | apply below_alloc | apply pw_below_drewN | apply below_drew1) | exact HB.out)⟩⟩
          · replace c6 := Bool.eq_false_iff.mpr c6
            subst c6
            have H1 : (some false) = some r := by rw [if_neg (show ¬ (false = true) by decide)] at H; exact H
            clear H
            have H := H1
            clear H1
            obtain rfl := Option.some.inj H
            have p525 : 0 ≤ (x5_1 : Int) := of_decide_eq_true (by first | (with_reducible assumption) | assumption)
            have q525 : x5_1 < (l0.length : Int) := of_decide_eq_true (by first | (with_reducible assumption) | assumption)
            obtain ⟨ad525, A525_0, c525_0, e525, hx525_0, hl525_0, hi525_0⟩ := at_L13 HR0.out x5_1 p525 q525
            cases e525
            replace hx525_0 := (HB.out.cell (World.block_lt_of_cell? w _ hx525_0)).trans hx525_0
            have HR525_0 := Aside0.mk hi525_0
            have HC525_0 := Aside0.mk hl525_0
            clear hi525_0 hl525_0
            replace p525 := eq_true p525
            replace q525 := eq_true q525
            go_wp2_with (first | ((with_reducible refine gate_callee (f := 18) rfl ?_); refine goesL_ (some 16) rfl rfl Try.func18 (by kernel_rfl) rfl #[.slice A525_0 (rd_L13 l0 x5_1).length c525_0] rfl (by (try simp only [List.map_toArray, List.map_cons, List.map_nil]); first | done | rfl | (simp only [List.length_drop, List.length_take]; rfl)) ?_; (with_reducible refine (spec_UnitOk.calls k1 _ _ (rd_L13 l0 x5_1) false _ ?side1 ?side2 A5.out).mono ?_); (case side1 => repeat (first | exact (Kd.C_below HR525_0.out HB.out) | (with_reducible refine Kd.C_alloc ?_ _) | (with_reducible refine Kd.C_drewN ?_ _) | (with_reducible refine Kd.C_drew ?_))); (case side2 => exact HC525_0.out); rintro e w8 ⟨rfl, hb⟩; refine ⟨_, rfl, ?_⟩; have n0_ := Aside0.mk (below_step (by repeat (first | (with_reducible first | exact HB.out | apply below_alloc | apply pw_below_drewN | apply below_drew1) | exact HB.out)) hb); clear HB; have HB := n0_; clear n0_; (try clear hb); (try clear hb2); (try clear hk); (try clear hi)))
            go_ret
            exact ⟨by first | rfl | (simp [errW_none, errW_some] <;> rfl) | (simp [*, errW_none, errW_some] <;> rfl), by repeat (first | (with_reducible first | exact HB.out | apply below_alloc | apply pw_below_drewN | apply below_drew1) | exact HB.out)⟩
        · rw [if_neg c4] at H
          exact absurd H (by simp)
      · rw [if_neg c3] at H
        have c3b0 : decide (x5_1 < (l0.length : Int)) = false := decide_eq_false c3
        clear c3
        obtain rfl := Option.some.inj H
        go_wp2
        go_ret
        exact ⟨by first | rfl | (simp [errW_none, errW_some] <;> rfl) | (simp [*, errW_none, errW_some] <;> rfl), by repeat (first | (with_reducible first | exact HB.out | apply below_alloc | apply pw_below_drewN | apply below_drew1) | exact HB.out)⟩

end Go.Proofs.Ytpckkkcaffhhnaa.P

-- made by printx.py (own driver over the kit's print); Lean checks it
namespace Go.Proofs.Ytpckkkcaffhhnaa.P
open Go.RowKit Go.Proofs.YtpckkkcaffhhnaaW.PrintWords Go.Proofs.YtpckkkcaffhhnaaW.PrintLast Go.Proofs.YtpckkkcaffhhnaaW.PrintMore
attribute [local go_sem] max2_int min2_int max_two min_two max_three min_three max_four min_four   -- for this text's walks alone
set_option linter.unusedVariables false
set_option linter.unusedSimpArgs false

/-! ### spec_l3Strong: function 125 -/
def spec_l3Strong.l0 : Nat → List (List (S30)) → ByteArray → Int → Int → Option (Int)
  | 0, _, _, _, _ => none
  | k + 1, x0, x1, x5, x6 => if x6 < (x0.length : Int) then (if 0 ≤ x6 then ((spec_l2Find.f k (rd_L13 x0 x6) x1).bind fun t620 => (if t620 ≥ 0 then (if 0 ≤ t620 then (if t620 < ((rd_L13 x0 x6).length : Int) then (if ((rd_T30 (rd_L13 x0 x6) t620).f1 = true) then (spec_l3Strong.l0 k x0 x1 x5 (wrap64 (x6 + 1))) else (spec_l3Strong.l0 k x0 x1 (wrap64 (x5 + 1)) (wrap64 (x6 + 1)))) else (none)) else (none)) else (spec_l3Strong.l0 k x0 x1 x5 (wrap64 (x6 + 1))))) else (none)) else (some x5)
def spec_l3Strong.f (k : Nat) (l0 : List (List (S30))) (a1 : ByteArray) : Option (Int) := spec_l3Strong.l0 k l0 a1 0 0
set_option maxHeartbeats 8000000 in
set_option maxRecDepth 100000 in
theorem spec_l3Strong.calls (k : Nat) (A0 : Option Addr) (c0 : Nat) (l0 : List (List (S30))) (a1 : ByteArray) (r : Int) (w : World) (hr0 : Kd.C (Kd.slice 30 k30) w A0 l0.length l0) (hc0 : l0.length ≤ c0) (h : spec_l3Strong.f k l0 a1 = some r) :
    Calls Try.prog 125 #[.slice A0 l0.length c0, .string a1] w fun e w' => e = .returned (.int .i64 r) ∧ Drawn0 w w' := by
  have HR0 := Aside0.mk hr0
  have HC0 := Aside0.mk hc0
  clear hr0 hc0
  have H : (spec_l3Strong.l0 k l0 a1 0 0) = some r := h
  clear h
  have H' := Aside0.mk H
  clear H
  go_enter Try.func125, Try.ntmps125
  go_wp2
  go_loopg [5, 6] k (fun kq v5 v6 w' => ∃ (x5_1 : Int) (x6_1 : Int), v5 = .int .i64 x5_1 ∧ v6 = .int .i64 x6_1 ∧ Aside0 (spec_l3Strong.l0 kq l0 a1 x5_1 x6_1 = some r) ∧ Aside0 (kq ≤ k) ∧ Drawn0 w w')
  case atStart => exact ⟨(0), (0), (by first | rfl | (simp; done) | (simp [*]; done)), (by first | rfl | (simp; done) | (simp [*]; done)), H', ⟨Nat.le_refl _⟩, by repeat (first | exact Drawn0.refl _ | apply Drawn0.step)⟩
  case round =>
    clear H'
    try clear c1
    try clear p2
    obtain ⟨x5_1, x6_1, rfl, rfl, HA, HK1, ⟨m1, rfl⟩⟩ := hrel
    cases gk with
    | zero => exact absurd HA.out (by simp [spec_l3Strong.l0])
    | succ k1 =>
      have H := HA.out
      clear HA
      simp only [spec_l3Strong.l0] at H
      by_cases c3 : x6_1 < (l0.length : Int)
      · rw [if_pos c3] at H
        have c3b0 : decide (x6_1 < (l0.length : Int)) = true := decide_eq_true c3
        clear c3
        by_cases c4 : 0 ≤ x6_1
        · rw [if_pos c4] at H
          have c4b0 : decide (0 ≤ x6_1) = true := decide_eq_true c4
          clear c4
          replace H := Option.bind_eq_some_iff.mp H
          obtain ⟨t620, A50, H⟩ := H
          replace H : (if t620 ≥ 0 then (if 0 ≤ t620 then (if t620 < ((rd_L13 l0 x6_1).length : Int) then (if ((rd_T30 (rd_L13 l0 x6_1) t620).f1 = true) then (spec_l3Strong.l0 k1 l0 a1 x5_1 (wrap64 (x6_1 + 1))) else (spec_l3Strong.l0 k1 l0 a1 (wrap64 (x5_1 + 1)) (wrap64 (x6_1 + 1)))) else (none)) else (none)) else (spec_l3Strong.l0 k1 l0 a1 x5_1 (wrap64 (x6_1 + 1)))) = some r := H
          have A5 := Aside0.mk A50
          clear A50
          by_cases c6 : t620 ≥ 0
          · rw [if_pos c6] at H
            have c6b0 : decide (0 ≤ t620) = true := decide_eq_true c6
            clear c6
            by_cases c7 : 0 ≤ t620
            · rw [if_pos c7] at H
              have c7b0 : decide (0 ≤ t620) = true := decide_eq_true c7
              clear c7
              by_cases c8 : t620 < ((rd_L13 l0 x6_1).length : Int)
              · rw [if_pos c8] at H
                have c8b0 : decide (t620 < ((rd_L13 l0 x6_1).length : Int)) = true := decide_eq_true c8
                clear c8
                obtain ⟨bq9, hbq9⟩ : ∃ b_ : Bool, b_ = ((rd_T30 (rd_L13 l0 x6_1) t620).f1) := ⟨_, rfl⟩
                replace H : (if (bq9 = true) then (spec_l3Strong.l0 k1 l0 a1 x5_1 (wrap64 (x6_1 + 1))) else (spec_l3Strong.l0 k1 l0 a1 (wrap64 (x5_1 + 1)) (wrap64 (x6_1 + 1)))) = some r := by rw [← hbq9] at H; exact H
                have Nbq9 := Aside0.mk hbq9
                clear hbq9
                by_cases c10 : (bq9 = true)
                · subst c10
                  have H1 : (spec_l3Strong.l0 k1 l0 a1 x5_1 (wrap64 (x6_1 + 1))) = some r := by rw [if_pos rfl] at H; exact H
                  clear H
                  have H := H1
                  clear H1
                  have H' := Aside0.mk H
                  clear H
                  have p619 : 0 ≤ (x6_1 : Int) := of_decide_eq_true (by first | (with_reducible assumption) | assumption)
                  have q619 : x6_1 < (l0.length : Int) := of_decide_eq_true (by first | (with_reducible assumption) | assumption)
                  obtain ⟨ad619, A619_0, c619_0, e619, hx619_0, hl619_0, hi619_0⟩ := at_L13 HR0.out x6_1 p619 q619
                  cases e619
                  have HR619_0 := Aside0.mk hi619_0
                  have HC619_0 := Aside0.mk hl619_0
                  clear hi619_0 hl619_0
                  replace p619 := eq_true p619
                  replace q619 := eq_true q619
                  go_wp2_with (first | ((with_reducible refine gate_callee (f := 66) rfl ?_); refine goesL_ (some 19) rfl rfl Try.func66 (by kernel_rfl) rfl #[.slice A619_0 (rd_L13 l0 x6_1).length c619_0, .string a1] rfl (by (try simp only [List.map_toArray, List.map_cons, List.map_nil]); first | done | rfl | (simp only [List.length_drop, List.length_take]; rfl)) ?_; (with_reducible refine (spec_l2Find.calls k1 _ _ (rd_L13 l0 x6_1) a1 t620 _ ?side1 ?side2 A5.out).mono ?_); (case side1 => repeat (first | exact HR619_0.out | (with_reducible refine Kd.C_alloc ?_ _) | (with_reducible refine Kd.C_drewN ?_ _) | (with_reducible refine Kd.C_drew ?_))); (case side2 => exact HC619_0.out); rintro e w' ⟨rfl, ⟨nd, rfl⟩⟩; refine ⟨_, rfl, ?_⟩; have p621 : 0 ≤ (x6_1 : Int) := of_decide_eq_true (by first | (with_reducible assumption) | assumption); have q621 : x6_1 < (l0.length : Int) := of_decide_eq_true (by first | (with_reducible assumption) | assumption); obtain ⟨ad621, A621_0, c621_0, e621, hx621_0, hl621_0, hi621_0⟩ := at_L13 HR0.out x6_1 p621 q621; obtain rfl : ad619 = ad621 := (by injection e621); have HR621_0 := Aside0.mk hi621_0; have HC621_0 := Aside0.mk hl621_0; clear hi621_0 hl621_0; replace p621 := eq_true p621; replace q621 := eq_true q621; have ea_ := Option.some.inj (hx619_0.symm.trans hx621_0); injection ea_ with ea_ en_ ec_; subst ea_; subst ec_; clear en_; have p622 : 0 ≤ (t620 : Int) := of_decide_eq_true (by first | (with_reducible assumption) | assumption); have q622 : t620 < ((rd_L13 l0 x6_1).length : Int) := of_decide_eq_true (by first | (with_reducible assumption) | assumption); obtain ⟨ad622, A622_2, c622_2, e622, hx622_0, hx622_1, hx622_2, hl622_2, hi622_2⟩ := at_T30 HR621_0.out t620 p622 q622; (try rw [← Nbq9.out] at hx622_1); cases e622; have HR622_2 := Aside0.mk hi622_2; have HC622_2 := Aside0.mk hl622_2; clear hi622_2 hl622_2; replace p622 := eq_true p622; replace q622 := eq_true q622))
                  go_roundg k1
                  case measure => have := HK1.out; omega
                  case rel => exact ⟨(x5_1), (wrap64 (x6_1 + 1)), (by first | rfl | (simp; done) | (simp [*]; done)), (by first | rfl | (simp; done) | (simp [*]; done)), H', ⟨by have := HK1.out; omega⟩, by repeat (first | exact Drawn0.refl _ | apply Drawn0.step)⟩
                · replace c10 := Bool.eq_false_iff.mpr c10
                  subst c10
                  have H1 : (spec_l3Strong.l0 k1 l0 a1 (wrap64 (x5_1 + 1)) (wrap64 (x6_1 + 1))) = some r := by rw [if_neg (show ¬ (false = true) by decide)] at H; exact H
                  clear H
                  have H := H1
                  clear H1
                  have H' := Aside0.mk H
                  clear H
                  have p619 : 0 ≤ (x6_1 : Int) := of_decide_eq_true (by first | (with_reducible assumption) | assumption)
                  have q619 : x6_1 < (l0.length : Int) := of_decide_eq_true (by first | (with_reducible assumption) | assumption)
                  obtain ⟨ad619, A619_0, c619_0, e619, hx619_0, hl619_0, hi619_0⟩ := at_L13 HR0.out x6_1 p619 q619
                  cases e619
                  have HR619_0 := Aside0.mk hi619_0
                  have HC619_0 := Aside0.mk hl619_0
                  clear hi619_0 hl619_0
                  replace p619 := eq_true p619
                  replace q619 := eq_true q619
                  go_wp2_with (first | ((with_reducible refine gate_callee (f := 66) rfl ?_); refine goesL_ (some 19) rfl rfl Try.func66 (by kernel_rfl) rfl #[.slice A619_0 (rd_L13 l0 x6_1).length c619_0, .string a1] rfl (by (try simp only [List.map_toArray, List.map_cons, List.map_nil]); first | done | rfl | (simp only [List.length_drop, List.length_take]; rfl)) ?_; (with_reducible refine (spec_l2Find.calls k1 _ _ (rd_L13 l0 x6_1) a1 t620 _ ?side1 ?side2 A5.out).mono ?_); (case side1 => repeat (first | exact HR619_0.out | (with_reducible refine Kd.C_alloc ?_ _) | (with_reducible refine Kd.C_drewN ?_ _) | (with_reducible refine Kd.C_drew ?_))); (case side2 => exact HC619_0.out); rintro e w' ⟨rfl, ⟨nd, rfl⟩⟩; refine ⟨_, rfl, ?_⟩; have p621 : 0 ≤ (x6_1 : Int) := of_decide_eq_true (by first | (with_reducible assumption) | assumption); have q621 : x6_1 < (l0.length : Int) := of_decide_eq_true (by first | (with_reducible assumption) | assumption); obtain ⟨ad621, A621_0, c621_0, e621, hx621_0, hl621_0, hi621_0⟩ := at_L13 HR0.out x6_1 p621 q621; obtain rfl : ad619 = ad621 := (by injection e621); have HR621_0 := Aside0.mk hi621_0; have HC621_0 := Aside0.mk hl621_0; clear hi621_0 hl621_0; replace p621 := eq_true p621; replace q621 := eq_true q621; have ea_ := Option.some.inj (hx619_0.symm.trans hx621_0); injection ea_ with ea_ en_ ec_; subst ea_; subst ec_; clear en_; have p622 : 0 ≤ (t620 : Int) := of_decide_eq_true (by first | (with_reducible assumption) | assumption); have q622 : t620 < ((rd_L13 l0 x6_1).length : Int) := of_decide_eq_true (by first | (with_reducible assumption) | assumption); obtain ⟨ad622, A622_2, c622_2, e622, hx622_0, hx622_1, hx622_2, hl622_2, hi622_2⟩ := at_T30 HR621_0.out t620 p622 q622; (try rw [← Nbq9.out] at hx622_1); cases e622; have HR622_2 := Aside0.mk hi622_2; have HC622_2 := Aside0.mk hl622_2; clear hi622_2 hl622_2; replace p622 := eq_true p622; replace q622 := eq_true q622))
                  go_roundg k1
                  case measure => have := HK1.out; omega
                  case rel => exact ⟨(wrap64 (x5_1 + 1)), (wrap64 (x6_1 + 1)), (by first | rfl | (simp; done) | (simp [*]; done)), (by first | rfl | (simp; done) | (simp [*]; done)), H', ⟨by have := HK1.out; omega⟩, by repeat (first | exact Drawn0.refl _ | apply Drawn0.step)⟩
              · rw [if_neg c8] at H
                exact absurd H (by simp)
            · rw [if_neg c7] at H
              exact absurd H (by simp)
          · rw [if_neg c6] at H
            have c6b0 : decide (0 ≤ t620) = false := decide_eq_false c6
            clear c6
            have H' := Aside0.mk H
            clear H
            have p619 : 0 ≤ (x6_1 : Int) := of_decide_eq_true (by first | (with_reducible assumption) | assumption)
            have q619 : x6_1 < (l0.length : Int) := of_decide_eq_true (by first | (with_reducible assumption) | assumption)
            obtain ⟨ad619, A619_0, c619_0, e619, hx619_0, hl619_0, hi619_0⟩ := at_L13 HR0.out x6_1 p619 q619
            cases e619
            have HR619_0 := Aside0.mk hi619_0
            have HC619_0 := Aside0.mk hl619_0
            clear hi619_0 hl619_0
            replace p619 := eq_true p619
            replace q619 := eq_true q619
            go_wp2_with (first | ((with_reducible refine gate_callee (f := 66) rfl ?_); refine goesL_ (some 19) rfl rfl Try.func66 (by kernel_rfl) rfl #[.slice A619_0 (rd_L13 l0 x6_1).length c619_0, .string a1] rfl (by (try simp only [List.map_toArray, List.map_cons, List.map_nil]); first | done | rfl | (simp only [List.length_drop, List.length_take]; rfl)) ?_; (with_reducible refine (spec_l2Find.calls k1 _ _ (rd_L13 l0 x6_1) a1 t620 _ ?side1 ?side2 A5.out).mono ?_); (case side1 => repeat (first | exact HR619_0.out | (with_reducible refine Kd.C_alloc ?_ _) | (with_reducible refine Kd.C_drewN ?_ _) | (with_reducible refine Kd.C_drew ?_))); (case side2 => exact HC619_0.out); rintro e w' ⟨rfl, ⟨nd, rfl⟩⟩; refine ⟨_, rfl, ?_⟩))
            go_roundg k1
            case measure => have := HK1.out; omega
            case rel => exact ⟨(x5_1), (wrap64 (x6_1 + 1)), (by first | rfl | (simp; done) | (simp [*]; done)), (by first | rfl | (simp; done) | (simp [*]; done)), H', ⟨by have := HK1.out; omega⟩, by repeat (first | exact Drawn0.refl _ | apply Drawn0.step)⟩
        · rw [if_neg c4] at H
          exact absurd H (by simp)
      · rw [if_neg c3] at H
        have c3b0 : decide (x6_1 < (l0.length : Int)) = false := decide_eq_false c3
        clear c3
        obtain rfl := Option.some.inj H
        go_wp2
        go_ret
        exact ⟨by first | rfl | (simp; done) | (simp [*]; done), by repeat (first | exact Drawn0.refl _ | apply Drawn0.step)⟩

/-! ### spec_l3Two: function 88 -/
mutual
def spec_l3Two.l0 : Nat → List (List (S30)) → Int → Option (ByteArray × Bool)
  | 0, _, _ => none
  | k + 1, x0, x4 => if x4 < (x0.length : Int) then (spec_l3Two.l1 k x0 x4 0) else (some ((⟨#[]⟩ : ByteArray), false))
def spec_l3Two.l1 : Nat → List (List (S30)) → Int → Int → Option (ByteArray × Bool)
  | 0, _, _, _ => none
  | k + 1, x0, x4, x5 => if 0 ≤ x4 then (if x4 < (x0.length : Int) then (if x5 < ((rd_L13 x0 x4).length : Int) then (if 0 ≤ x5 then ((spec_l3Strong.f k x0 ((rd_T30 (rd_L13 x0 x4) x5).f0)).bind fun t626 => (if t626 > 1 then (some ((rd_T30 (rd_L13 x0 x4) x5).f0, true)) else (spec_l3Two.l1 k x0 x4 (wrap64 (x5 + 1))))) else (none)) else (spec_l3Two.l0 k x0 (wrap64 (x4 + 1)))) else (none)) else (none)
end
def spec_l3Two.f (k : Nat) (l0 : List (List (S30))) : Option (ByteArray × Bool) := spec_l3Two.l0 k l0 0
set_option maxHeartbeats 8000000 in
set_option maxRecDepth 100000 in
theorem spec_l3Two.calls (k : Nat) (A0 : Option Addr) (c0 : Nat) (l0 : List (List (S30))) (r1 : ByteArray) (r2 : Bool) (w : World) (hr0 : Kd.C (Kd.slice 30 k30) w A0 l0.length l0) (hc0 : l0.length ≤ c0) (h : spec_l3Two.f k l0 = some (r1, r2)) :
    Calls Try.prog 88 #[.slice A0 l0.length c0] w fun e w' => e = .returned (.tuple #[.string r1, .bool r2]) ∧ Drawn0 w w' := by
  have HR0 := Aside0.mk hr0
  have HC0 := Aside0.mk hc0
  clear hr0 hc0
  have H : (spec_l3Two.l0 k l0 0) = some (r1, r2) := h
  clear h
  have H' := Aside0.mk H
  clear H
  go_enter Try.func88, Try.ntmps88
  go_wp2
  go_loopg [4] k (fun kq v4 w' => ∃ (x4_1 : Int), v4 = .int .i64 x4_1 ∧ Aside0 (spec_l3Two.l0 kq l0 x4_1 = some (r1, r2)) ∧ Aside0 (kq ≤ k) ∧ Drawn0 w w')
  case atStart => exact ⟨(0), (by first | rfl | (simp; done) | (simp [*]; done)), H', ⟨Nat.le_refl _⟩, by repeat (first | exact Drawn0.refl _ | apply Drawn0.step)⟩
  case round =>
    clear H'
    obtain ⟨x4_1, rfl, HA, HK1, ⟨m1, rfl⟩⟩ := hrel
    cases gk with
    | zero => exact absurd HA.out (by simp [spec_l3Two.l0])
    | succ k1 =>
      have H := HA.out
      clear HA
      simp only [spec_l3Two.l0] at H
      by_cases c2 : x4_1 < (l0.length : Int)
      · rw [if_pos c2] at H
        have c2b0 : decide (x4_1 < (l0.length : Int)) = true := decide_eq_true c2
        clear c2
        have H' := Aside0.mk H
        clear H
        go_wp2
        go_loopg [5] k1 (fun kq v5 w' => ∃ (x5_2 : Int), v5 = .int .i64 x5_2 ∧ Aside0 (spec_l3Two.l1 kq l0 x4_1 x5_2 = some (r1, r2)) ∧ Aside0 (kq ≤ k1) ∧ Drawn0 w w')
        case atStart => exact ⟨(0), (by first | rfl | (simp; done) | (simp [*]; done)), H', ⟨Nat.le_refl _⟩, by repeat (first | exact Drawn0.refl _ | apply Drawn0.step)⟩
        case round =>
          clear H'
          try clear c2
          try clear c2b0
          try clear p2
          obtain ⟨x5_2, rfl, HA, HK2, ⟨m2, rfl⟩⟩ := hrel
          cases gk with
          | zero => exact absurd HA.out (by simp [spec_l3Two.l1])
          | succ k2 =>
            have H := HA.out
            clear HA
            simp only [spec_l3Two.l1] at H
            by_cases c3 : 0 ≤ x4_1
            · rw [if_pos c3] at H
              have c3b0 : decide (0 ≤ x4_1) = true := decide_eq_true c3
              clear c3
              by_cases c4 : x4_1 < (l0.length : Int)
              · rw [if_pos c4] at H
                have c4b0 : decide (x4_1 < (l0.length : Int)) = true := decide_eq_true c4
                clear c4
                by_cases c5 : x5_2 < ((rd_L13 l0 x4_1).length : Int)
                · rw [if_pos c5] at H
                  have c5b0 : decide (x5_2 < ((rd_L13 l0 x4_1).length : Int)) = true := decide_eq_true c5
                  clear c5
                  by_cases c6 : 0 ≤ x5_2
                  · rw [if_pos c6] at H
                    have c6b0 : decide (0 ≤ x5_2) = true := decide_eq_true c6
                    clear c6
                    replace H := Option.bind_eq_some_iff.mp H
                    obtain ⟨t626, A70, H⟩ := H
                    replace H : (if t626 > 1 then (some ((rd_T30 (rd_L13 l0 x4_1) x5_2).f0, true)) else (spec_l3Two.l1 k2 l0 x4_1 (wrap64 (x5_2 + 1)))) = some (r1, r2) := H
                    have A7 := Aside0.mk A70
                    clear A70
                    by_cases c8 : t626 > 1
                    · rw [if_pos c8] at H
                      have c8b0 : decide (1 < t626) = true := decide_eq_true c8
                      clear c8
                      simp only [Option.some.injEq, Prod.mk.injEq] at H
                      obtain ⟨rfl, rfl⟩ := H
                      have p623 : 0 ≤ (x4_1 : Int) := of_decide_eq_true (by first | (with_reducible assumption) | assumption)
                      have q623 : x4_1 < (l0.length : Int) := of_decide_eq_true (by first | (with_reducible assumption) | assumption)
                      obtain ⟨ad623, A623_0, c623_0, e623, hx623_0, hl623_0, hi623_0⟩ := at_L13 HR0.out x4_1 p623 q623
                      cases e623
                      have HR623_0 := Aside0.mk hi623_0
                      have HC623_0 := Aside0.mk hl623_0
                      clear hi623_0 hl623_0
                      replace p623 := eq_true p623
                      replace q623 := eq_true q623
                      have p624 : 0 ≤ (x4_1 : Int) := of_decide_eq_true (by first | (with_reducible assumption) | assumption)
                      have q624 : x4_1 < (l0.length : Int) := of_decide_eq_true (by first | (with_reducible assumption) | assumption)
                      obtain ⟨ad624, A624_0, c624_0, e624, hx624_0, hl624_0, hi624_0⟩ := at_L13 HR0.out x4_1 p624 q624
                      obtain rfl : ad623 = ad624 := (by injection e624)
                      have HR624_0 := Aside0.mk hi624_0
                      have HC624_0 := Aside0.mk hl624_0
                      clear hi624_0 hl624_0
                      replace p624 := eq_true p624
                      replace q624 := eq_true q624
                      have ea_ := Option.some.inj (hx623_0.symm.trans hx624_0)
                      injection ea_ with ea_ en_ ec_
                      subst ea_
                      subst ec_
                      clear en_
                      have p625 : 0 ≤ (x5_2 : Int) := of_decide_eq_true (by first | (with_reducible assumption) | assumption)
                      have q625 : x5_2 < ((rd_L13 l0 x4_1).length : Int) := of_decide_eq_true (by first | (with_reducible assumption) | assumption)
                      obtain ⟨ad625, A625_2, c625_2, e625, hx625_0, hx625_1, hx625_2, hl625_2, hi625_2⟩ := at_T30 HR624_0.out x5_2 p625 q625
                      cases e625
                      have HR625_2 := Aside0.mk hi625_2
                      have HC625_2 := Aside0.mk hl625_2
                      clear hi625_2 hl625_2
                      replace p625 := eq_true p625
                      replace q625 := eq_true q625
                      go_wp2_with (first | ((with_reducible refine gate_callee (f := 125) rfl ?_); refine goesL_ (some 30) rfl rfl Try.func125 (by kernel_rfl) rfl #[.slice (some ad623) l0.length c0, .string ((rd_T30 (rd_L13 l0 x4_1) x5_2).f0)] rfl (by (try simp only [List.map_toArray, List.map_cons, List.map_nil]); first | done | rfl | (simp only [List.length_drop, List.length_take]; rfl)) ?_; (with_reducible refine (spec_l3Strong.calls k2 _ _ l0 ((rd_T30 (rd_L13 l0 x4_1) x5_2).f0) t626 _ ?side1 ?side2 A7.out).mono ?_); (case side1 => repeat (first | exact HR0.out | (with_reducible refine Kd.C_alloc ?_ _) | (with_reducible refine Kd.C_drewN ?_ _) | (with_reducible refine Kd.C_drew ?_))); (case side2 => exact HC0.out); rintro e w' ⟨rfl, ⟨nd, rfl⟩⟩; refine ⟨_, rfl, ?_⟩; have p627 : 0 ≤ (x4_1 : Int) := of_decide_eq_true (by first | (with_reducible assumption) | assumption); have q627 : x4_1 < (l0.length : Int) := of_decide_eq_true (by first | (with_reducible assumption) | assumption); obtain ⟨ad627, A627_0, c627_0, e627, hx627_0, hl627_0, hi627_0⟩ := at_L13 HR0.out x4_1 p627 q627; obtain rfl : ad623 = ad627 := (by injection e627); have HR627_0 := Aside0.mk hi627_0; have HC627_0 := Aside0.mk hl627_0; clear hi627_0 hl627_0; replace p627 := eq_true p627; replace q627 := eq_true q627; have ea_ := Option.some.inj (hx623_0.symm.trans hx627_0); injection ea_ with ea_ en_ ec_; subst ea_; subst ec_; clear en_; have p628 : 0 ≤ (x5_2 : Int) := of_decide_eq_true (by first | (with_reducible assumption) | assumption); have q628 : x5_2 < ((rd_L13 l0 x4_1).length : Int) := of_decide_eq_true (by first | (with_reducible assumption) | assumption); obtain ⟨ad628, A628_2, c628_2, e628, hx628_0, hx628_1, hx628_2, hl628_2, hi628_2⟩ := at_T30 HR627_0.out x5_2 p628 q628; cases e628; have HR628_2 := Aside0.mk hi628_2; have HC628_2 := Aside0.mk hl628_2; clear hi628_2 hl628_2; replace p628 := eq_true p628; replace q628 := eq_true q628))
                      go_ret2
                      exact ⟨by first | rfl | (simp; done) | (simp [*]; done), by repeat (first | exact Drawn0.refl _ | apply Drawn0.step)⟩
                    · rw [if_neg c8] at H
                      have c8b0 : decide (1 < t626) = false := decide_eq_false c8
                      clear c8
                      have H' := Aside0.mk H
                      clear H
                      have p623 : 0 ≤ (x4_1 : Int) := of_decide_eq_true (by first | (with_reducible assumption) | assumption)
                      have q623 : x4_1 < (l0.length : Int) := of_decide_eq_true (by first | (with_reducible assumption) | assumption)
                      obtain ⟨ad623, A623_0, c623_0, e623, hx623_0, hl623_0, hi623_0⟩ := at_L13 HR0.out x4_1 p623 q623
                      cases e623
                      have HR623_0 := Aside0.mk hi623_0
                      have HC623_0 := Aside0.mk hl623_0
                      clear hi623_0 hl623_0
                      replace p623 := eq_true p623
                      replace q623 := eq_true q623
                      have p624 : 0 ≤ (x4_1 : Int) := of_decide_eq_true (by first | (with_reducible assumption) | assumption)
                      have q624 : x4_1 < (l0.length : Int) := of_decide_eq_true (by first | (with_reducible assumption) | assumption)
                      obtain ⟨ad624, A624_0, c624_0, e624, hx624_0, hl624_0, hi624_0⟩ := at_L13 HR0.out x4_1 p624 q624
                      obtain rfl : ad623 = ad624 := (by injection e624)
                      have HR624_0 := Aside0.mk hi624_0
                      have HC624_0 := Aside0.mk hl624_0
                      clear hi624_0 hl624_0
                      replace p624 := eq_true p624
                      replace q624 := eq_true q624
                      have ea_ := Option.some.inj (hx623_0.symm.trans hx624_0)
                      injection ea_ with ea_ en_ ec_
                      subst ea_
                      subst ec_
                      clear en_
                      have p625 : 0 ≤ (x5_2 : Int) := of_decide_eq_true (by first | (with_reducible assumption) | assumption)
                      have q625 : x5_2 < ((rd_L13 l0 x4_1).length : Int) := of_decide_eq_true (by first | (with_reducible assumption) | assumption)
                      obtain ⟨ad625, A625_2, c625_2, e625, hx625_0, hx625_1, hx625_2, hl625_2, hi625_2⟩ := at_T30 HR624_0.out x5_2 p625 q625
                      cases e625
                      have HR625_2 := Aside0.mk hi625_2
                      have HC625_2 := Aside0.mk hl625_2
                      clear hi625_2 hl625_2
                      replace p625 := eq_true p625
                      replace q625 := eq_true q625
                      go_wp2_with (first | ((with_reducible refine gate_callee (f := 125) rfl ?_); refine goesL_ (some 30) rfl rfl Try.func125 (by kernel_rfl) rfl #[.slice (some ad623) l0.length c0, .string ((rd_T30 (rd_L13 l0 x4_1) x5_2).f0)] rfl (by (try simp only [List.map_toArray, List.map_cons, List.map_nil]); first | done | rfl | (simp only [List.length_drop, List.length_take]; rfl)) ?_; (with_reducible refine (spec_l3Strong.calls k2 _ _ l0 ((rd_T30 (rd_L13 l0 x4_1) x5_2).f0) t626 _ ?side1 ?side2 A7.out).mono ?_); (case side1 => repeat (first | exact HR0.out | (with_reducible refine Kd.C_alloc ?_ _) | (with_reducible refine Kd.C_drewN ?_ _) | (with_reducible refine Kd.C_drew ?_))); (case side2 => exact HC0.out); rintro e w' ⟨rfl, ⟨nd, rfl⟩⟩; refine ⟨_, rfl, ?_⟩))
                      go_roundg k2
                      case measure => have := HK1.out; have := HK2.out; omega
                      case rel => exact ⟨(wrap64 (x5_2 + 1)), (by first | rfl | (simp; done) | (simp [*]; done)), H', ⟨by have := HK1.out; have := HK2.out; omega⟩, by repeat (first | exact Drawn0.refl _ | apply Drawn0.step)⟩
                  · rw [if_neg c6] at H
                    exact absurd H (by simp)
                · rw [if_neg c5] at H
                  have c5b0 : decide (x5_2 < ((rd_L13 l0 x4_1).length : Int)) = false := decide_eq_false c5
                  clear c5
                  have H' := Aside0.mk H
                  clear H
                  have p623 : 0 ≤ (x4_1 : Int) := of_decide_eq_true (by first | (with_reducible assumption) | assumption)
                  have q623 : x4_1 < (l0.length : Int) := of_decide_eq_true (by first | (with_reducible assumption) | assumption)
                  obtain ⟨ad623, A623_0, c623_0, e623, hx623_0, hl623_0, hi623_0⟩ := at_L13 HR0.out x4_1 p623 q623
                  cases e623
                  have HR623_0 := Aside0.mk hi623_0
                  have HC623_0 := Aside0.mk hl623_0
                  clear hi623_0 hl623_0
                  replace p623 := eq_true p623
                  replace q623 := eq_true q623
                  go_wp2
                  go_roundg k2
                  case measure => have := HK1.out; have := HK2.out; omega
                  case rel => exact ⟨(wrap64 (x4_1 + 1)), (by first | rfl | (simp; done) | (simp [*]; done)), H', ⟨by have := HK1.out; have := HK2.out; omega⟩, by repeat (first | exact Drawn0.refl _ | apply Drawn0.step)⟩
              · rw [if_neg c4] at H
                exact absurd H (by simp)
            · rw [if_neg c3] at H
              exact absurd H (by simp)
      · rw [if_neg c2] at H
        have c2b0 : decide (x4_1 < (l0.length : Int)) = false := decide_eq_false c2
        clear c2
        simp only [Option.some.injEq, Prod.mk.injEq] at H
        obtain ⟨rfl, rfl⟩ := H
        go_wp2
        go_ret2
        exact ⟨by first | rfl | (simp; done) | (simp [*]; done), by repeat (first | exact Drawn0.refl _ | apply Drawn0.step)⟩

/-! ### spec_PickTwo: function 35 -/
def spec_PickTwo.f (k : Nat) (l0 : List (List (S30))) : Option (ByteArray × Bool) := (spec_l3Ok.f k l0 8).bind fun t629 => (if t629 = true then ((spec_l3Two.f k l0).bind fun bt630 => (some (bt630.1, bt630.2))) else (some ((⟨#[]⟩ : ByteArray), false)))
set_option maxHeartbeats 8000000 in
set_option maxRecDepth 100000 in
theorem spec_PickTwo.calls (k : Nat) (A0 : Option Addr) (c0 : Nat) (l0 : List (List (S30))) (r1 : ByteArray) (r2 : Bool) (w : World) (hr0 : Kd.C (Kd.slice 30 k30) w A0 l0.length l0) (hc0 : l0.length ≤ c0) (h : spec_PickTwo.f k l0 = some (r1, r2)) :
    Calls Try.prog 35 #[.slice A0 l0.length c0] w fun e w' => e = .returned (.tuple #[.string r1, .bool r2]) ∧ Below w.heap.size w w' := by
  have HR0 := Aside0.mk hr0
  have HC0 := Aside0.mk hc0
  clear hr0 hc0
  have HB := Aside0.mk (Below.refl w.heap.size w)
  have H : ((spec_l3Ok.f k l0 8).bind fun t629 => (if t629 = true then ((spec_l3Two.f k l0).bind fun bt630 => (some (bt630.1, bt630.2))) else (some ((⟨#[]⟩ : ByteArray), false)))) = some (r1, r2) := h
  clear h
  replace H := Option.bind_eq_some_iff.mp H
  obtain ⟨t629, A20, H⟩ := H
  replace H : (if t629 = true then ((spec_l3Two.f k l0).bind fun bt630 => (some (bt630.1, bt630.2))) else (some ((⟨#[]⟩ : ByteArray), false))) = some (r1, r2) := H
  have A2 := Aside0.mk A20
  clear A20
  by_cases c3 : t629 = true
  · subst c3
    have H1 : ((spec_l3Two.f k l0).bind fun bt630 => (some (bt630.1, bt630.2))) = some (r1, r2) := by rw [if_pos rfl] at H; exact H
    clear H
    have H := H1
    clear H1
    replace H := Option.bind_eq_some_iff.mp H
    obtain ⟨⟨t630, t631⟩, A40, H⟩ := H
    replace H : (some (t630, t631)) = some (r1, r2) := H
    have A4 := Aside0.mk A40
    clear A40
    simp only [Option.some.injEq, Prod.mk.injEq] at H
    obtain ⟨rfl, rfl⟩ := H
    go_enter Try.func35, Try.ntmps35
    go_wp2_with (first | ((with_reducible refine gate_callee (f := 84) rfl ?_); refine goesL_ (some 5) rfl rfl Try.func84 (by kernel_rfl) rfl #[.slice A0 l0.length c0, .int .i64 8] rfl (by (try simp only [List.map_toArray, List.map_cons, List.map_nil]); first | done | rfl | (simp only [List.length_drop, List.length_take]; rfl)) ?_; (with_reducible refine (spec_l3Ok.calls k _ _ l0 8 true _ ?side1 ?side2 A2.out).mono ?_); (case side1 => repeat (first | exact HR0.out | (with_reducible refine Kd.C_alloc ?_ _) | (with_reducible refine Kd.C_drewN ?_ _) | (with_reducible refine Kd.C_drew ?_))); (case side2 => exact HC0.out); rintro e w5 ⟨rfl, hb⟩; refine ⟨_, rfl, ?_⟩; have n0_ := Aside0.mk (below_step (by repeat (first | (with_reducible first | exact HB.out | apply below_alloc | apply pw_below_drewN | apply below_drew1) | exact HB.out)) hb); clear HB; have HB := n0_; clear n0_; (try clear hb); (try clear hb2); (try clear hk); (try clear hi)) | ((with_reducible refine gate_callee (f := 88) rfl ?_); refine goesL_ (some 8) rfl rfl Try.func88 (by kernel_rfl) rfl #[.slice A0 l0.length c0] rfl (by (try simp only [List.map_toArray, List.map_cons, List.map_nil]); first | done | rfl | (simp only [List.length_drop, List.length_take]; rfl)) ?_; (with_reducible refine (spec_l3Two.calls k _ _ l0 t630 t631 _ ?side1 ?side2 A4.out).mono ?_); (case side1 => repeat (first | exact (Kd.C_below HR0.out HB.out) | (with_reducible refine Kd.C_alloc ?_ _) | (with_reducible refine Kd.C_drewN ?_ _) | (with_reducible refine Kd.C_drew ?_))); (case side2 => exact HC0.out); rintro e w' ⟨rfl, ⟨nd, rfl⟩⟩; refine ⟨_, rfl, ?_⟩))
    go_ret2
    exact ⟨by first | rfl | (simp [errW_none, errW_some] <;> rfl) | (simp [*, errW_none, errW_some] <;> rfl), by repeat (first | (with_reducible first | exact HB.out | apply below_alloc | apply pw_below_drewN | apply below_drew1) | exact HB.out)⟩
  · replace c3 := Bool.eq_false_iff.mpr c3
    subst c3
    have H1 : (some ((⟨#[]⟩ : ByteArray), false)) = some (r1, r2) := by rw [if_neg (show ¬ (false = true) by decide)] at H; exact H
    clear H
    have H := H1
    clear H1
    simp only [Option.some.injEq, Prod.mk.injEq] at H
    obtain ⟨rfl, rfl⟩ := H
    go_enter Try.func35, Try.ntmps35
    go_wp2_with (first | ((with_reducible refine gate_callee (f := 84) rfl ?_); refine goesL_ (some 5) rfl rfl Try.func84 (by kernel_rfl) rfl #[.slice A0 l0.length c0, .int .i64 8] rfl (by (try simp only [List.map_toArray, List.map_cons, List.map_nil]); first | done | rfl | (simp only [List.length_drop, List.length_take]; rfl)) ?_; (with_reducible refine (spec_l3Ok.calls k _ _ l0 8 false _ ?side1 ?side2 A2.out).mono ?_); (case side1 => repeat (first | exact HR0.out | (with_reducible refine Kd.C_alloc ?_ _) | (with_reducible refine Kd.C_drewN ?_ _) | (with_reducible refine Kd.C_drew ?_))); (case side2 => exact HC0.out); rintro e w6 ⟨rfl, hb⟩; refine ⟨_, rfl, ?_⟩; have n0_ := Aside0.mk (below_step (by repeat (first | (with_reducible first | exact HB.out | apply below_alloc | apply pw_below_drewN | apply below_drew1) | exact HB.out)) hb); clear HB; have HB := n0_; clear n0_; (try clear hb); (try clear hb2); (try clear hk); (try clear hi)))
    go_ret2
    exact ⟨by first | rfl | (simp [errW_none, errW_some] <;> rfl) | (simp [*, errW_none, errW_some] <;> rfl), by repeat (first | (with_reducible first | exact HB.out | apply below_alloc | apply pw_below_drewN | apply below_drew1) | exact HB.out)⟩

end Go.Proofs.Ytpckkkcaffhhnaa.P

-- made by printx.py (own driver over the kit's print); Lean checks it
namespace Go.Proofs.Ytpckkkcaffhhnaa.P
open Go.RowKit Go.Proofs.YtpckkkcaffhhnaaW.PrintWords Go.Proofs.YtpckkkcaffhhnaaW.PrintLast Go.Proofs.YtpckkkcaffhhnaaW.PrintMore
attribute [local go_sem] max2_int min2_int max_two min_two max_three min_three max_four min_four   -- for this text's walks alone
set_option linter.unusedVariables false
set_option linter.unusedSimpArgs false

/-! ### impl_pick: function 83 -/
mutual
def impl_pick.l0 : Nat → List (List (S30)) → ByteArray → List Bool → Int → Int → Option (Int × Int × Bool)
  | 0, _, _, _, _, _ => none
  | k + 1, x0, x1, x12, x13, x14 => if x14 < x13 then (if 0 ≤ x14 then (if x14 < (x12.length : Int) then (impl_pick.l1 k x0 x1 (rdOf false x12 x14) x12 x13 x14 x0 (x0.length : Int) 0) else (none)) else (none)) else (some (0, 0, false))
def impl_pick.l1 : Nat → List (List (S30)) → ByteArray → Bool → List Bool → Int → Int → List (List (S30)) → Int → Int → Option (Int × Int × Bool)
  | 0, _, _, _, _, _, _, _, _, _ => none
  | k + 1, x0, x1, x8, x12, x13, x14, x18, x19, x20 => if x20 < x19 then (if 0 ≤ x20 then (if x20 < (x18.length : Int) then ((impl_find.f (rd_L13 x18 x20) x1).bind fun t519 => (if t519 ≥ 0 then (if 0 ≤ t519 then (if t519 < ((rd_L13 x18 x20).length : Int) then (if (((rd_T30 (rd_L13 x18 x20) t519).f1) == x8) = true then (some (x20, t519, true)) else (impl_pick.l1 k x0 x1 x8 x12 x13 x14 x18 x19 (wrap64 (x20 + 1)))) else (none)) else (none)) else (impl_pick.l1 k x0 x1 x8 x12 x13 x14 x18 x19 (wrap64 (x20 + 1))))) else (none)) else (none)) else (impl_pick.l0 k x0 x1 x12 x13 (wrap64 (x14 + 1)))
end
def impl_pick.f (k : Nat) (l0 : List (List (S30))) (a1 : ByteArray) : Option (Int × Int × Bool) := (some (([false, true] : List Bool) : List Bool)).bind fun y514 => (impl_pick.l0 k l0 a1 y514 (y514.length : Int) 0)
end Go.Proofs.Ytpckkkcaffhhnaa.P

-- made by printx.py (own driver over the kit's print); Lean checks it
namespace Go.Proofs.Ytpckkkcaffhhnaa.P
open Go.RowKit Go.Proofs.YtpckkkcaffhhnaaW.PrintWords Go.Proofs.YtpckkkcaffhhnaaW.PrintLast Go.Proofs.YtpckkkcaffhhnaaW.PrintMore
attribute [local go_sem] max2_int min2_int max_two min_two max_three min_three max_four min_four   -- for this text's walks alone
set_option linter.unusedVariables false
set_option linter.unusedSimpArgs false

/-! ### impl_PickAt: function 31 -/
def impl_PickAt.f (k : Nat) (l0 : List (List (S30))) (a1 : ByteArray) : Option (Int × Int × Bool) := (impl_unitsOk.f l0 8).bind fun t521 => (if t521 = true then ((impl_pick.f k l0 a1).bind fun bt522 => (some (bt522.1, bt522.2.1, bt522.2.2))) else (some (0, 0, false)))
end Go.Proofs.Ytpckkkcaffhhnaa.P

-- made by printx.py (own driver over the kit's print); Lean checks it
namespace Go.Proofs.Ytpckkkcaffhhnaa.P
open Go.RowKit Go.Proofs.YtpckkkcaffhhnaaW.PrintWords Go.Proofs.YtpckkkcaffhhnaaW.PrintLast Go.Proofs.YtpckkkcaffhhnaaW.PrintMore
attribute [local go_sem] max2_int min2_int max_two min_two max_three min_three max_four min_four   -- for this text's walks alone
set_option linter.unusedVariables false
set_option linter.unusedSimpArgs false

/-! ### spec_l3At: function 85 -/
def spec_l3At.l0 : Nat → List (List (S30)) → ByteArray → Int → Int → Int → Option (Int × Int × Bool)
  | 0, _, _, _, _, _ => none
  | k + 1, x0, x1, x7, x8, x9 => if x9 < (x0.length : Int) then (if 0 ≤ x9 then ((spec_l2Find.f k (rd_L13 x0 x9) x1).bind fun t528 => (if t528 < 0 then (spec_l3At.l0 k x0 x1 x7 x8 (wrap64 (x9 + 1))) else (if 0 ≤ t528 then (if t528 < ((rd_L13 x0 x9).length : Int) then (if ((rd_T30 (rd_L13 x0 x9) t528).f1 = true) then (if x7 < 0 then (spec_l3At.l0 k x0 x1 x9 t528 (wrap64 (x9 + 1))) else (spec_l3At.l0 k x0 x1 x7 x8 (wrap64 (x9 + 1)))) else (some (x9, t528, true))) else (none)) else (none)))) else (none)) else (if x7 < 0 then (some (0, 0, false)) else (some (x7, x8, true)))
def spec_l3At.f (k : Nat) (l0 : List (List (S30))) (a1 : ByteArray) : Option (Int × Int × Bool) := spec_l3At.l0 k l0 a1 (-1) (-1) 0
end Go.Proofs.Ytpckkkcaffhhnaa.P

-- made by printx.py (own driver over the kit's print); Lean checks it
namespace Go.Proofs.Ytpckkkcaffhhnaa.P
open Go.RowKit Go.Proofs.YtpckkkcaffhhnaaW.PrintWords Go.Proofs.YtpckkkcaffhhnaaW.PrintLast Go.Proofs.YtpckkkcaffhhnaaW.PrintMore
attribute [local go_sem] max2_int min2_int max_two min_two max_three min_three max_four min_four   -- for this text's walks alone
set_option linter.unusedVariables false
set_option linter.unusedSimpArgs false

/-! ### spec_PickAt: function 32 -/
def spec_PickAt.f (k : Nat) (l0 : List (List (S30))) (a1 : ByteArray) : Option (Int × Int × Bool) := (spec_l3Ok.f k l0 8).bind fun t531 => (if t531 = true then ((spec_l3At.f k l0 a1).bind fun bt532 => (some (bt532.1, bt532.2.1, bt532.2.2))) else (some (0, 0, false)))
end Go.Proofs.Ytpckkkcaffhhnaa.P

/- Loops over a list with a state, told once. -/
namespace Go.Proofs.Ytpckkkcaffhhnaa.L
open Go.RowKit Go.Proofs.YtpckkkcaffhhnaaW.PrintWords Go.Proofs.YtpckkkcaffhhnaaW.PrintLast Go.Proofs.YtpckkkcaffhhnaaW.PrintMore Go.Proofs.Ytpckkkcaffhhnaa.P
set_option linter.unusedVariables false
set_option linter.unusedSimpArgs false
/-- A walk over a list with a state, that may end early. -/
def runS {α σ β : Type} (f : Nat → α → σ → σ ⊕ β) (E : σ → β) : List α → Nat → σ → β
  | [], _, s => E s
  | x :: l, i, s => match f i x s with
    | .inl s' => runS f E l (i + 1) s'
    | .inr r => r
theorem loop_run {α σ β : Type} (f : Nat → α → σ → σ ⊕ β) (E : Nat → σ → β) (I : Nat → σ → Prop) (d : α) (l : List α) (hn : l.length ≤ 9223372036854775806) (L : Nat → σ → Int → β) (K : Nat)
    (hS : ∀ (k i : Nat) (s : σ), K ≤ k → i < l.length → I i s → L (k + 1) s (i : Int) = match f i (l.getD i d) s with | .inl s' => L k s' (wrap64 ((i : Int) + 1)) | .inr r => r)
    (hI : ∀ (i : Nat) (s s' : σ), i < l.length → I i s → f i (l.getD i d) s = .inl s' → I (i + 1) s')
    (hE : ∀ (k : Nat) (s : σ), K ≤ k → I l.length s → L (k + 1) s (l.length : Int) = E k s) (k : Nat) (hk : K + l.length < k) (s : σ) (h0 : I 0 s) : L k s 0 = runS f (E (k - l.length - 1)) l 0 s := by
  have key : ∀ (n k i : Nat) (s : σ), i + n = l.length → K + n < k → I i s → L k s (i : Int) = runS f (E (k - n - 1)) (l.drop i) i s := by
    intro n
    induction n with
    | zero =>
      intro k i s hi hk hs
      obtain ⟨k, rfl, _⟩ := succ_of hk
      have : i = l.length := by omega
      subst this
      rw [hE k s (by omega) hs, List.drop_length]
      rfl
    | succ n ih =>
      intro k i s hi hk hs
      obtain ⟨k, rfl, _⟩ := succ_of hk
      rw [hS k i s (by omega) (by omega) hs, drop_getD l d i (by omega)]
      simp only [runS]
      cases hf : f i (l.getD i d) s with
      | inr r => rfl
      | inl s' =>
        simp only
        rw [wrap_id (by omega) (by omega)]
        have h2 := ih k (i + 1) s' (by omega) (by omega) (hI i s s' (by omega) hs hf)
        rw [show k + 1 - (n + 1) - 1 = k - n - 1 by omega, ← h2]
        rfl
  have h := key l.length k 0 s (by omega) hk h0
  simpa using h
/-- A loop whose rounds hold loops: each takes up to c more rounds of fuel. -/
theorem loop_var {α σ β : Type} (f : Nat → α → σ → σ ⊕ β) (E : σ → β) (I : Nat → σ → Prop) (d : α) (l : List α) (hn : l.length ≤ 9223372036854775806) (L : Nat → σ → Int → β) (K c : Nat)
    (hS : ∀ (k i : Nat) (s : σ), K ≤ k → i < l.length → I i s → match f i (l.getD i d) s with
      | .inl s' => I (i + 1) s' ∧ ∃ k', k ≤ k' + c ∧ L (k + 1) s (i : Int) = L k' s' (wrap64 ((i : Int) + 1))
      | .inr r => L (k + 1) s (i : Int) = r)
    (hE : ∀ (k : Nat) (s : σ), K ≤ k → I l.length s → L (k + 1) s (l.length : Int) = E s) (k : Nat) (hk : K + l.length * (c + 1) < k) (s : σ) (h0 : I 0 s) : L k s 0 = runS f E l 0 s := by
  have key : ∀ (n k i : Nat) (s : σ), i + n = l.length → K + n * (c + 1) < k → I i s → L k s (i : Int) = runS f E (l.drop i) i s := by
    intro n
    induction n with
    | zero =>
      intro k i s hi hk hs
      obtain ⟨k, rfl, _⟩ := succ_of hk
      have : i = l.length := by omega
      subst this
      rw [hE k s (by omega) hs, List.drop_length]
      rfl
    | succ n ih =>
      intro k i s hi hk hs
      rw [Nat.succ_mul] at hk
      obtain ⟨k, rfl, _⟩ := succ_of hk
      have h := hS k i s (by omega) (by omega) hs
      rw [drop_getD l d i (by omega)]
      simp only [runS]
      cases hf : f i (l.getD i d) s with
      | inr r => rw [hf] at h; exact h
      | inl s' =>
        rw [hf] at h
        obtain ⟨h1, k', h2, h3⟩ := h
        simp only
        rw [h3, wrap_id (by omega) (by omega)]
        have h4 := ih k' (i + 1) s' (by omega) (by omega) h1
        rw [← h4]
        rfl
  have h := key l.length k 0 s (by omega) hk h0
  simpa using h
end Go.Proofs.Ytpckkkcaffhhnaa.L

/- What is taken for a name. -/
namespace Go.Proofs.Ytpckkkcaffhhnaa.L
open Go.RowKit Go.Proofs.YtpckkkcaffhhnaaW.PrintWords Go.Proofs.YtpckkkcaffhhnaaW.PrintLast Go.Proofs.YtpckkkcaffhhnaaW.PrintMore Go.Proofs.Ytpckkkcaffhhnaa.P
set_option linter.unusedVariables false
set_option linter.unusedSimpArgs false
abbrev UnitV := List S30
def weakAt (u : UnitV) (a : ByteArray) : Bool := (u.getD (findI u a).toNat z30).f1
theorem findI_lo (u : UnitV) (a : ByteArray) : -1 ≤ findI u a ∧ findI u a < u.length := by
  have := idxFrom_lo (named a) u 0 (by omega)
  unfold findI
  omega
/-- The first unit that has a function of that name, weak or not. -/
def hitS (b : Bool) (a : ByteArray) : List UnitV → Nat → Option (Nat × Int)
  | [], _ => none
  | u :: l, i => if 0 ≤ findI u a ∧ weakAt u a = b then some (i, findI u a) else hitS b a l (i + 1)
def pickV (l : List UnitV) (a : ByteArray) : Int × Int × Bool :=
  match hitS false a l 0 with
  | some p => ((p.1 : Int), p.2, true)
  | none => match hitS true a l 0 with
    | some p => ((p.1 : Int), p.2, true)
    | none => (0, 0, false)
def FitU (u : UnitV) : Prop := u.length ≤ 140737488351232 ∧ ∀ x ∈ u, FitF x
def unitsOkB (l : List UnitV) (n : Int) : Bool := decide ((l.length : Int) ≤ n) && !(l.any fun u => !unitOkB u)
theorem spec_l3Ok_f (l : List UnitV) (hn : l.length ≤ 9223372036854775806) (hl : ∀ u ∈ l, FitU u) (n : Int) (k : Nat) (hk : 500000000000000 + l.length < k) : spec_l3Ok.f k l n = some (unitsOkB l n) := by
  have e : unitsOkB l n = (allFrom (fun _ u => unitOkB u) l 0 && decide ((l.length : Int) ≤ n)) := by
    rw [allFrom_all, all_not_any]
    unfold unitsOkB
    rw [Bool.and_comm]
  rw [e]
  unfold spec_l3Ok.f
  refine loop_all (fun _ u => unitOkB u) [] l _ (by omega) (fun k i => spec_l3Ok.l0 k l n i) 500000000000000 ?_ ?_ ?_ k (by omega)
  · intro k i hK hi hq
    have hu := hl _ (getD_mem (d := []) hi)
    simp only [spec_l3Ok.l0]
    rw [if_pos (by omega), if_pos (by omega), spec_UnitOk_f (rd_L13 l (i : Int)) hu.1 hu.2 k hK]
    simp only [Option.bind_some]
    rw [show unitOkB (rd_L13 l (i : Int)) = true from hq, if_pos rfl]
  · intro k i hK hi hq
    have hu := hl _ (getD_mem (d := []) hi)
    simp only [spec_l3Ok.l0]
    rw [if_pos (by omega), if_pos (by omega), spec_UnitOk_f (rd_L13 l (i : Int)) hu.1 hu.2 k hK]
    simp only [Option.bind_some]
    rw [show unitOkB (rd_L13 l (i : Int)) = false from hq, if_neg (by decide)]
  · intro k _
    simp only [spec_l3Ok.l0]
    rw [if_neg (by omega)]
theorem impl_unitsOk_f (l : List UnitV) (hl : ∀ u ∈ l, FitU u) (n : Int) : impl_unitsOk.f l n = some (unitsOkB l n) := by
  unfold impl_unitsOk.f
  rw [if_pos (fun u hu => ⟨(hl u hu).1, fun x hx => (hl u hu).2 x hx⟩)]
  rfl
def pickAtV (l : List UnitV) (a : ByteArray) : Int × Int × Bool := if unitsOkB l 8 = true then pickV l a else (0, 0, false)
end Go.Proofs.Ytpckkkcaffhhnaa.L

/- How many strong functions have a name; the first name that more than one has. -/
namespace Go.Proofs.Ytpckkkcaffhhnaa.L
open Go.RowKit Go.Proofs.YtpckkkcaffhhnaaW.PrintWords Go.Proofs.YtpckkkcaffhhnaaW.PrintLast Go.Proofs.YtpckkkcaffhhnaaW.PrintMore Go.Proofs.Ytpckkkcaffhhnaa.P
set_option linter.unusedVariables false
set_option linter.unusedSimpArgs false
def strongStep (a : ByteArray) (u : UnitV) (s : Int) : Int := if 0 ≤ findI u a ∧ weakAt u a = false then s + 1 else s
def strongV (l : List UnitV) (a : ByteArray) : Int := l.foldl (fun s u => strongStep a u s) 0
theorem strongStep_le (a : ByteArray) (u : UnitV) (s : Int) : s ≤ strongStep a u s ∧ strongStep a u s ≤ s + 1 := by
  unfold strongStep
  split <;> omega
theorem runS_strong {β : Type} (a : ByteArray) (E : Int → β) : ∀ (l : List UnitV) (i : Nat) (s : Int), runS (fun _ u s => (.inl (strongStep a u s) : Int ⊕ β)) E l i s = E (l.foldl (fun s u => strongStep a u s) s)
  | [], _, s => rfl
  | u :: l, i, s => by simp only [runS, List.foldl]; exact runS_strong a E l (i + 1) _
theorem impl_strong_f (l : List UnitV) (hn : l.length ≤ 9223372036854775806) (hl : ∀ u ∈ l, u.length ≤ 9223372036854775806) (a : ByteArray) (k : Nat) (hk : l.length < k) : impl_strong.f k l a = some (strongV l a) := by
  unfold impl_strong.f strongV
  refine (loop_run (fun _ u s => (.inl (strongStep a u s) : Int ⊕ Option Int)) (fun _ s => some s) (fun i s => 0 ≤ s ∧ s ≤ i) [] l hn (fun k s i => impl_strong.l0 k a s l (l.length : Int) i) 0 ?_ ?_ ?_ k (by omega) 0 ⟨by omega, by omega⟩).trans (runS_strong a _ l 0 0)
  · intro k i s _ hi hs
    have hb := findI_lo (l.getD i []) a
    simp only [impl_strong.l0, impl_find.f]
    rw [if_pos (by omega), if_pos (by omega), if_pos (by omega)]
    simp only [Option.bind_some]
    have hw : wrap64 (s + 1) = s + 1 := wrap_id (by omega) (by omega)
    rw [hw]
    show (if findI (l.getD i []) a ≥ 0 then (if 0 ≤ findI (l.getD i []) a then (if findI (l.getD i []) a < ((l.getD i []).length : Int) then (if weakAt (l.getD i []) a = true then _ else _) else none) else none) else _) = impl_strong.l0 k a (strongStep a (l.getD i []) s) l (l.length : Int) (wrap64 ((i : Int) + 1))
    unfold strongStep
    by_cases h0 : 0 ≤ findI (l.getD i []) a
    · rw [if_pos h0, if_pos h0, if_pos (by omega)]
      cases hw : weakAt (l.getD i []) a with
      | true => rw [if_pos rfl, if_neg (fun h => absurd h.2 (by decide))]
      | false => rw [if_neg (by decide), if_pos ⟨h0, rfl⟩]
    · rw [if_neg h0, if_neg (fun h => h0 h.1)]
  · intro i s s' hi hs he
    cases he
    have := strongStep_le a (l.getD i []) s
    omega
  · intro k s _ _
    simp only [impl_strong.l0]
    rw [if_neg (by omega)]
theorem spec_l3Strong_f (l : List UnitV) (hn : l.length ≤ 9223372036854775806) (B : Nat) (hl : ∀ u ∈ l, u.length ≤ B) (hB : B ≤ 9223372036854775806) (a : ByteArray) (k : Nat) (hk : B + 1 + l.length < k) : spec_l3Strong.f k l a = some (strongV l a) := by
  unfold spec_l3Strong.f strongV
  refine (loop_run (fun _ u s => (.inl (strongStep a u s) : Int ⊕ Option Int)) (fun _ s => some s) (fun i s => 0 ≤ s ∧ s ≤ i) [] l hn (fun k s i => spec_l3Strong.l0 k l a s i) (B + 1) ?_ ?_ ?_ k (by omega) 0 ⟨by omega, by omega⟩).trans (runS_strong a _ l 0 0)
  · intro k i s hK hi hs
    have hb := findI_lo (l.getD i []) a
    have hu := hl _ (getD_mem (d := []) hi)
    simp only [spec_l3Strong.l0]
    rw [if_pos (by omega), if_pos (by omega), spec_l2Find_f (rd_L13 l (i : Int)) (Nat.le_trans hu (by omega)) a k (Nat.lt_of_le_of_lt hu (by omega))]
    simp only [Option.bind_some]
    have hw : wrap64 (s + 1) = s + 1 := wrap_id (by omega) (by omega)
    rw [hw]
    show (if findI (l.getD i []) a ≥ 0 then (if 0 ≤ findI (l.getD i []) a then (if findI (l.getD i []) a < ((l.getD i []).length : Int) then (if weakAt (l.getD i []) a = true then _ else _) else none) else none) else _) = spec_l3Strong.l0 k l a (strongStep a (l.getD i []) s) (wrap64 ((i : Int) + 1))
    unfold strongStep
    by_cases h0 : 0 ≤ findI (l.getD i []) a
    · rw [if_pos h0, if_pos h0, if_pos (by omega)]
      cases hw : weakAt (l.getD i []) a with
      | true => rw [if_pos rfl, if_neg (fun h => absurd h.2 (by decide))]
      | false => rw [if_neg (by decide), if_pos ⟨h0, rfl⟩]
    · rw [if_neg h0, if_neg (fun h => h0 h.1)]
  · intro i s s' hi hs he
    cases he
    have := strongStep_le a (l.getD i []) s
    omega
  · intro k s _ _
    simp only [spec_l3Strong.l0]
    rw [if_neg (by omega)]
def twice (l : List UnitV) (x : S30) : Bool := decide (strongV l x.f0 > 1)
def twoOut (o : Option S30) : ByteArray × Bool := match o with | some x => (x.f0, true) | none => (⟨#[]⟩, false)
def twoV (l : List UnitV) : ByteArray × Bool := twoOut (l.flatten.find? (twice l))
def pickTwoV (l : List UnitV) : ByteArray × Bool := if unitsOkB l 8 = true then twoV l else (⟨#[]⟩, false)
theorem unitsOk_bounds {l : List UnitV} (h : unitsOkB l 8 = true) : l.length ≤ 8 ∧ ∀ u ∈ l, u.length ≤ 5 := by
  unfold unitsOkB at h
  simp only [Bool.and_eq_true, decide_eq_true_eq, Bool.not_eq_true', List.any_eq_false] at h
  refine ⟨by omega, fun u hu => ?_⟩
  have h2 : unitOkB u = true := by
    have h3 := h.2 u hu
    revert h3
    cases unitOkB u <;> simp
  unfold unitOkB at h2
  simp only [Bool.and_eq_true, decide_eq_true_eq] at h2
  exact h2.2
theorem flatten_len : ∀ (l : List UnitV) (B : Nat), (∀ u ∈ l, u.length ≤ B) → l.flatten.length ≤ l.length * B
  | [], _, _ => by simp
  | u :: l, B, h => by
    have h1 := flatten_len l B (fun v hv => h v (List.mem_cons_of_mem _ hv))
    have h2 := h u (List.mem_cons_self ..)
    rw [List.flatten_cons, List.length_append, List.length_cons, Nat.succ_mul]
    omega
theorem runS_two {β : Type} (q : S30 → Bool) (F : S30 → β) (E : β) : ∀ (u : UnitV) (i : Nat), runS (fun _ x (_ : Unit) => if q x then (.inr (F x) : Unit ⊕ β) else .inl ()) (fun _ => E) u i () = match u.find? q with | some x => F x | none => E
  | [], _ => rfl
  | x :: u, i => by
    simp only [runS, List.find?]
    cases h : q x with
    | true => simp
    | false => simp only [Bool.false_eq_true, if_false]; exact runS_two q F E u (i + 1)
theorem runS_twos {β : Type} (q : S30 → Bool) (F : S30 → β) (E : β) : ∀ (l : List UnitV) (i : Nat), runS (fun _ (u : UnitV) (_ : Unit) => match u.find? q with | some x => (.inr (F x) : Unit ⊕ β) | none => .inl ()) (fun _ => E) l i () = match l.flatten.find? q with | some x => F x | none => E
  | [], _ => rfl
  | u :: l, i => by
    simp only [runS, List.flatten_cons, List.find?_append]
    cases h : u.find? q with
    | some x => rfl
    | none => simp only [Option.none_or]; exact runS_twos q F E l (i + 1)
theorem spec_l3Two_l1 (l : List UnitV) (hn : l.length ≤ 1000) (hl : ∀ u ∈ l, u.length ≤ 1000) (j : Nat) (hj : j < l.length) (k : Nat) (hk : 2100 + (l.getD j []).length < k) :
    spec_l3Two.l1 k l (j : Int) 0 = match (l.getD j []).find? (twice l) with | some x => some (x.f0, true) | none => spec_l3Two.l0 (k - (l.getD j []).length - 1) l (wrap64 ((j : Int) + 1)) := by
  have hu := hl _ (getD_mem (d := []) hj)
  refine (loop_run (fun _ x (_ : Unit) => if twice l x then (.inr (some (x.f0, true)) : Unit ⊕ Option (ByteArray × Bool)) else .inl ()) (fun k _ => spec_l3Two.l0 k l (wrap64 ((j : Int) + 1))) (fun _ _ => True) z30 (l.getD j []) (by omega) (fun k _ i => spec_l3Two.l1 k l (j : Int) i) 2100 ?_ (fun _ _ _ _ _ _ => trivial) ?_ k (by omega) () trivial).trans (runS_two (twice l) _ _ _ 0)
  · intro k i s hK hi _
    simp only [spec_l3Two.l1]
    rw [show rd_L13 l (j : Int) = l.getD j [] from rfl, show rd_T30 (l.getD j []) (i : Int) = (l.getD j []).getD i z30 from rfl]
    rw [if_pos (by omega), if_pos (by omega), if_pos (by omega), if_pos (by omega), spec_l3Strong_f l (by omega) 1000 hl (by omega) _ k (by omega)]
    simp only [Option.bind_some]
    unfold twice
    by_cases h : strongV l ((l.getD j []).getD i z30).f0 > 1
    · rw [if_pos h, if_pos (decide_eq_true h)]
    · rw [if_neg h, if_neg (by rw [decide_eq_false h]; decide)]
  · intro k s _ _
    simp only [spec_l3Two.l1]
    rw [show rd_L13 l (j : Int) = l.getD j [] from rfl]
    rw [if_pos (by omega), if_pos (by omega), if_neg (by omega)]
theorem spec_l3Two_f (l : List UnitV) (hn : l.length ≤ 1000) (hl : ∀ u ∈ l, u.length ≤ 1000) (k : Nat) (hk : 10000000 < k) : spec_l3Two.f k l = some (twoV l) := by
  unfold spec_l3Two.f
  refine (loop_var (fun _ (u : UnitV) (_ : Unit) => match u.find? (twice l) with | some x => (.inr (some (x.f0, true)) : Unit ⊕ Option (ByteArray × Bool)) | none => .inl ()) (fun _ => some ((⟨#[]⟩ : ByteArray), false)) (fun _ _ => True) [] l (by omega) (fun k _ i => spec_l3Two.l0 k l i) 5000 2000 ?_ ?_ k (by omega) () trivial).trans ?_
  · intro k i s hK hi _
    have hu := hl _ (getD_mem (d := []) hi)
    have e : spec_l3Two.l0 (k + 1) l (i : Int) = match (l.getD i []).find? (twice l) with | some x => some (x.f0, true) | none => spec_l3Two.l0 (k - (l.getD i []).length - 1) l (wrap64 ((i : Int) + 1)) := by
      simp only [spec_l3Two.l0]
      rw [if_pos (by omega), spec_l3Two_l1 l hn hl i hi k (by omega)]
    simp only [e]
    cases h : (l.getD i []).find? (twice l) with
    | some x => rfl
    | none => exact ⟨trivial, k - (l.getD i []).length - 1, by omega, rfl⟩
  · intro k s _ _
    simp only [spec_l3Two.l0]
    rw [if_neg (by omega)]
  · rw [runS_twos]
    unfold twoV twoOut
    cases l.flatten.find? (twice l) <;> rfl
theorem spec_PickTwo_f (l : List UnitV) (hn : l.length ≤ 9223372036854775806) (hl : ∀ u ∈ l, FitU u) (k : Nat) (hk : 500000000000000 + l.length < k) : spec_PickTwo.f k l = some (pickTwoV l) := by
  unfold spec_PickTwo.f pickTwoV
  rw [spec_l3Ok_f l hn hl 8 k hk]
  simp only [Option.bind_some]
  by_cases h : unitsOkB l 8 = true
  · obtain ⟨h1, h2⟩ := unitsOk_bounds h
    rw [if_pos h, if_pos h, spec_l3Two_f l (by omega) (fun u hu => by have := h2 u hu; omega) k (by omega)]
    rfl
  · rw [if_neg h, if_neg h]
end Go.Proofs.Ytpckkkcaffhhnaa.L

-- made by printx.py (own driver over the kit's print); Lean checks it
namespace Go.Proofs.Ytpckkkcaffhhnaa.P
open Go.RowKit Go.Proofs.YtpckkkcaffhhnaaW.PrintWords Go.Proofs.YtpckkkcaffhhnaaW.PrintLast Go.Proofs.YtpckkkcaffhhnaaW.PrintMore
attribute [local go_sem] max2_int min2_int max_two min_two max_three min_three max_four min_four   -- for this text's walks alone
set_option linter.unusedVariables false
set_option linter.unusedSimpArgs false

/-! ### impl_PickTwo: function 34 -/
-- IMPORT Derived.Test.YtpckkkcaffhhnaaLTwo
-- IMPORT Derived.Test.YtpckkkcaffhhnaaPxslicesConcatsimplFunimplFun
-- IMPORT Derived.Test.YtpckkkcaffhhnaaPximplunitsOk
open Go.Proofs.Ytpckkkcaffhhnaa.L in
/-- The first name that more than one strong function has. (Not told of what is too long for any argument.) -/
def impl_PickTwo.f (l0 : List (List S30)) : Option (ByteArray × Bool) := if (∀ u ∈ l0, u.length ≤ 140737488351232 ∧ ∀ x ∈ u, x.f0.size ≤ 140737488351232 ∧ x.f2.length ≤ 140737488351232 ∧ ∀ y ∈ x.f2, y.f2.size ≤ 140737488351232) then some (pickTwoV l0) else none
open Go.Proofs.Ytpckkkcaffhhnaa.L in
set_option maxHeartbeats 8000000 in
set_option maxRecDepth 100000 in
theorem impl_PickTwo.calls (A0 : Option Addr) (c0 : Nat) (l0 : List (List S30)) (r1 : ByteArray) (r2 : Bool) (w : World) (hr0 : Kd.C (Kd.slice 30 k30) w A0 l0.length l0) (hc0 : l0.length ≤ c0) (h : impl_PickTwo.f l0 = some (r1, r2)) :
    Calls Try.prog 34 #[.slice A0 l0.length c0] w fun e w' => e = .returned (.tuple #[.string r1, .bool r2]) ∧ Below w.heap.size w w' := by
  have hu30 := Try.underlying30
  unfold impl_PickTwo.f at h
  split at h
  case isFalse => exact absurd h (by simp)
  rename_i hf
  have hp := Option.some.inj h
  clear h
  have CU := Aside0.mk (impl_unitsOk.calls A0 c0 l0 8 (unitsOkB l0 8) w hr0 hc0 (impl_unitsOk_f l0 hf 8))
  have HR0 := Aside0.mk hr0
  have HC0 := Aside0.mk hc0
  have HN : l0.length ≤ 9223372036854775807 := hr0.2.1
  clear hr0 hc0 hf
  cases hq : unitsOkB l0 8 with
  | false =>
    rw [hq] at CU
    unfold pickTwoV at hp
    rw [hq, if_neg (by decide)] at hp
    injection hp with hp1 hp2
    subst hp1 hp2
    clear hq
    go_enter Try.func34, Try.ntmps34
    go_wp2_with (go_at_call 82; refine CU.out.mono ?_; rintro e w1 ⟨rfl, hb⟩)
    go_ret2
    exact ⟨rfl, hb⟩
  | true =>
    rw [hq] at CU
    obtain ⟨hb1, hb2⟩ := unitsOk_bounds hq
    unfold pickTwoV at hp
    rw [hq, if_pos rfl] at hp
    have hfl : l0.flatten.length ≤ 40 := by have := flatten_len l0 5 hb2; omega
    have CC := Aside0.mk (fun (W : World) (hb : Below w.heap.size w W) => concat_calls A0 c0 l0 W (Kd.C_below HR0.out hb) HC0.out (by omega))
    have CS := Aside0.mk (fun (a : ByteArray) => impl_strong_f l0 (by omega) (fun u hu => by have := hb2 u hu; omega) a 100 (by omega))
    unfold twoV at hp
    have HTW : Aside0 (∀ (x : S30) (b : Bool), twice l0 x = b → decide (strongV l0 x.f0 > 1) = b) := ⟨fun x b h => h⟩
    clear hb1 hb2 hq
    generalize l0.flatten = fl at hp CC hfl
    have HP := Aside0.mk hp
    have HFL := Aside0.mk hfl
    clear hp hfl
    go_enter Try.func34, Try.ntmps34
    go_wp2_with (first
      | (go_at_call 82; refine CU.out.mono ?_; rintro e w1 ⟨rfl, hb⟩; have HB1 := Aside0.mk hb; clear hb)
      | (go_at_call 86; refine (CC.out _ HB1.out).mono ?_; rintro e w2 ⟨A7, c7, rfl, hc7, hr7, hb⟩; have HB2 := Aside0.mk (below_step HB1.out hb); have HR7 := Aside0.mk hr7; clear hb hr7 hc7))
    go_loopg [12] fl.length (fun gq v12 wr => ∃ x12 : Int, v12 = .int .i64 x12 ∧ Aside0 (0 ≤ x12) ∧ Aside0 (x12 ≤ fl.length) ∧ Aside0 (fl.length - x12.toNat ≤ gq) ∧ Aside0 (twoOut ((fl.drop x12.toNat).find? (twice l0)) = (r1, r2)) ∧ Aside0 (Below w2.heap.size w2 wr))
    case atStart => exact ⟨0, rfl, ⟨by omega⟩, ⟨by omega⟩, ⟨by omega⟩, HP, ⟨Below.refl _ _⟩⟩
    case round =>
      obtain ⟨x12, rfl, H0, H1, HG, HD, HB⟩ := hrel
      by_cases hlt : x12 < (fl.length : Int)
      · have h0 := H0.out
        obtain ⟨ad, A2, c2, e, hx0, hx1, hx2, hl2, hi2⟩ := at_T30 HR7.out x12 h0 hlt
        cases e
        replace hx0 := (HB.out.cell (World.block_lt_of_cell? w2 _ hx0)).trans hx0
        replace hx1 := (HB.out.cell (World.block_lt_of_cell? w2 _ hx1)).trans hx1
        replace hx2 := (HB.out.cell (World.block_lt_of_cell? w2 _ hx2)).trans hx2
        clear hl2 hi2
        have hnat : x12.toNat < fl.length := by omega
        have hd := HD.out
        rw [drop_getD fl z30 x12.toNat hnat, List.find?_cons] at hd
        have HNT := Aside0.mk hnat
        have hli : decide (x12 < (fl.length : Int)) = true := decide_eq_true hlt
        have hl0 : decide (0 ≤ x12) = true := decide_eq_true h0
        have p5 := eq_true h0
        have q5 := eq_true hlt
        clear h0 hlt hnat HD
        have hgx : fl.getD x12.toNat z30 = rd_T30 fl x12 := rfl
        rw [hgx] at hd
        clear hgx
        generalize rd_T30 fl x12 = x at hx0 hx1 hx2 hd
        have HX := Aside0.mk hd
        clear hd
        have HS := Aside0.mk (CS.out x.f0)
        have hw13 : wrap64 (x12 + 1) = x12 + 1 := wrap_id (by have := H0.out; omega) (by have := HNT.out; have := HFL.out; omega)
        have HW := Aside0.mk hw13
        clear hw13
        cases ht : twice l0 x with
        | true =>
          rw [ht] at HX
          have HTX := Aside0.mk (HTW.out x true ht)
          have hx9 := HX.out
          simp only [twoOut] at hx9
          injection hx9 with e1 e2
          subst e1 e2
          clear ht HX
          generalize strongV l0 x.f0 = sv at HS HTX
          have hgt : decide (sv > 1) = true := HTX.out
          have hgt2 : decide (1 < sv) = true := HTX.out
          go_wp2_with (first
            | ((with_reducible refine gate_dst (N := 5) rfl ?_); refine box_event ?hg (N := 5) ?hd (cs := #[.string (⟨#[]⟩ : ByteArray), .bool false, .slice none 0 0]) (t := 30) ?hr ?_; (case hd => rfl); (case hg => rfl); (case hr => first | (go_simp; done) | (go_simp; rfl)); intro gb hg w6 hbox hb; have HB6 := Aside0.mk (below_step HB.out hb); have BK := Aside0.mk hbox; have GE := Aside0.mk (show wr.heap.size ≤ gb from by rw [hg]; exact Nat.le_refl _); have GW := Aside0.mk (show w2.heap.size ≤ gb from Nat.le_trans (below_size HB.out) GE.out); clear hb hbox hg; have hcz0 : w6.cell? ⟨gb, 0, none⟩ = some (.string (⟨#[]⟩ : ByteArray)) := (blk_cell BK.out 0).trans rfl; have hcz1 : w6.cell? ⟨gb, 1, none⟩ = some (.bool false) := (blk_cell BK.out 1).trans rfl; have hcz2 : w6.cell? ⟨gb, 2, none⟩ = some (.slice none 0 0) := (blk_cell BK.out 2).trans rfl; have hfz0 := blk_frozen BK.out 0; have hfz1 := blk_frozen BK.out 1; have hfz2 := blk_frozen BK.out 2)
            | (go_at_call 87; refine (impl_strong.calls 100 A0 c0 l0 x.f0 sv _ (Kd.C_below HR0.out (below_then HB2.out (below_size HB2.out) (below_set (below_set (below_set HB6.out GW.out) GW.out) GW.out))) HC0.out HS.out).mono ?_; rintro e w8 ⟨rfl, hb⟩; have BK8 := Aside0.mk (blk_below (g := gb) (o := .cells #[.string x.f0, .bool x.f1, .slice A2 x.f2.length c2] 30 (0, 0)) (blk_put (cs := #[.string x.f0, .bool x.f1, .slice none 0 0]) (blk_put (cs := #[.string x.f0, .bool false, .slice none 0 0]) (blk_put (cs := #[.string (⟨#[]⟩ : ByteArray), .bool false, .slice none 0 0]) BK.out 0 _ rfl) 1 _ rfl) 2 _ rfl) hb); have HB8 := Aside0.mk (below_step (below_set (below_set (below_set HB6.out GW.out) GW.out) GW.out) hb); clear hb; have hc80 : w8.cell? ⟨gb, 0, none⟩ = some (.string x.f0) := (blk_cell BK8.out 0).trans rfl))
          go_ret2
          exact ⟨rfl, below_then HB2.out (below_size HB2.out) HB8.out⟩
        | false =>
          rw [ht] at HX
          have HTX := Aside0.mk (HTW.out x false ht)
          have HY := Aside0.mk (show twoOut ((fl.drop (x12.toNat + 1)).find? (twice l0)) = (r1, r2) from HX.out)
          clear ht HX
          generalize strongV l0 x.f0 = sv at HS HTX
          have hgt : decide (sv > 1) = false := HTX.out
          have hgt2 : decide (1 < sv) = false := HTX.out
          go_wp2_with (first
            | ((with_reducible refine gate_dst (N := 5) rfl ?_); refine box_event ?hg (N := 5) ?hd (cs := #[.string (⟨#[]⟩ : ByteArray), .bool false, .slice none 0 0]) (t := 30) ?hr ?_; (case hd => rfl); (case hg => rfl); (case hr => first | (go_simp; done) | (go_simp; rfl)); intro gb hg w6 hbox hb; have HB6 := Aside0.mk (below_step HB.out hb); have BK := Aside0.mk hbox; have GE := Aside0.mk (show wr.heap.size ≤ gb from by rw [hg]; exact Nat.le_refl _); have GW := Aside0.mk (show w2.heap.size ≤ gb from Nat.le_trans (below_size HB.out) GE.out); clear hb hbox hg; have hcz0 : w6.cell? ⟨gb, 0, none⟩ = some (.string (⟨#[]⟩ : ByteArray)) := (blk_cell BK.out 0).trans rfl; have hcz1 : w6.cell? ⟨gb, 1, none⟩ = some (.bool false) := (blk_cell BK.out 1).trans rfl; have hcz2 : w6.cell? ⟨gb, 2, none⟩ = some (.slice none 0 0) := (blk_cell BK.out 2).trans rfl; have hfz0 := blk_frozen BK.out 0; have hfz1 := blk_frozen BK.out 1; have hfz2 := blk_frozen BK.out 2)
            | (go_at_call 87; refine (impl_strong.calls 100 A0 c0 l0 x.f0 sv _ (Kd.C_below HR0.out (below_then HB2.out (below_size HB2.out) (below_set (below_set (below_set HB6.out GW.out) GW.out) GW.out))) HC0.out HS.out).mono ?_; rintro e w8 ⟨rfl, hb⟩; have BK8 := Aside0.mk (blk_below (g := gb) (o := .cells #[.string x.f0, .bool x.f1, .slice A2 x.f2.length c2] 30 (0, 0)) (blk_put (cs := #[.string x.f0, .bool x.f1, .slice none 0 0]) (blk_put (cs := #[.string x.f0, .bool false, .slice none 0 0]) (blk_put (cs := #[.string (⟨#[]⟩ : ByteArray), .bool false, .slice none 0 0]) BK.out 0 _ rfl) 1 _ rfl) 2 _ rfl) hb); have HB8 := Aside0.mk (below_step (below_set (below_set (below_set HB6.out GW.out) GW.out) GW.out) hb); clear hb; have hc80 : w8.cell? ⟨gb, 0, none⟩ = some (.string x.f0) := (blk_cell BK8.out 0).trans rfl))
          go_roundg (fl.length - (x12.toNat + 1))
          case measure => have := HG.out; have := HNT.out; omega
          case rel =>
            have hn : (x12 + 1).toNat = x12.toNat + 1 := by have := H0.out; omega
            exact ⟨x12 + 1, by rw [HW.out], ⟨by have := H0.out; omega⟩, ⟨by have := HNT.out; omega⟩, ⟨by rw [hn]; omega⟩, ⟨by rw [hn]; exact HY.out⟩, HB8⟩
      · have hli : decide (x12 < (fl.length : Int)) = false := decide_eq_false hlt
        have e1 : fl.drop x12.toNat = [] := List.drop_eq_nil_of_le (by omega)
        have hd := HD.out
        rw [e1] at hd
        simp only [List.find?_nil, twoOut] at hd
        injection hd with e2 e3
        subst e2 e3
        clear e1 hlt HD
        go_wp2
        go_ret2
        exact ⟨rfl, below_then HB2.out (below_size HB2.out) HB.out⟩

end Go.Proofs.Ytpckkkcaffhhnaa.P
