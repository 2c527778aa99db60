-- PxslicesIndexFuncsimplSpotimplSpot, PxslicesContainsFuncsimplSpotimplSpot, PxslicesIndexFuncsintint, PxslicesContainsFuncsintint, PximplstateOk, PxspecKeepOk, LRun, PximplUnitOk, PximplUnitFind, PxspecUnitOk, LUnit, PximplFunRefs, LRefs, LLack, PximplMachOk: put together by squash.py
import Derived.Test.YtppmalfpggkpdaaSqFnExactMachOk3
import Derived.Test.YtppmalfpggkpdaaSqFnExactMachOk4
import Derived.Test.YtppmalfpggkpdaaSqFnExactMachOk5
import Derived.Test.YtppmalfpggkpdaaSqFnExactMachOk6
import Derived.Test.YtppmalfpggkpdaaSqFnExactMachOk7

-- made by printx.py (own driver over the kit's print); Lean checks it
namespace Go.Proofs.Ytppmalfpggkpdaa.P
open Go.RowKit Go.Proofs.YtppmalfpggkpdaaW.PrintWords Go.Proofs.YtppmalfpggkpdaaW.PrintLast Go.Proofs.YtppmalfpggkpdaaW.PrintMore
attribute [local go_sem] max2_int min2_int max_two min_two max_three min_three max_four min_four   -- for this text's walks alone
set_option linter.unusedVariables false
set_option linter.unusedSimpArgs false

/-! ### slices_IndexFunc_simpl_Spot_impl_Spot: function 149 -/
-- IMPORT Derived.Test.YtppmalfpggkpdaaLSeq
open Go.Proofs.Ytppmalfpggkpdaa.L in
set_option maxHeartbeats 4000000 in
set_option maxRecDepth 100000 in
theorem idxSpot_calls (A0 : Option Addr) (c0 : Nat) (l0 : List S68) (lb : Array Value) (p : S68 → Bool) (w : World) (hr0 : Kd.C k68 w A0 l0.length l0) (hc0 : l0.length ≤ c0)
    (hp : ∀ (W : World) (x : S68) , Below w.heap.size w W → x ∈ l0 → Calls Try.prog 104 ((#[.agg #[.int .i64 x.f0, .int .i64 x.f1]] : Array Value) ++ lb) W fun e w' => e = .returned (.bool (p x)) ∧ Below W.heap.size W w') :
    Calls Try.prog 149 #[.slice A0 l0.length c0, .func (.func 104) #[] lb] w fun e w' => e = .returned (.int .i64 (idxFrom p l0 0)) ∧ Below w.heap.size w w' := by
  have HR0 := Aside0.mk hr0
  have HN : l0.length ≤ 9223372036854775807 := hr0.2.1
  have HPP := Aside0.mk hp
  clear hr0 hp
  go_enter Try.func149, Try.ntmps149
  go_wp2
  go_loopg [5, 8] l0.length (fun gg _ s8 wr => ∃ kk : Nat, s8 = .int .i64 kk ∧ Aside0 (kk ≤ l0.length) ∧ Aside0 (l0.length - kk ≤ gg) ∧ Aside0 (Below w.heap.size w wr) ∧ Aside0 (∀ i, i < kk → p (l0.getD i z68) = false))
  case atStart => exact ⟨0, rfl, ⟨Nat.zero_le _⟩, ⟨by omega⟩, ⟨Below.refl _ w⟩, ⟨fun i hi => absurd hi (Nat.not_lt_zero _)⟩⟩
  case round =>
    obtain ⟨kk, rfl, HK, HG, HB, HP⟩ := hrel
    by_cases hlt : kk < l0.length
    · obtain ⟨ad, e, hx0, hx1⟩ := at_T68 HR0.out kk (by omega) (by omega)
      cases e
      have hy0 := pw_cell_below HB.out hx0
      have hy1 := pw_cell_below HB.out hx1
      simp only [Int.toNat_natCast] at hy0 hy1
      have hcall := HPP.out wr (rd_T68 l0 (kk : Int)) HB.out (by show l0.getD (kk : Int).toNat z68 ∈ l0; rw [Int.toNat_natCast]; exact getD_mem hlt)
      clear hx0 hx1
      have hlb : decide (kk < l0.length) = true := decide_eq_true hlt
      have hli : decide ((kk : Int) < (l0.length : Int)) = true := decide_eq_true (by omega)
      have hq2 : p (rd_T68 l0 (kk : Int)) = p (l0.getD kk z68) := by show p (l0.getD (kk : Int).toNat z68) = _; rw [Int.toNat_natCast]
      rw [hq2] at hcall
      clear hq2
      cases hq : p (l0.getD kk z68) with
      | true =>
        rw [hq] at hcall
        have HQ := Aside0.mk hq
        clear hq
        go_wp2_with (go_at_call 104; refine hcall.mono ?_; rintro e w' ⟨rfl, hb'⟩)
        go_ret
        refine ⟨?_, below_then HB.out HB.out.size hb'⟩
        rw [idxFrom_hit _ z68 l0 0 kk hlt HP.out HQ.out]
        simp
      | false =>
        rw [hq] at hcall
        have HQ := Aside0.mk hq
        clear hq
        go_wp2_with (go_at_call 104; refine hcall.mono ?_; rintro e w' ⟨rfl, hb'⟩)
        go_roundg (l0.length - (kk + 1))
        case measure => have := HG.out; omega
        case rel =>
          refine ⟨kk + 1, by go_num, ⟨by omega⟩, ⟨Nat.le_refl _⟩, ⟨below_then HB.out HB.out.size hb'⟩, ⟨fun i hi => ?_⟩⟩
          by_cases e : i = kk
          · subst e
            exact HQ.out
          · exact HP.out i (by omega)
    · have hlb : decide (kk < l0.length) = false := decide_eq_false hlt
      have hli : decide ((kk : Int) < (l0.length : Int)) = false := decide_eq_false (by omega)
      go_wp2
      go_ret
      refine ⟨?_, HB.out⟩
      rw [idxFrom_miss _ z68 l0 0 (fun i hi => HP.out i (by have := HK.out; omega))]
      rfl

end Go.Proofs.Ytppmalfpggkpdaa.P

-- made by printx.py (own driver over the kit's print); Lean checks it
namespace Go.Proofs.Ytppmalfpggkpdaa.P
open Go.RowKit Go.Proofs.YtppmalfpggkpdaaW.PrintWords Go.Proofs.YtppmalfpggkpdaaW.PrintLast Go.Proofs.YtppmalfpggkpdaaW.PrintMore
attribute [local go_sem] max2_int min2_int max_two min_two max_three min_three max_four min_four   -- for this text's walks alone
set_option linter.unusedVariables false
set_option linter.unusedSimpArgs false

/-! ### slices_ContainsFunc_simpl_Spot_impl_Spot: function 103 -/
open Go.Proofs.Ytppmalfpggkpdaa.L in
set_option maxHeartbeats 4000000 in
set_option maxRecDepth 100000 in
theorem anySpot_calls (A0 : Option Addr) (c0 : Nat) (l0 : List S68) (lb : Array Value) (p : S68 → Bool) (w : World) (hr0 : Kd.C k68 w A0 l0.length l0) (hc0 : l0.length ≤ c0)
    (hp : ∀ (W : World) (x : S68) , Below w.heap.size w W → x ∈ l0 → Calls Try.prog 104 ((#[.agg #[.int .i64 x.f0, .int .i64 x.f1]] : Array Value) ++ lb) W fun e w' => e = .returned (.bool (p x)) ∧ Below W.heap.size W w') :
    Calls Try.prog 103 #[.slice A0 l0.length c0, .func (.func 104) #[] lb] w fun e w' => e = .returned (.bool (l0.any p)) ∧ Below w.heap.size w w' := by
  rw [← idxFrom_any p l0 0 (by decide)]
  have HC := Aside0.mk (idxSpot_calls A0 c0 l0 lb p w hr0 hc0 hp)
  clear hr0 hp
  go_enter Try.func103, Try.ntmps103
  go_wp2_with (go_at_call 149; refine HC.out.mono ?_; rintro e w' ⟨rfl, hb'⟩)
  go_ret
  exact ⟨rfl, hb'⟩

end Go.Proofs.Ytppmalfpggkpdaa.P

-- made by printx.py (own driver over the kit's print); Lean checks it
namespace Go.Proofs.Ytppmalfpggkpdaa.P
open Go.RowKit Go.Proofs.YtppmalfpggkpdaaW.PrintWords Go.Proofs.YtppmalfpggkpdaaW.PrintLast Go.Proofs.YtppmalfpggkpdaaW.PrintMore
attribute [local go_sem] max2_int min2_int max_two min_two max_three min_three max_four min_four   -- for this text's walks alone
set_option linter.unusedVariables false
set_option linter.unusedSimpArgs false

/-! ### slices_IndexFunc_sint_int: function 168 -/
-- IMPORT Derived.Test.YtppmalfpggkpdaaLSeq
open Go.Proofs.Ytppmalfpggkpdaa.L in
set_option maxHeartbeats 4000000 in
set_option maxRecDepth 100000 in
theorem idxInt_calls (A0 : Option Addr) (c0 : Nat) (l0 : List Int) (lb : Array Value) (p : Int → Bool) (w : World) (hr0 : Kd.C (Kd.int .i64) w A0 l0.length l0) (hc0 : l0.length ≤ c0)
    (hp : ∀ (W : World) (x : Int) , Below w.heap.size w W → x ∈ l0 → Calls Try.prog 152 ((#[.int .i64 x] : Array Value) ++ lb) W fun e w' => e = .returned (.bool (p x)) ∧ Below W.heap.size W w') :
    Calls Try.prog 168 #[.slice A0 l0.length c0, .func (.func 152) #[] lb] w fun e w' => e = .returned (.int .i64 (idxFrom p l0 0)) ∧ Below w.heap.size w w' := by
  have HR0 := Aside0.mk hr0
  have HN : l0.length ≤ 9223372036854775807 := hr0.2.1
  have HPP := Aside0.mk hp
  clear hr0 hp
  go_enter Try.func168, Try.ntmps168
  go_wp2
  go_loopg [5, 8] l0.length (fun gg _ s8 wr => ∃ kk : Nat, s8 = .int .i64 kk ∧ Aside0 (kk ≤ l0.length) ∧ Aside0 (l0.length - kk ≤ gg) ∧ Aside0 (Below w.heap.size w wr) ∧ Aside0 (∀ i, i < kk → p (l0.getD i (0 : Int)) = false))
  case atStart => exact ⟨0, rfl, ⟨Nat.zero_le _⟩, ⟨by omega⟩, ⟨Below.refl _ w⟩, ⟨fun i hi => absurd hi (Nat.not_lt_zero _)⟩⟩
  case round =>
    obtain ⟨kk, rfl, HK, HG, HB, HP⟩ := hrel
    by_cases hlt : kk < l0.length
    · obtain ⟨ad, e, hx0⟩ := Kd.at_int HR0.out kk (by omega) (by omega)
      cases e
      have hy0 := pw_cell_below HB.out hx0
      simp only [Int.toNat_natCast] at hy0
      have hcall := HPP.out wr (rd l0 (kk : Int)) HB.out (by show l0.getD (kk : Int).toNat (0 : Int) ∈ l0; rw [Int.toNat_natCast]; exact getD_mem hlt)
      clear hx0
      have hlb : decide (kk < l0.length) = true := decide_eq_true hlt
      have hli : decide ((kk : Int) < (l0.length : Int)) = true := decide_eq_true (by omega)
      have hq2 : p (rd l0 (kk : Int)) = p (l0.getD kk (0 : Int)) := by show p (l0.getD (kk : Int).toNat (0 : Int)) = _; rw [Int.toNat_natCast]
      rw [hq2] at hcall
      clear hq2
      cases hq : p (l0.getD kk (0 : Int)) with
      | true =>
        rw [hq] at hcall
        have HQ := Aside0.mk hq
        clear hq
        go_wp2_with (go_at_call 152; refine hcall.mono ?_; rintro e w' ⟨rfl, hb'⟩)
        go_ret
        refine ⟨?_, below_then HB.out HB.out.size hb'⟩
        rw [idxFrom_hit _ (0 : Int) l0 0 kk hlt HP.out HQ.out]
        simp
      | false =>
        rw [hq] at hcall
        have HQ := Aside0.mk hq
        clear hq
        go_wp2_with (go_at_call 152; refine hcall.mono ?_; rintro e w' ⟨rfl, hb'⟩)
        go_roundg (l0.length - (kk + 1))
        case measure => have := HG.out; omega
        case rel =>
          refine ⟨kk + 1, by go_num, ⟨by omega⟩, ⟨Nat.le_refl _⟩, ⟨below_then HB.out HB.out.size hb'⟩, ⟨fun i hi => ?_⟩⟩
          by_cases e : i = kk
          · subst e
            exact HQ.out
          · exact HP.out i (by omega)
    · have hlb : decide (kk < l0.length) = false := decide_eq_false hlt
      have hli : decide ((kk : Int) < (l0.length : Int)) = false := decide_eq_false (by omega)
      go_wp2
      go_ret
      refine ⟨?_, HB.out⟩
      rw [idxFrom_miss _ (0 : Int) l0 0 (fun i hi => HP.out i (by have := HK.out; omega))]
      rfl

end Go.Proofs.Ytppmalfpggkpdaa.P

-- made by printx.py (own driver over the kit's print); Lean checks it
namespace Go.Proofs.Ytppmalfpggkpdaa.P
open Go.RowKit Go.Proofs.YtppmalfpggkpdaaW.PrintWords Go.Proofs.YtppmalfpggkpdaaW.PrintLast Go.Proofs.YtppmalfpggkpdaaW.PrintMore
attribute [local go_sem] max2_int min2_int max_two min_two max_three min_three max_four min_four   -- for this text's walks alone
set_option linter.unusedVariables false
set_option linter.unusedSimpArgs false

/-! ### slices_ContainsFunc_sint_int: function 151 -/
open Go.Proofs.Ytppmalfpggkpdaa.L in
set_option maxHeartbeats 4000000 in
set_option maxRecDepth 100000 in
theorem anyInt_calls (A0 : Option Addr) (c0 : Nat) (l0 : List Int) (lb : Array Value) (p : Int → Bool) (w : World) (hr0 : Kd.C (Kd.int .i64) w A0 l0.length l0) (hc0 : l0.length ≤ c0)
    (hp : ∀ (W : World) (x : Int) , Below w.heap.size w W → x ∈ l0 → Calls Try.prog 152 ((#[.int .i64 x] : Array Value) ++ lb) W fun e w' => e = .returned (.bool (p x)) ∧ Below W.heap.size W w') :
    Calls Try.prog 151 #[.slice A0 l0.length c0, .func (.func 152) #[] lb] w fun e w' => e = .returned (.bool (l0.any p)) ∧ Below w.heap.size w w' := by
  rw [← idxFrom_any p l0 0 (by decide)]
  have HC := Aside0.mk (idxInt_calls A0 c0 l0 lb p w hr0 hc0 hp)
  clear hr0 hp
  go_enter Try.func151, Try.ntmps151
  go_wp2_with (go_at_call 168; refine HC.out.mono ?_; rintro e w' ⟨rfl, hb'⟩)
  go_ret
  exact ⟨rfl, hb'⟩

end Go.Proofs.Ytppmalfpggkpdaa.P

-- made by printx.py (own driver over the kit's print); Lean checks it
namespace Go.Proofs.Ytppmalfpggkpdaa.P
open Go.RowKit Go.Proofs.YtppmalfpggkpdaaW.PrintWords Go.Proofs.YtppmalfpggkpdaaW.PrintLast Go.Proofs.YtppmalfpggkpdaaW.PrintMore
attribute [local go_sem] max2_int min2_int max_two min_two max_three min_three max_four min_four   -- for this text's walks alone
set_option linter.unusedVariables false
set_option linter.unusedSimpArgs false

/-! ### impl_stateOk: function 105 -/
-- IMPORT Derived.Test.YtppmalfpggkpdaaLOk
/-- Is a number in the range of numbers? -/
def numB (a : Int) : Bool := decide (-1000 ≤ a) && decide (a ≤ 1000)
/-- Is what is held, called and said ok? -/
def stateB (a n : Int) (l : List Int) (c : Int) : Bool := numB a && (decide (n ≤ 5) && (decide ((l.length : Int) ≤ 30) && (!(l.any fun x => !numB x) && (decide (0 ≤ c) && decide (c ≤ 5)))))
def impl_stateOk.f (a0 : Int) (a1 : Int) (l2 : List Int) (a3 : Int) : Option Bool := some (stateB a0 a1 l2 a3)
open Go.Proofs.Ytppmalfpggkpdaa.L in
set_option maxHeartbeats 1000000 in
theorem num_calls (a : Int) (W : World) : Calls Try.prog 150 #[.int .i64 a] W fun e w' => e = .returned (.bool (numB a)) ∧ Below W.heap.size W w' :=
  (impl_isNumber.calls a (numB a) W (impl_isNumber_f a)).mono fun e w' (h : _ ∧ _) => ⟨h.1, by first | exact h.2 | exact h.2.below⟩
open Go.Proofs.Ytppmalfpggkpdaa.L in
set_option maxHeartbeats 1000000 in
theorem state1_calls (x : Int) (w : World) :
    Calls Try.prog 152 #[.int .i64 x] w fun e w' => e = .returned (.bool (!numB x)) ∧ Below w.heap.size w w' := by
  have H := Aside0.mk (fun W : World => num_calls x W)
  generalize numB x = b at H
  go_enter Try.func152, Try.ntmps152
  go_wp2_with (go_at_call 150; refine (H.out _).mono ?_; rintro e w' ⟨rfl, hb⟩)
  all_goals
    go_ret
    exact ⟨by first | rfl | simp, hb⟩
open Go.Proofs.Ytppmalfpggkpdaa.L in
set_option maxHeartbeats 4000000 in
theorem impl_stateOk.calls (a0 : Int) (a1 : Int) (A2 : Option Addr) (c2 : Nat) (l2 : List Int) (a3 : Int) (r : Bool) (w : World) (hr2 : Kd.C (Kd.int .i64) w A2 l2.length l2) (hc2 : l2.length ≤ c2) (h : impl_stateOk.f a0 a1 l2 a3 = some r) :
    Calls Try.prog 105 #[.int .i64 a0, .int .i64 a1, .slice A2 l2.length c2, .int .i64 a3] w fun e w' => e = .returned (.bool r) ∧ Below w.heap.size w w' := by
 obtain rfl := Option.some.inj h
 clear h
 have HN := Aside0.mk (fun W : World => num_calls a0 W)
 have HA := Aside0.mk (fun (W : World) (hb : Below w.heap.size w W) => anyInt_calls A2 c2 l2 #[] (fun x => !numB x) W (Kd.C_below hr2 hb) hc2 (fun W' x _ _ => state1_calls x W'))
 have HI := Aside0.mk (fun W : World => (impl_in.calls a3 0 5 _ W (impl_in_f _ _ _)).mono fun e w' (h : _ ∧ _) => (⟨h.1, by first | exact h.2 | exact h.2.below⟩ : e = .returned (.bool (decide (0 ≤ a3) && decide (a3 ≤ 5))) ∧ Below W.heap.size W w'))
 clear hr2 hc2
 cases hq1 : numB a0 with
 | false =>
   rw [show stateB a0 a1 l2 a3 = false by simp only [stateB, hq1, Bool.false_and]]
   rw [hq1] at HN
   clear hq1
   go_enter Try.func105, Try.ntmps105
   go_wp2_with (go_at_call 150; refine (HN.out _).mono ?_; rintro e w1 ⟨rfl, hb1⟩)
   go_ret
   exact ⟨rfl, hb1⟩
 | true =>
   rw [show stateB a0 a1 l2 a3 = (decide (a1 ≤ 5) && (decide ((l2.length : Int) ≤ 30) && (!(l2.any fun x => !numB x) && (decide (0 ≤ a3) && decide (a3 ≤ 5))))) by simp only [stateB, hq1, Bool.true_and]]
   rw [hq1] at HN
   clear hq1
   cases hq2 : decide (a1 ≤ 5) with
   | false =>
     simp only [Bool.false_and]
     go_enter Try.func105, Try.ntmps105
     go_wp2_with (go_at_call 150; refine (HN.out _).mono ?_; rintro e w1 ⟨rfl, hb1⟩)
     go_ret
     exact ⟨rfl, hb1⟩
   | true =>
     cases hq3 : decide ((l2.length : Int) ≤ 30) with
     | false =>
       simp only [Bool.false_and, Bool.true_and]
       go_enter Try.func105, Try.ntmps105
       go_wp2_with (go_at_call 150; refine (HN.out _).mono ?_; rintro e w1 ⟨rfl, hb1⟩)
       go_ret
       exact ⟨rfl, hb1⟩
     | true =>
       cases hq4 : (l2.any fun x => !numB x) with
       | true =>
         simp only [Bool.not_true, Bool.false_and, Bool.true_and]
         simp only [hq4] at HA
         clear hq4
         go_enter Try.func105, Try.ntmps105
         go_wp2_with (first | (go_at_call 150; refine (HN.out _).mono ?_; rintro e w1 ⟨rfl, hb1⟩) | (go_at_call 151; refine (HA.out _ hb1).mono ?_; rintro e w2 ⟨rfl, hb2⟩))
         go_ret
         exact ⟨rfl, below_then hb1 hb1.size hb2⟩
       | false =>
         simp only [Bool.not_false, Bool.true_and]
         simp only [hq4] at HA
         clear hq4
         generalize (decide (0 ≤ a3) && decide (a3 ≤ 5)) = b at *
         go_enter Try.func105, Try.ntmps105
         go_wp2_with (first | (go_at_call 150; refine (HN.out _).mono ?_; rintro e w1 ⟨rfl, hb1⟩) | (go_at_call 151; refine (HA.out _ hb1).mono ?_; rintro e w2 ⟨rfl, hb2⟩) | (go_at_call 75; refine (HI.out _).mono ?_; rintro e w3 ⟨rfl, hb3⟩))
         go_ret
         exact ⟨rfl, below_then (below_then hb1 hb1.size hb2) (below_then hb1 hb1.size hb2).size hb3⟩

end Go.Proofs.Ytppmalfpggkpdaa.P

-- made by printx.py (own driver over the kit's print); Lean checks it
namespace Go.Proofs.Ytppmalfpggkpdaa.P
open Go.RowKit Go.Proofs.YtppmalfpggkpdaaW.PrintWords Go.Proofs.YtppmalfpggkpdaaW.PrintLast Go.Proofs.YtppmalfpggkpdaaW.PrintMore
attribute [local go_sem] max2_int min2_int max_two min_two max_three min_three max_four min_four   -- for this text's walks alone
set_option linter.unusedVariables false
set_option linter.unusedSimpArgs false

/-! ### spec_KeepOk: function 30 -/
mutual
def spec_KeepOk.j0 : Nat → List (S52) → Bool → Option (Bool)
  | 0, _, _ => none
  | k + 1, x0, x14 => if x14 = true then (some false) else (spec_KeepOk.l0 k x0 0)
def spec_KeepOk.l0 : Nat → List (S52) → Int → Option (Bool)
  | 0, _, _ => none
  | k + 1, x0, x3 => if x3 < (x0.length : Int) then (if 0 ≤ x3 then ((spec_FunOk.f k ((rd_T52 x0 x3).f0) ((rd_T52 x0 x3).f1) ((rd_T52 x0 x3).f2)).bind fun t749 => (if t749 = true then ((spec_l2Find.f k x0 ((rd_T52 x0 x3).f0)).bind fun t751 => (if t751 = x3 then (spec_KeepOk.l0 k x0 (wrap64 (x3 + 1))) else (some false))) else (some false))) else (none)) else (spec_KeepOk.l1 k x0 0)
def spec_KeepOk.l1 : Nat → List (S52) → Int → Option (Bool)
  | 0, _, _ => none
  | k + 1, x0, x4 => if x4 < (x0.length : Int) then (if 0 ≤ x4 then ((spec_l2Refs.f k ((rd_T52 x0 x4).f2)).bind fun t753 => (spec_KeepOk.l2 k x0 x4 t753 0)) else (none)) else (some true)
def spec_KeepOk.l2 : Nat → List (S52) → Int → List ByteArray → Int → Option (Bool)
  | 0, _, _, _, _ => none
  | k + 1, x0, x4, x5, x6 => if x6 < (x5.length : Int) then (if 0 ≤ x6 then ((spec_l2Find.f k x0 (rdOf ByteArray.empty x5 x6)).bind fun t757 => (if t757 < 0 then (some false) else (spec_KeepOk.l2 k x0 x4 x5 (wrap64 (x6 + 1))))) else (none)) else (spec_KeepOk.l1 k x0 (wrap64 (x4 + 1)))
end
def spec_KeepOk.f (k : Nat) (l0 : List (S52)) : Option (Bool) := if (l0.length : Int) < 1 then (spec_KeepOk.j0 k l0 true) else (spec_KeepOk.j0 k l0 (decide ((l0.length : Int) > 40)))
set_option maxHeartbeats 8000000 in
set_option maxRecDepth 100000 in
theorem spec_KeepOk.calls (k : Nat) (A0 : Option Addr) (c0 : Nat) (l0 : List (S52)) (r : Bool) (w : World) (hr0 : Kd.C k52 w A0 l0.length l0) (hc0 : l0.length ≤ c0) (h : spec_KeepOk.f k l0 = some r) :
    Calls Try.prog 30 #[.slice A0 l0.length c0] w fun e w' => e = .returned (.bool r) ∧ Below w.heap.size w w' := by
 have hu52 := Try.underlying52
 have HR0 := Aside0.mk hr0; have HC0 := Aside0.mk hc0; clear hr0 hc0
 have HB := Aside0.mk (Below.refl w.heap.size w)
 have H : (if (l0.length : Int) < 1 then (spec_KeepOk.j0 k l0 true) else (spec_KeepOk.j0 k l0 (decide ((l0.length : Int) > 40)))) = some r := h
 clear h; have HC2 := Aside0.mk H; clear H
 go_enter Try.func30, Try.ntmps30
 go_upto_region 1 with (fail)
 go_cut [14] (fun v14 wc => ∃ (kq : Nat) (x14_1 : Bool), v14 = .bool x14_1 ∧ Aside0 (spec_KeepOk.j0 kq l0 x14_1 = some r) ∧ Aside0 (kq ≤ k) ∧ Aside0 (Below w.heap.size w wc))
 case first =>
  have H := HC2.out
  clear HC2
  by_cases c3 : (l0.length : Int) < 1
  · rw [if_pos c3] at H
    have c3b0 : decide ((l0.length : Int) < 1) = true := decide_eq_true c3
    have c3b1 : decide (l0.length < 1) = true := decide_eq_true (by omega)
    clear c3
    (first | rw [c3b0] | (simp only [i64_w, i32_w]; rw [c3b0]) | (have cn_ := c3b0; simp only [bne] at cn_; rw [cn_]; clear cn_) | skip)
    have H' := Aside0.mk H
    clear H
    go_wp2
    go_meet
    case rel => exact ⟨_, (true), (by first | rfl | (simp; done) | (simp [*]; done)), H', ⟨by first | omega | exact Nat.le_refl _⟩, ⟨by repeat (first | (with_reducible first | exact HB.out | apply below_alloc | apply pw_below_drewN | apply below_drew1) | exact HB.out)⟩⟩
  rw [if_neg c3] at H
  have c3b0 : decide ((l0.length : Int) < 1) = false := decide_eq_false c3
  have c3b1 : decide (l0.length < 1) = false := decide_eq_false (by omega)
  clear c3
  (first | rw [c3b0] | (simp only [i64_w, i32_w]; rw [c3b0]) | (have cn_ := c3b0; simp only [bne] at cn_; rw [cn_]; clear cn_) | skip)
  have H' := Aside0.mk H
  clear H
  go_wp2
  go_meet
  case rel => exact ⟨_, (decide ((l0.length : Int) > 40)), (by first | rfl | (simp; done) | (simp [*]; done)), H', ⟨by first | omega | exact Nat.le_refl _⟩, ⟨by repeat (first | (with_reducible first | exact HB.out | apply below_alloc | apply pw_below_drewN | apply below_drew1) | exact HB.out)⟩⟩
 clear HC2; try clear p2; try clear c3; try clear c3b0; try clear c3b1
 obtain ⟨kq, x14_1, rfl, HA, HJ1, HB⟩ := hcut
 obtain _ | kj1 := kq
 · exact absurd HA.out (by simp [spec_KeepOk.j0])
 have H := HA.out
 clear HA
 simp only [spec_KeepOk.j0] at H
 by_cases c4 : x14_1 = true
 · subst c4
   have H1 : (some false) = some r := by rw [if_pos rfl] at H; exact H
   clear H
   have H := H1
   clear H1
   obtain rfl := Option.some.inj H
   go_wp2
   go_ret
   exact ⟨by first | rfl | (simp [errW_none, errW_some] <;> rfl) | (simp [*, errW_none, errW_some] <;> rfl), by repeat (first | (with_reducible first | exact HB.out | apply below_alloc | apply pw_below_drewN | apply below_drew1) | exact HB.out)⟩
 replace c4 := Bool.eq_false_iff.mpr c4
 subst c4
 have H1 : (spec_KeepOk.l0 kj1 l0 0) = some r := by rw [if_neg (show ¬ (false = true) by decide)] at H; exact H
 clear H
 have H := H1
 clear H1
 have H' := Aside0.mk H
 clear H
 go_wp2
 go_loopg [3] kj1 (fun kq v3 w' => ∃ (x3_2 : Int), v3 = .int .i64 x3_2 ∧ Aside0 (spec_KeepOk.l0 kq l0 x3_2 = some r) ∧ Aside0 (kq ≤ kj1) ∧ Aside0 (Below w.heap.size w w'))
 case atStart => exact ⟨(0), (by first | rfl | (simp; done) | (simp [*]; done)), H', ⟨Nat.le_refl _⟩, ⟨by repeat (first | (with_reducible first | exact HB.out | apply below_alloc | apply pw_below_drewN | apply below_drew1) | exact HB.out)⟩⟩
 clear H'
 try clear p2; try clear c3; try clear c3b0; try clear c3b1; try clear c4; try clear p2
 obtain ⟨x3_2, rfl, HA, HK2, HB⟩ := hrel
 obtain _ | k2 := gk
 · exact absurd HA.out (by simp [spec_KeepOk.l0])
 have H := HA.out
 clear HA
 simp only [spec_KeepOk.l0] at H
 by_cases c5 : x3_2 < (l0.length : Int)
 · rw [if_pos c5] at H
   have c5b0 : decide (x3_2 < (l0.length : Int)) = true := decide_eq_true c5
   clear c5
   by_cases c6 : 0 ≤ x3_2
   · rw [if_pos c6] at H
     have c6b0 : decide (0 ≤ x3_2) = true := decide_eq_true c6
     clear c6
     replace H := Option.bind_eq_some_iff.mp H
     obtain ⟨t749, A70, H⟩ := H
     replace H : (if t749 = true then ((spec_l2Find.f k2 l0 ((rd_T52 l0 x3_2).f0)).bind fun t751 => (if t751 = x3_2 then (spec_KeepOk.l0 k2 l0 (wrap64 (x3_2 + 1))) else (some false))) else (some false)) = some r := H
     have A7 := Aside0.mk A70; clear A70
     by_cases c8 : t749 = true
     · subst c8
       have H1 : ((spec_l2Find.f k2 l0 ((rd_T52 l0 x3_2).f0)).bind fun t751 => (if t751 = x3_2 then (spec_KeepOk.l0 k2 l0 (wrap64 (x3_2 + 1))) else (some false))) = some r := by rw [if_pos rfl] at H; exact H
       clear H
       have H := H1
       clear H1
       replace H := Option.bind_eq_some_iff.mp H
       obtain ⟨t751, A90, H⟩ := H
       replace H : (if t751 = x3_2 then (spec_KeepOk.l0 k2 l0 (wrap64 (x3_2 + 1))) else (some false)) = some r := H
       have A9 := Aside0.mk A90; clear A90
       by_cases c10 : t751 = x3_2
       · rw [if_pos c10] at H
         have c10b0 : (t751 == x3_2) = true := beq_iff_eq.mpr c10
         have c10b1 : (t751 != x3_2) = false := bne_eq_false_iff_eq.mpr c10
         clear c10
         have H' := Aside0.mk H
         clear H
         have p748 : 0 ≤ (x3_2 : Int) := of_decide_eq_true (by first | (with_reducible assumption) | assumption)
         have q748 : x3_2 < (l0.length : Int) := of_decide_eq_true (by first | (with_reducible assumption) | assumption)
         obtain ⟨ad748, A748_2, c748_2, e748, hx748_0, hx748_1, hx748_2, hl748_2, hi748_2⟩ := at_T52 HR0.out x3_2 p748 q748
         cases e748
         replace hx748_0 := (HB.out.cell (World.block_lt_of_cell? w _ hx748_0)).trans hx748_0
         replace hx748_1 := (HB.out.cell (World.block_lt_of_cell? w _ hx748_1)).trans hx748_1
         replace hx748_2 := (HB.out.cell (World.block_lt_of_cell? w _ hx748_2)).trans hx748_2
         have HR748_2 := Aside0.mk hi748_2; have HC748_2 := Aside0.mk hl748_2; clear hi748_2 hl748_2; replace p748 := eq_true p748; replace q748 := eq_true q748
         go_wp2_with (first | ((with_reducible refine gate_callee (f := 71) rfl ?_); refine goesL_ (some 25) rfl rfl Try.func71 (by kernel_rfl) rfl #[.agg #[.string ((rd_T52 l0 x3_2).f0), .bool ((rd_T52 l0 x3_2).f1), .slice A748_2 ((rd_T52 l0 x3_2).f2).length c748_2]] rfl (by (try simp only [List.map_toArray, List.map_cons, List.map_nil]); first | done | rfl | (simp only [List.length_drop, List.length_take]; rfl)) ?_; (with_reducible refine (spec_FunOk.calls k2 ((rd_T52 l0 x3_2).f0) ((rd_T52 l0 x3_2).f1) _ _ ((rd_T52 l0 x3_2).f2) true _ ?side1 ?side2 A7.out).mono ?_); (case side1 => repeat (first | exact (Kd.C_below HR748_2.out HB.out) | (with_reducible refine Kd.C_alloc ?_ _) | (with_reducible refine Kd.C_drewN ?_ _) | (with_reducible refine Kd.C_drew ?_))); (case side2 => exact HC748_2.out); rintro e w11 ⟨rfl, hb⟩; refine ⟨_, rfl, ?_⟩; have n0_ := Aside0.mk (below_step (by repeat (first | (with_reducible first | exact HB.out | apply below_alloc | apply pw_below_drewN | apply below_drew1) | exact HB.out)) hb); clear HB; have HB := n0_; clear n0_; (try clear hb); (try clear hb2); (try clear hk); (try clear hi); have p750 : 0 ≤ (x3_2 : Int) := of_decide_eq_true (by first | (with_reducible assumption) | assumption); have q750 : x3_2 < (l0.length : Int) := of_decide_eq_true (by first | (with_reducible assumption) | assumption); obtain ⟨ad750, A750_2, c750_2, e750, hx750_0, hx750_1, hx750_2, hl750_2, hi750_2⟩ := at_T52 HR0.out x3_2 p750 q750; obtain rfl : ad748 = ad750 := (by injection e750); replace hx750_0 := (HB.out.cell (World.block_lt_of_cell? w _ hx750_0)).trans hx750_0; replace hx750_1 := (HB.out.cell (World.block_lt_of_cell? w _ hx750_1)).trans hx750_1; replace hx750_2 := (HB.out.cell (World.block_lt_of_cell? w _ hx750_2)).trans hx750_2; have HR750_2 := Aside0.mk hi750_2; have HC750_2 := Aside0.mk hl750_2; clear hi750_2 hl750_2; replace p750 := eq_true p750; replace q750 := eq_true q750) | (go_at_call 72; (with_reducible refine (spec_l2Find.calls k2 _ _ l0 ((rd_T52 l0 x3_2).f0) t751 _ ?side1 ?side2 A9.out).mono ?_); (case side1 => repeat (first | exact (Kd.C_below HR0.out HB.out) | (with_reducible refine Kd.C_alloc ?_ _) | (with_reducible refine Kd.C_drewN ?_ _) | (with_reducible refine Kd.C_drew ?_))); (case side2 => exact HC0.out); rintro e w' ⟨rfl, ⟨nd, rfl⟩⟩))
         go_roundg k2
         case measure => have := HJ1.out; have := HK2.out; omega
         case rel => exact ⟨(wrap64 (x3_2 + 1)), (by first | rfl | (simp; done) | (simp [*]; done)), H', ⟨by have := HJ1.out; have := HK2.out; omega⟩, ⟨by repeat (first | (with_reducible first | exact HB.out | apply below_alloc | apply pw_below_drewN | apply below_drew1) | exact HB.out)⟩⟩
       rw [if_neg c10] at H
       have c10b0 : (t751 == x3_2) = false := beq_eq_false_iff_ne.mpr c10
       have c10b1 : (t751 != x3_2) = true := bne_iff_ne.mpr c10
       obtain rfl := Option.some.inj H
       have p748 : 0 ≤ (x3_2 : Int) := of_decide_eq_true (by first | (with_reducible assumption) | assumption)
       have q748 : x3_2 < (l0.length : Int) := of_decide_eq_true (by first | (with_reducible assumption) | assumption)
       obtain ⟨ad748, A748_2, c748_2, e748, hx748_0, hx748_1, hx748_2, hl748_2, hi748_2⟩ := at_T52 HR0.out x3_2 p748 q748
       cases e748
       replace hx748_0 := (HB.out.cell (World.block_lt_of_cell? w _ hx748_0)).trans hx748_0
       replace hx748_1 := (HB.out.cell (World.block_lt_of_cell? w _ hx748_1)).trans hx748_1
       replace hx748_2 := (HB.out.cell (World.block_lt_of_cell? w _ hx748_2)).trans hx748_2
       have HR748_2 := Aside0.mk hi748_2; have HC748_2 := Aside0.mk hl748_2; clear hi748_2 hl748_2; replace p748 := eq_true p748; replace q748 := eq_true q748
       go_wp2_with (first | ((with_reducible refine gate_callee (f := 71) rfl ?_); refine goesL_ (some 25) rfl rfl Try.func71 (by kernel_rfl) rfl #[.agg #[.string ((rd_T52 l0 x3_2).f0), .bool ((rd_T52 l0 x3_2).f1), .slice A748_2 ((rd_T52 l0 x3_2).f2).length c748_2]] rfl (by (try simp only [List.map_toArray, List.map_cons, List.map_nil]); first | done | rfl | (simp only [List.length_drop, List.length_take]; rfl)) ?_; (with_reducible refine (spec_FunOk.calls k2 ((rd_T52 l0 x3_2).f0) ((rd_T52 l0 x3_2).f1) _ _ ((rd_T52 l0 x3_2).f2) true _ ?side1 ?side2 A7.out).mono ?_); (case side1 => repeat (first | exact (Kd.C_below HR748_2.out HB.out) | (with_reducible refine Kd.C_alloc ?_ _) | (with_reducible refine Kd.C_drewN ?_ _) | (with_reducible refine Kd.C_drew ?_))); (case side2 => exact HC748_2.out); rintro e w12 ⟨rfl, hb⟩; refine ⟨_, rfl, ?_⟩; have n0_ := Aside0.mk (below_step (by repeat (first | (with_reducible first | exact HB.out | apply below_alloc | apply pw_below_drewN | apply below_drew1) | exact HB.out)) hb); clear HB; have HB := n0_; clear n0_; (try clear hb); (try clear hb2); (try clear hk); (try clear hi); have p750 : 0 ≤ (x3_2 : Int) := of_decide_eq_true (by first | (with_reducible assumption) | assumption); have q750 : x3_2 < (l0.length : Int) := of_decide_eq_true (by first | (with_reducible assumption) | assumption); obtain ⟨ad750, A750_2, c750_2, e750, hx750_0, hx750_1, hx750_2, hl750_2, hi750_2⟩ := at_T52 HR0.out x3_2 p750 q750; obtain rfl : ad748 = ad750 := (by injection e750); replace hx750_0 := (HB.out.cell (World.block_lt_of_cell? w _ hx750_0)).trans hx750_0; replace hx750_1 := (HB.out.cell (World.block_lt_of_cell? w _ hx750_1)).trans hx750_1; replace hx750_2 := (HB.out.cell (World.block_lt_of_cell? w _ hx750_2)).trans hx750_2; have HR750_2 := Aside0.mk hi750_2; have HC750_2 := Aside0.mk hl750_2; clear hi750_2 hl750_2; replace p750 := eq_true p750; replace q750 := eq_true q750) | (go_at_call 72; (with_reducible refine (spec_l2Find.calls k2 _ _ l0 ((rd_T52 l0 x3_2).f0) t751 _ ?side1 ?side2 A9.out).mono ?_); (case side1 => repeat (first | exact (Kd.C_below HR0.out HB.out) | (with_reducible refine Kd.C_alloc ?_ _) | (with_reducible refine Kd.C_drewN ?_ _) | (with_reducible refine Kd.C_drew ?_))); (case side2 => exact HC0.out); rintro e w' ⟨rfl, ⟨nd, rfl⟩⟩))
       go_ret
       exact ⟨by first | rfl | (simp [errW_none, errW_some] <;> rfl) | (simp [*, errW_none, errW_some] <;> rfl), by repeat (first | (with_reducible first | exact HB.out | apply below_alloc | apply pw_below_drewN | apply below_drew1) | exact HB.out)⟩
     replace c8 := Bool.eq_false_iff.mpr c8
     subst c8
     have H1 : (some false) = some r := by rw [if_neg (show ¬ (false = true) by decide)] at H; exact H
     clear H
     have H := H1
     clear H1
     obtain rfl := Option.some.inj H
     have p748 : 0 ≤ (x3_2 : Int) := of_decide_eq_true (by first | (with_reducible assumption) | assumption)
     have q748 : x3_2 < (l0.length : Int) := of_decide_eq_true (by first | (with_reducible assumption) | assumption)
     obtain ⟨ad748, A748_2, c748_2, e748, hx748_0, hx748_1, hx748_2, hl748_2, hi748_2⟩ := at_T52 HR0.out x3_2 p748 q748
     cases e748
     replace hx748_0 := (HB.out.cell (World.block_lt_of_cell? w _ hx748_0)).trans hx748_0
     replace hx748_1 := (HB.out.cell (World.block_lt_of_cell? w _ hx748_1)).trans hx748_1
     replace hx748_2 := (HB.out.cell (World.block_lt_of_cell? w _ hx748_2)).trans hx748_2
     have HR748_2 := Aside0.mk hi748_2; have HC748_2 := Aside0.mk hl748_2; clear hi748_2 hl748_2; replace p748 := eq_true p748; replace q748 := eq_true q748
     go_wp2_with (first | ((with_reducible refine gate_callee (f := 71) rfl ?_); refine goesL_ (some 25) rfl rfl Try.func71 (by kernel_rfl) rfl #[.agg #[.string ((rd_T52 l0 x3_2).f0), .bool ((rd_T52 l0 x3_2).f1), .slice A748_2 ((rd_T52 l0 x3_2).f2).length c748_2]] rfl (by (try simp only [List.map_toArray, List.map_cons, List.map_nil]); first | done | rfl | (simp only [List.length_drop, List.length_take]; rfl)) ?_; (with_reducible refine (spec_FunOk.calls k2 ((rd_T52 l0 x3_2).f0) ((rd_T52 l0 x3_2).f1) _ _ ((rd_T52 l0 x3_2).f2) false _ ?side1 ?side2 A7.out).mono ?_); (case side1 => repeat (first | exact (Kd.C_below HR748_2.out HB.out) | (with_reducible refine Kd.C_alloc ?_ _) | (with_reducible refine Kd.C_drewN ?_ _) | (with_reducible refine Kd.C_drew ?_))); (case side2 => exact HC748_2.out); rintro e w13 ⟨rfl, hb⟩; refine ⟨_, rfl, ?_⟩; have n0_ := Aside0.mk (below_step (by repeat (first | (with_reducible first | exact HB.out | apply below_alloc | apply pw_below_drewN | apply below_drew1) | exact HB.out)) hb); clear HB; have HB := n0_; clear n0_; (try clear hb); (try clear hb2); (try clear hk); (try clear hi)))
     go_ret
     exact ⟨by first | rfl | (simp [errW_none, errW_some] <;> rfl) | (simp [*, errW_none, errW_some] <;> rfl), by repeat (first | (with_reducible first | exact HB.out | apply below_alloc | apply pw_below_drewN | apply below_drew1) | exact HB.out)⟩
   rw [if_neg c6] at H
   exact absurd H (by simp)
 rw [if_neg c5] at H
 have c5b0 : decide (x3_2 < (l0.length : Int)) = false := decide_eq_false c5
 clear c5
 have H' := Aside0.mk H
 clear H
 go_wp2
 go_loopg [4] k2 (fun kq v4 w' => ∃ (x4_3 : Int), v4 = .int .i64 x4_3 ∧ Aside0 (spec_KeepOk.l1 kq l0 x4_3 = some r) ∧ Aside0 (kq ≤ k2) ∧ Aside0 (Below w.heap.size w w'))
 case atStart => exact ⟨(0), (by first | rfl | (simp; done) | (simp [*]; done)), H', ⟨Nat.le_refl _⟩, ⟨by repeat (first | (with_reducible first | exact HB.out | apply below_alloc | apply pw_below_drewN | apply below_drew1) | exact HB.out)⟩⟩
 clear H'
 try clear c1; try clear p2; try clear c3; try clear c3b0; try clear c3b1; try clear c4; try clear c5; try clear c5b0; try clear c6; try clear c6b0; try clear p6; try clear c7; try clear p7; try clear q7; try clear hx7; try clear c8; try clear c10; try clear c10b0; try clear c10b1; try clear hx748_0; try clear hx748_1; try clear hx748_2; try clear hx750_0; try clear hx750_1; try clear hx750_2; try clear p2; try clear p748; try clear p750; try clear q748; try clear q750
 obtain ⟨x4_3, rfl, HA, HK3, HB⟩ := hrel
 obtain _ | k3 := gk
 · exact absurd HA.out (by simp [spec_KeepOk.l1])
 have H := HA.out
 clear HA
 simp only [spec_KeepOk.l1] at H
 by_cases c14 : x4_3 < (l0.length : Int)
 · rw [if_pos c14] at H
   have c14b0 : decide (x4_3 < (l0.length : Int)) = true := decide_eq_true c14
   clear c14
   by_cases c15 : 0 ≤ x4_3
   · rw [if_pos c15] at H
     have c15b0 : decide (0 ≤ x4_3) = true := decide_eq_true c15
     clear c15
     replace H := Option.bind_eq_some_iff.mp H
     obtain ⟨t753, A160, H⟩ := H
     replace H : (spec_KeepOk.l2 k3 l0 x4_3 t753 0) = some r := H
     have A16 := Aside0.mk A160; clear A160
     have H' := Aside0.mk H
     clear H
     have p752 : 0 ≤ (x4_3 : Int) := of_decide_eq_true (by first | (with_reducible assumption) | assumption)
     have q752 : x4_3 < (l0.length : Int) := of_decide_eq_true (by first | (with_reducible assumption) | assumption)
     obtain ⟨ad752, A752_2, c752_2, e752, hx752_0, hx752_1, hx752_2, hl752_2, hi752_2⟩ := at_T52 HR0.out x4_3 p752 q752
     cases e752
     replace hx752_0 := (HB.out.cell (World.block_lt_of_cell? w _ hx752_0)).trans hx752_0
     replace hx752_1 := (HB.out.cell (World.block_lt_of_cell? w _ hx752_1)).trans hx752_1
     replace hx752_2 := (HB.out.cell (World.block_lt_of_cell? w _ hx752_2)).trans hx752_2
     have HR752_2 := Aside0.mk hi752_2; have HC752_2 := Aside0.mk hl752_2; clear hi752_2 hl752_2; replace p752 := eq_true p752; replace q752 := eq_true q752
     go_wp2_with (first | ((with_reducible refine gate_callee (f := 73) rfl ?_); refine goesL_ (some 49) rfl rfl Try.func73 (by kernel_rfl) rfl #[.slice A752_2 ((rd_T52 l0 x4_3).f2).length c752_2] rfl (by (try simp only [List.map_toArray, List.map_cons, List.map_nil]); first | done | rfl | (simp only [List.length_drop, List.length_take]; rfl)) ?_; (with_reducible refine (spec_l2Refs.calls k3 _ _ ((rd_T52 l0 x4_3).f2) t753 _ ?side1 ?side2 A16.out).mono ?_); (case side1 => repeat (first | exact (Kd.C_below HR752_2.out HB.out) | (with_reducible refine Kd.C_alloc ?_ _) | (with_reducible refine Kd.C_drewN ?_ _) | (with_reducible refine Kd.C_drew ?_))); (case side2 => exact HC752_2.out); rintro e w17 ⟨v754, rfl, ho0, hb⟩; refine ⟨_, rfl, ?_⟩; have n0_ := Aside0.mk (Kd.R_lower ho0 (below_size (by repeat (first | (with_reducible first | exact HB.out | apply below_alloc | apply pw_below_drewN | apply below_drew1) | exact HB.out)))); have n1_ := Aside0.mk (below_step (by repeat (first | (with_reducible first | exact HB.out | apply below_alloc | apply pw_below_drewN | apply below_drew1) | exact HB.out)) hb); clear HB; have HO755 := n0_; have HB := n1_; clear n0_ n1_; (try clear hb); (try clear hb2); (try clear hk); (try clear hi); (try clear ho0)))
     go_loopg [6] k3 (fun kq v6 w' => ∃ (x6_4 : Int), v6 = .int .i64 x6_4 ∧ Aside0 (spec_KeepOk.l2 kq l0 x4_3 t753 x6_4 = some r) ∧ Aside0 (kq ≤ k3) ∧ Aside0 (Kd.R Kd.string 9 w' w.heap.size (fun _ => True) v754 t753) ∧ Aside0 (Below w.heap.size w w'))
     case atStart => exact ⟨(0), (by first | rfl | (simp; done) | (simp [*]; done)), H', ⟨Nat.le_refl _⟩, ⟨by (with_reducible repeat (first | apply Kd.R_alloc | apply Kd.R_drewN | apply Kd.R_drew)); exact HO755.out⟩, ⟨by repeat (first | (with_reducible first | exact HB.out | apply below_alloc | apply pw_below_drewN | apply below_drew1) | exact HB.out)⟩⟩
     clear H'
     try clear c1; try clear p2; try clear c3; try clear c3b0; try clear c3b1; try clear c4; try clear c5; try clear c5b0; try clear c6; try clear c6b0; try clear p6; try clear c7; try clear p7; try clear q7; try clear hx7; try clear c8; try clear c10; try clear c10b0; try clear c10b1; try clear c14; try clear c14b0; try clear c15; try clear c15b0; try clear hx748_0; try clear hx748_1; try clear hx748_2; try clear hx750_0; try clear hx750_1; try clear hx750_2; try clear hx752_0; try clear hx752_1; try clear hx752_2; try clear p2; try clear p6; try clear p7; try clear p748; try clear p750; try clear p752; try clear q7; try clear q748; try clear q750; try clear q752
     obtain ⟨x6_4, rfl, HA, HK4, HO_5, HB⟩ := hrel
     obtain _ | k4 := gk
     · exact absurd HA.out (by simp [spec_KeepOk.l2])
     have H := HA.out
     clear HA
     simp only [spec_KeepOk.l2] at H
     by_cases c18 : x6_4 < (t753.length : Int)
     · rw [if_pos c18] at H
       have c18b0 : decide (x6_4 < (t753.length : Int)) = true := decide_eq_true c18
       clear c18
       by_cases c19 : 0 ≤ x6_4
       · rw [if_pos c19] at H
         have c19b0 : decide (0 ≤ x6_4) = true := decide_eq_true c19
         clear c19
         replace H := Option.bind_eq_some_iff.mp H
         obtain ⟨t757, A200, H⟩ := H
         replace H : (if t757 < 0 then (some false) else (spec_KeepOk.l2 k4 l0 x4_3 t753 (wrap64 (x6_4 + 1)))) = some r := H
         have A20 := Aside0.mk A200; clear A200
         by_cases c21 : t757 < 0
         · rw [if_pos c21] at H
           have c21b0 : decide (t757 < 0) = true := decide_eq_true c21
           clear c21
           obtain rfl := Option.some.inj H
           obtain ⟨Ao22, co22, eo22⟩ := Kd.R_slice HO_5.out
           subst eo22
           have p756 : 0 ≤ (x6_4 : Int) := of_decide_eq_true (by first | (with_reducible assumption) | assumption)
           have q756 : x6_4 < (t753.length : Int) := of_decide_eq_true (by first | (with_reducible assumption) | assumption)
           obtain ⟨ad756, e756, hx756_0⟩ := Kd.at_string (Kd.R_reads' HO_5.out).2.2 x6_4 p756 q756
           cases e756
           replace p756 := eq_true p756; replace q756 := eq_true q756
           go_wp2_with (first | ((with_reducible refine gate_callee (f := 72) rfl ?_); refine goesL_ (some 61) rfl rfl Try.func72 (by kernel_rfl) rfl #[.slice (some ad752) l0.length c0, .string (rdOf ByteArray.empty t753 x6_4)] rfl (by (try simp only [List.map_toArray, List.map_cons, List.map_nil]); first | done | rfl | (simp only [List.length_drop, List.length_take]; rfl)) ?_; (with_reducible refine (spec_l2Find.calls k4 _ _ l0 (rdOf ByteArray.empty t753 x6_4) t757 _ ?side1 ?side2 A20.out).mono ?_); (case side1 => repeat (first | exact (Kd.C_below HR0.out HB.out) | (with_reducible refine Kd.C_alloc ?_ _) | (with_reducible refine Kd.C_drewN ?_ _) | (with_reducible refine Kd.C_drew ?_))); (case side2 => exact HC0.out); rintro e w' ⟨rfl, ⟨nd, rfl⟩⟩; refine ⟨_, rfl, ?_⟩))
           go_ret
           exact ⟨by first | rfl | (simp [errW_none, errW_some] <;> rfl) | (simp [*, errW_none, errW_some] <;> rfl), by repeat (first | (with_reducible first | exact HB.out | apply below_alloc | apply pw_below_drewN | apply below_drew1) | exact HB.out)⟩
         rw [if_neg c21] at H
         have c21b0 : decide (t757 < 0) = false := decide_eq_false c21
         clear c21
         have H' := Aside0.mk H
         clear H
         obtain ⟨Ao23, co23, eo23⟩ := Kd.R_slice HO_5.out
         subst eo23
         have p756 : 0 ≤ (x6_4 : Int) := of_decide_eq_true (by first | (with_reducible assumption) | assumption)
         have q756 : x6_4 < (t753.length : Int) := of_decide_eq_true (by first | (with_reducible assumption) | assumption)
         obtain ⟨ad756, e756, hx756_0⟩ := Kd.at_string (Kd.R_reads' HO_5.out).2.2 x6_4 p756 q756
         cases e756
         replace p756 := eq_true p756; replace q756 := eq_true q756
         go_wp2_with (first | ((with_reducible refine gate_callee (f := 72) rfl ?_); refine goesL_ (some 61) rfl rfl Try.func72 (by kernel_rfl) rfl #[.slice (some ad752) l0.length c0, .string (rdOf ByteArray.empty t753 x6_4)] rfl (by (try simp only [List.map_toArray, List.map_cons, List.map_nil]); first | done | rfl | (simp only [List.length_drop, List.length_take]; rfl)) ?_; (with_reducible refine (spec_l2Find.calls k4 _ _ l0 (rdOf ByteArray.empty t753 x6_4) t757 _ ?side1 ?side2 A20.out).mono ?_); (case side1 => repeat (first | exact (Kd.C_below HR0.out HB.out) | (with_reducible refine Kd.C_alloc ?_ _) | (with_reducible refine Kd.C_drewN ?_ _) | (with_reducible refine Kd.C_drew ?_))); (case side2 => exact HC0.out); rintro e w' ⟨rfl, ⟨nd, rfl⟩⟩; refine ⟨_, rfl, ?_⟩))
         go_roundg k4
         case measure => have := HJ1.out; have := HK2.out; have := HK3.out; have := HK4.out; omega
         case rel => exact ⟨(wrap64 (x6_4 + 1)), (by first | rfl | (simp; done) | (simp [*]; done)), H', ⟨by have := HJ1.out; have := HK2.out; have := HK3.out; have := HK4.out; omega⟩, ⟨by (with_reducible repeat (first | apply Kd.R_alloc | apply Kd.R_drewN | apply Kd.R_drew)); exact HO_5.out⟩, ⟨by repeat (first | (with_reducible first | exact HB.out | apply below_alloc | apply pw_below_drewN | apply below_drew1) | exact HB.out)⟩⟩
       rw [if_neg c19] at H
       exact absurd H (by simp)
     rw [if_neg c18] at H
     have c18b0 : decide (x6_4 < (t753.length : Int)) = false := decide_eq_false c18
     clear c18
     have H' := Aside0.mk H
     clear H
     obtain ⟨Ao24, co24, eo24⟩ := Kd.R_slice HO_5.out
     subst eo24
     go_wp2
     go_roundg k4
     case measure => have := HJ1.out; have := HK2.out; have := HK3.out; have := HK4.out; omega
     case rel => exact ⟨(wrap64 (x4_3 + 1)), (by first | rfl | (simp; done) | (simp [*]; done)), H', ⟨by have := HJ1.out; have := HK2.out; have := HK3.out; have := HK4.out; omega⟩, ⟨by repeat (first | (with_reducible first | exact HB.out | apply below_alloc | apply pw_below_drewN | apply below_drew1) | exact HB.out)⟩⟩
   rw [if_neg c15] at H
   exact absurd H (by simp)
 rw [if_neg c14] at H
 have c14b0 : decide (x4_3 < (l0.length : Int)) = false := decide_eq_false c14
 clear c14
 obtain rfl := Option.some.inj H
 go_wp2
 go_ret
 exact ⟨by first | rfl | (simp [errW_none, errW_some] <;> rfl) | (simp [*, errW_none, errW_some] <;> rfl), by repeat (first | (with_reducible first | exact HB.out | apply below_alloc | apply pw_below_drewN | apply below_drew1) | exact HB.out)⟩

end Go.Proofs.Ytppmalfpggkpdaa.P

/- Loops over a list with a state, told once. -/
namespace Go.Proofs.Ytppmalfpggkpdaa.L
open Go.RowKit Go.Proofs.YtppmalfpggkpdaaW.PrintWords Go.Proofs.YtppmalfpggkpdaaW.PrintLast Go.Proofs.YtppmalfpggkpdaaW.PrintMore Go.Proofs.Ytppmalfpggkpdaa.P
set_option linter.unusedVariables false
set_option linter.unusedSimpArgs false
/-- A walk over a list with a state, that may end early. -/
def runS {α σ β : Type} (f : Nat → α → σ → σ ⊕ β) (E : σ → β) : List α → Nat → σ → β
  | [], _, s => E s
  | x :: l, i, s => match f i x s with
    | .inl s' => runS f E l (i + 1) s'
    | .inr r => r
theorem loop_run {α σ β : Type} (f : Nat → α → σ → σ ⊕ β) (E : Nat → σ → β) (I : Nat → σ → Prop) (d : α) (l : List α) (hn : l.length ≤ 9223372036854775806) (L : Nat → σ → Int → β) (K : Nat)
    (hS : ∀ (k i : Nat) (s : σ), K ≤ k → i < l.length → I i s → L (k + 1) s (i : Int) = match f i (l.getD i d) s with | .inl s' => L k s' (wrap64 ((i : Int) + 1)) | .inr r => r)
    (hI : ∀ (i : Nat) (s s' : σ), i < l.length → I i s → f i (l.getD i d) s = .inl s' → I (i + 1) s')
    (hE : ∀ (k : Nat) (s : σ), K ≤ k → I l.length s → L (k + 1) s (l.length : Int) = E k s) (k : Nat) (hk : K + l.length < k) (s : σ) (h0 : I 0 s) : L k s 0 = runS f (E (k - l.length - 1)) l 0 s := by
  have key : ∀ (n k i : Nat) (s : σ), i + n = l.length → K + n < k → I i s → L k s (i : Int) = runS f (E (k - n - 1)) (l.drop i) i s := by
    intro n
    induction n with
    | zero =>
      intro k i s hi hk hs
      obtain ⟨k, rfl, _⟩ := succ_of hk
      have : i = l.length := by omega
      subst this
      rw [hE k s (by omega) hs, List.drop_length]
      rfl
    | succ n ih =>
      intro k i s hi hk hs
      obtain ⟨k, rfl, _⟩ := succ_of hk
      rw [hS k i s (by omega) (by omega) hs, drop_getD l d i (by omega)]
      simp only [runS]
      cases hf : f i (l.getD i d) s with
      | inr r => rfl
      | inl s' =>
        simp only
        rw [wrap_id (by omega) (by omega)]
        have h2 := ih k (i + 1) s' (by omega) (by omega) (hI i s s' (by omega) hs hf)
        rw [show k + 1 - (n + 1) - 1 = k - n - 1 by omega, ← h2]
        rfl
  have h := key l.length k 0 s (by omega) hk h0
  simpa using h
/-- A loop whose rounds hold loops: each takes up to c more rounds of fuel. -/
theorem loop_var {α σ β : Type} (f : Nat → α → σ → σ ⊕ β) (E : σ → β) (I : Nat → σ → Prop) (d : α) (l : List α) (hn : l.length ≤ 9223372036854775806) (L : Nat → σ → Int → β) (K c : Nat)
    (hS : ∀ (k i : Nat) (s : σ), K ≤ k → i < l.length → I i s → match f i (l.getD i d) s with
      | .inl s' => I (i + 1) s' ∧ ∃ k', k ≤ k' + c ∧ L (k + 1) s (i : Int) = L k' s' (wrap64 ((i : Int) + 1))
      | .inr r => L (k + 1) s (i : Int) = r)
    (hE : ∀ (k : Nat) (s : σ), K ≤ k → I l.length s → L (k + 1) s (l.length : Int) = E s) (k : Nat) (hk : K + l.length * (c + 1) < k) (s : σ) (h0 : I 0 s) : L k s 0 = runS f E l 0 s := by
  have key : ∀ (n k i : Nat) (s : σ), i + n = l.length → K + n * (c + 1) < k → I i s → L k s (i : Int) = runS f E (l.drop i) i s := by
    intro n
    induction n with
    | zero =>
      intro k i s hi hk hs
      obtain ⟨k, rfl, _⟩ := succ_of hk
      have : i = l.length := by omega
      subst this
      rw [hE k s (by omega) hs, List.drop_length]
      rfl
    | succ n ih =>
      intro k i s hi hk hs
      rw [Nat.succ_mul] at hk
      obtain ⟨k, rfl, _⟩ := succ_of hk
      have h := hS k i s (by omega) (by omega) hs
      rw [drop_getD l d i (by omega)]
      simp only [runS]
      cases hf : f i (l.getD i d) s with
      | inr r => rw [hf] at h; exact h
      | inl s' =>
        rw [hf] at h
        obtain ⟨h1, k', h2, h3⟩ := h
        simp only
        rw [h3, wrap_id (by omega) (by omega)]
        have h4 := ih k' (i + 1) s' (by omega) (by omega) h1
        rw [← h4]
        rfl
  have h := key l.length k 0 s (by omega) hk h0
  simpa using h
end Go.Proofs.Ytppmalfpggkpdaa.L

-- made by printx.py (own driver over the kit's print); Lean checks it
namespace Go.Proofs.Ytppmalfpggkpdaa.P
open Go.RowKit Go.Proofs.YtppmalfpggkpdaaW.PrintWords Go.Proofs.YtppmalfpggkpdaaW.PrintLast Go.Proofs.YtppmalfpggkpdaaW.PrintMore
attribute [local go_sem] max2_int min2_int max_two min_two max_three min_three max_four min_four   -- for this text's walks alone
set_option linter.unusedVariables false
set_option linter.unusedSimpArgs false

/-! ### impl_UnitOk: function 69 -/
def impl_UnitOk.f (k : Nat) (l0 : List (S52)) : Option (Bool) := if (l0.length : Int) ≤ 5 then ((impl_funsOk.f k l0).bind fun t269 => (some t269)) else (some false)
end Go.Proofs.Ytppmalfpggkpdaa.P

-- made by printx.py (own driver over the kit's print); Lean checks it
namespace Go.Proofs.Ytppmalfpggkpdaa.P
open Go.RowKit Go.Proofs.YtppmalfpggkpdaaW.PrintWords Go.Proofs.YtppmalfpggkpdaaW.PrintLast Go.Proofs.YtppmalfpggkpdaaW.PrintMore
attribute [local go_sem] max2_int min2_int max_two min_two max_three min_three max_four min_four   -- for this text's walks alone
set_option linter.unusedVariables false
set_option linter.unusedSimpArgs false

/-! ### impl_UnitFind: function 38 -/
def impl_UnitFind.f (k : Nat) (l0 : List (S52)) (a1 : ByteArray) : Option (Int) := (impl_UnitOk.f k l0).bind fun t808 => (if t808 = true then ((impl_find.f l0 a1).bind fun t809 => (some t809)) else (some (-1)))
end Go.Proofs.Ytppmalfpggkpdaa.P

-- made by printx.py (own driver over the kit's print); Lean checks it
namespace Go.Proofs.Ytppmalfpggkpdaa.P
open Go.RowKit Go.Proofs.YtppmalfpggkpdaaW.PrintWords Go.Proofs.YtppmalfpggkpdaaW.PrintLast Go.Proofs.YtppmalfpggkpdaaW.PrintMore
attribute [local go_sem] max2_int min2_int max_two min_two max_three min_three max_four min_four   -- for this text's walks alone
set_option linter.unusedVariables false
set_option linter.unusedSimpArgs false

/-! ### spec_UnitOk: function 36 -/
def spec_UnitOk.l0 : Nat → List (S52) → Int → Option (Bool)
  | 0, _, _ => none
  | k + 1, x0, x3 => if x3 < (x0.length : Int) then (if 0 ≤ x3 then ((spec_FunOk.f k ((rd_T52 x0 x3).f0) ((rd_T52 x0 x3).f1) ((rd_T52 x0 x3).f2)).bind fun t121 => (if t121 = true then ((spec_l2Find.f k x0 ((rd_T52 x0 x3).f0)).bind fun t123 => (if t123 = x3 then (spec_UnitOk.l0 k x0 (wrap64 (x3 + 1))) else (some false))) else (some false))) else (none)) else (some (decide ((x0.length : Int) ≤ 5)))
def spec_UnitOk.f (k : Nat) (l0 : List (S52)) : Option (Bool) := spec_UnitOk.l0 k l0 0
end Go.Proofs.Ytppmalfpggkpdaa.P

/- When a unit is ok, and where its functions are: what the printed functions of both sides compute. -/
namespace Go.Proofs.Ytppmalfpggkpdaa.L
open Go.RowKit Go.Proofs.YtppmalfpggkpdaaW.PrintWords Go.Proofs.YtppmalfpggkpdaaW.PrintLast Go.Proofs.YtppmalfpggkpdaaW.PrintMore Go.Proofs.Ytppmalfpggkpdaa.P
set_option linter.unusedVariables false
set_option linter.unusedSimpArgs false
def FitF (x : S52) : Prop := x.f0.size ≤ 140737488351232 ∧ x.f2.length ≤ 140737488351232 ∧ ∀ y ∈ x.f2, y.f2.size ≤ 140737488351232
def named (a : ByteArray) (x : S52) : Bool := x.f0.toList == a.toList
def findI (l : List S52) (a : ByteArray) : Int := idxFrom (named a) l 0
def unitGood (l : List S52) : Bool := allFrom (fun i x => funOkB x.f0 x.f2 && (findI l x.f0 == (i : Int))) l 0
theorem impl_FunOk_f (x : S52) (h : FitF x) : impl_FunOk.f x.f0 x.f1 x.f2 = some (funOkB x.f0 x.f2) := by
  unfold impl_FunOk.f
  rw [if_pos ⟨h.1, h.2.2⟩]
theorem spec_FunOk_l0 (x : S52) (h : FitF x) (k : Nat) (hk : 140737488351236 + x.f2.length < k) : spec_FunOk.l0 k (x.f2.length : Int) 0 x.f0 x.f1 x.f2 = some (!(x.f2.any fun y => !insOkB y.f0 y.f1 y.f2)) := by
  have e := loop_all (fun _ (y : S110) => insOkB y.f0 y.f1 y.f2) z110 x.f2 true (by have := h.2.1; omega) (fun k i => spec_FunOk.l0 k (x.f2.length : Int) i x.f0 x.f1 x.f2) 140737488351236 ?_ ?_ ?_ k hk
  · rw [e, allFrom_all, Bool.and_true, all_not_any]
  · intro k i hK hi hq
    simp only [spec_FunOk.l0]
    have e := spec_InsOk_f (rd_T110 x.f2 (i : Int)).f0 (rd_T110 x.f2 (i : Int)).f1 (rd_T110 x.f2 (i : Int)).f2 (h.2.2 _ (getD_mem hi)) k (by have : (rd_T110 x.f2 (i : Int)).f2.size ≤ 140737488351232 := h.2.2 _ (getD_mem hi); omega)
    rw [show insOkB (rd_T110 x.f2 (i : Int)).f0 (rd_T110 x.f2 (i : Int)).f1 (rd_T110 x.f2 (i : Int)).f2 = true from hq] at e
    rw [if_pos (by omega), if_pos (by omega), if_pos (by omega), e]
    rfl
  · intro k i hK hi hq
    simp only [spec_FunOk.l0]
    have e := spec_InsOk_f (rd_T110 x.f2 (i : Int)).f0 (rd_T110 x.f2 (i : Int)).f1 (rd_T110 x.f2 (i : Int)).f2 (h.2.2 _ (getD_mem hi)) k (by have : (rd_T110 x.f2 (i : Int)).f2.size ≤ 140737488351232 := h.2.2 _ (getD_mem hi); omega)
    rw [show insOkB (rd_T110 x.f2 (i : Int)).f0 (rd_T110 x.f2 (i : Int)).f1 (rd_T110 x.f2 (i : Int)).f2 = false from hq] at e
    rw [if_pos (by omega), if_pos (by omega), if_pos (by omega), e]
    rfl
  · intro k hK
    simp only [spec_FunOk.l0]
    rw [if_neg (by omega)]
theorem spec_FunOk_f (x : S52) (h : FitF x) (k : Nat) (hk : 140737488351240 + x.f2.length < k) : spec_FunOk.f k x.f0 x.f1 x.f2 = some (funOkB x.f0 x.f2) := by
  obtain ⟨m, rfl⟩ : ∃ m, k = m + 1 := ⟨k - 1, by omega⟩
  have hs := h.1
  have hl := h.2.1
  unfold spec_FunOk.f funOkB
  rw [spec_NameOk_f x.f0 h.1 _ (by omega)]
  simp only [Option.bind_some]
  have j (b : Bool) : spec_FunOk.j0 (m + 1) (x.f2.length : Int) b x.f0 x.f1 x.f2 = some (!b && !(x.f2.any fun y => !insOkB y.f0 y.f1 y.f2)) := by
    simp only [spec_FunOk.j0]
    cases b with
    | true => rfl
    | false => rw [if_neg (by decide), spec_FunOk_l0 x h m (by omega)]; rfl
  cases nameOk x.f0 with
  | false => rw [if_neg (by decide), j]; rfl
  | true =>
    rw [if_pos rfl]
    by_cases h1 : (x.f2.length : Int) < 1
    · have e1 : decide (1 ≤ (x.f2.length : Int)) = false := decide_eq_false (by omega)
      rw [if_pos h1, j, e1]; rfl
    · rw [if_neg h1]
      have e1 : decide (1 ≤ (x.f2.length : Int)) = true := decide_eq_true (by omega)
      by_cases h2 : (x.f2.length : Int) > 10
      · have e2 : decide ((x.f2.length : Int) ≤ 10) = false := decide_eq_false (by omega)
        rw [if_pos h2, j, e1, e2]; rfl
      · rw [if_neg h2]
        have e2 : decide ((x.f2.length : Int) ≤ 10) = true := decide_eq_true (by omega)
        have w : wrap64 ((x.f2.length : Int) - 1) = (x.f2.length : Int) - 1 := wrap_id (by omega) (by omega)
        rw [w, if_pos (by omega), if_pos (by omega), spec_InsLast_f]
        simp only [Option.bind_some]
        rw [j, e1, e2]
        have e3 : (rd_T110 x.f2 ((x.f2.length : Int) - 1)) = x.f2.getD (x.f2.length - 1) z110 := by
          unfold rd_T110
          rw [show ((x.f2.length : Int) - 1).toNat = x.f2.length - 1 by omega]
        rw [e3]
        simp [Bool.and_comm]
theorem spec_l2Find_f (l : List S52) (hn : l.length ≤ 9223372036854775807) (a : ByteArray) (k : Nat) (hk : l.length < k) : spec_l2Find.f k l a = some (findI l a) := by
  unfold spec_l2Find.f findI
  refine loop_idx (named a) z52 l hn (fun k i => spec_l2Find.l0 k l a i) 0 ?_ ?_ ?_ k (by omega)
  · intro k i _ hi hq
    simp only [spec_l2Find.l0]
    rw [if_pos (by omega), if_pos (by omega), if_pos (show (rd_T52 l (i : Int)).f0.toList = a.toList from beq_iff_eq.mp hq)]
  · intro k i _ hi hq
    simp only [spec_l2Find.l0]
    rw [if_pos (by omega), if_pos (by omega), if_neg (show ¬ (rd_T52 l (i : Int)).f0.toList = a.toList from beq_eq_false_iff_ne.mp hq)]
  · intro k _
    simp only [spec_l2Find.l0]
    rw [if_neg (by omega)]
theorem impl_funsOk_f (l : List S52) (hn : l.length ≤ 140737488351232) (hx : ∀ x ∈ l, FitF x) (k : Nat) (hk : l.length < k) : impl_funsOk.f k l = some (unitGood l) := by
  unfold impl_funsOk.f
  have step : ∀ (k i : Nat), i < l.length → impl_funsOk.l0 (k + 1) l l (l.length : Int) (i : Int) = if (funOkB (l.getD i z52).f0 (l.getD i z52).f2 && (findI l (l.getD i z52).f0 == (i : Int))) = true then impl_funsOk.l0 k l l (l.length : Int) (wrap64 ((i : Int) + 1)) else some false := by
    intro k i hi
    simp only [impl_funsOk.l0]
    have hf := hx _ (getD_mem (d := z52) hi)
    have e := impl_FunOk_f (rd_T52 l (i : Int)) hf
    rw [if_pos (by omega), if_pos (by omega), if_pos (by omega), e]
    simp only [Option.bind_some]
    show (if funOkB (l.getD i z52).f0 (l.getD i z52).f2 = true then _ else _) = _
    cases funOkB (l.getD i z52).f0 (l.getD i z52).f2 with
    | false => rfl
    | true =>
      rw [if_pos rfl]
      simp only [impl_find.f, Option.bind_some, Bool.true_and]
      show (if findI l (l.getD i z52).f0 = (i : Int) then _ else _) = _
      by_cases hq : findI l (l.getD i z52).f0 = (i : Int)
      · rw [if_pos hq, if_pos (beq_iff_eq.mpr hq)]
      · rw [if_neg hq, if_neg (by rw [beq_eq_false_iff_ne.mpr hq]; decide)]
  have e := loop_all (fun i x => funOkB x.f0 x.f2 && (findI l x.f0 == (i : Int))) z52 l true (by omega) (fun k i => impl_funsOk.l0 k l l (l.length : Int) i) 0 ?_ ?_ ?_ k (by omega)
  · rw [e, Bool.and_true]; rfl
  · intro k i hK hi hq
    show impl_funsOk.l0 (k + 1) l l (l.length : Int) (i : Int) = _
    rw [step k i hi, if_pos hq]
  · intro k i hK hi hq
    show impl_funsOk.l0 (k + 1) l l (l.length : Int) (i : Int) = _
    rw [step k i hi, if_neg (by rw [hq]; decide)]
  · intro k _
    simp only [impl_funsOk.l0]
    rw [if_neg (by omega)]
end Go.Proofs.Ytppmalfpggkpdaa.L

-- made by printx.py (own driver over the kit's print); Lean checks it
namespace Go.Proofs.Ytppmalfpggkpdaa.P
open Go.RowKit Go.Proofs.YtppmalfpggkpdaaW.PrintWords Go.Proofs.YtppmalfpggkpdaaW.PrintLast Go.Proofs.YtppmalfpggkpdaaW.PrintMore
attribute [local go_sem] max2_int min2_int max_two min_two max_three min_three max_four min_four   -- for this text's walks alone
set_option linter.unusedVariables false
set_option linter.unusedSimpArgs false

/-! ### impl_FunRefs: function 37 -/
def impl_FunRefs.f (k : Nat) (a0_0 : ByteArray) (a0_1 : Bool) (l0_2 : List (S110)) : Option (List ByteArray) := (impl_FunOk.f a0_0 a0_1 l0_2).bind fun t804 => (if t804 = true then ((impl_Fun_refs.f k a0_0 a0_1 l0_2).bind fun t805 => (some t805)) else (some ([] : List ByteArray)))
end Go.Proofs.Ytppmalfpggkpdaa.P

/- The names in a function; marks in texts. -/
namespace Go.Proofs.Ytppmalfpggkpdaa.L
open Go.RowKit Go.Proofs.YtppmalfpggkpdaaW.PrintWords Go.Proofs.YtppmalfpggkpdaaW.PrintLast Go.Proofs.YtppmalfpggkpdaaW.PrintMore Go.Proofs.Ytppmalfpggkpdaa.P
set_option linter.unusedVariables false
set_option linter.unusedSimpArgs false
def hasB (l : List ByteArray) (a : ByteArray) : Bool := l.any fun x => x.toList == a.toList
def refsAdd (x : S110) (s : List ByteArray) : List ByteArray := if refersB x.f0 && !hasB s x.f2 then s ++ [x.f2] else s
def refsV (l : List S110) : List ByteArray := l.foldl (fun s x => refsAdd x s) []
theorem refsAdd_len (x : S110) (s : List ByteArray) : (refsAdd x s).length ≤ s.length + 1 := by
  unfold refsAdd
  split
  · simp
  · omega
theorem foldl_len : ∀ (l : List S110) (s : List ByteArray), (l.foldl (fun s x => refsAdd x s) s).length ≤ s.length + l.length
  | [], s => by simp
  | x :: l, s => by
    have := foldl_len l (refsAdd x s)
    have := refsAdd_len x s
    simp only [List.foldl, List.length_cons]
    omega
theorem refsV_len (l : List S110) : (refsV l).length ≤ l.length := by
  have := foldl_len l []
  simpa [refsV] using this
theorem runS_fold {β : Type} (E : List ByteArray → β) : ∀ (l : List S110) (i : Nat) (s : List ByteArray), runS (fun _ x s => (.inl (refsAdd x s) : List ByteArray ⊕ β)) E l i s = E (l.foldl (fun s x => refsAdd x s) s)
  | [], _, _ => rfl
  | x :: l, i, s => runS_fold E l (i + 1) (refsAdd x s)
theorem slices_Contains_sstring_string_f (l : List ByteArray) (hn : l.length ≤ 9223372036854775807) (a : ByteArray) (k : Nat) (hk : l.length < k) : slices_Contains_sstring_string.f k l a = some (hasB l a) := by
  unfold slices_Contains_sstring_string.f slices_Index_sstring_string.f
  have h : slices_Index_sstring_string.l0 k l a (l.length : Int) 0 = some (idxFrom (fun x => x.toList == a.toList) l 0) := by
    refine loop_idx (fun x => x.toList == a.toList) ByteArray.empty l hn (fun k i => slices_Index_sstring_string.l0 k l a (l.length : Int) i) 0 ?_ ?_ ?_ k (by omega)
    · intro k i _ hi hq
      simp only [slices_Index_sstring_string.l0]
      rw [if_pos (by omega), if_pos (by omega), if_pos (by omega), if_pos (show a.toList = (rdOf ByteArray.empty l (i : Int)).toList from (beq_iff_eq.mp hq).symm)]
    · intro k i _ hi hq
      simp only [slices_Index_sstring_string.l0]
      rw [if_pos (by omega), if_pos (by omega), if_pos (by omega), if_neg (show ¬ a.toList = (rdOf ByteArray.empty l (i : Int)).toList from fun e => beq_eq_false_iff_ne.mp hq e.symm)]
    · intro k _
      simp only [slices_Index_sstring_string.l0]
      rw [if_neg (by omega)]
  rw [h]
  simp only [Option.bind_some, hasB]
  rw [← idxFrom_any _ l 0 (by decide)]
theorem spec_l2Has_f (l : List ByteArray) (hn : l.length ≤ 9223372036854775806) (a : ByteArray) (k : Nat) (hk : l.length < k) : spec_l2Has.f k l a = some (hasB l a) := by
  have e : ∀ (l' : List ByteArray) (i : Nat), runS (fun _ x (_ : Unit) => if x.toList = a.toList then (.inr (some true) : Unit ⊕ Option Bool) else .inl ()) (fun _ => some false) l' i () = some (hasB l' a) := by
    intro l'
    induction l' with
    | nil => intro i; rfl
    | cons x l' ih =>
      intro i
      simp only [runS, hasB, List.any_cons]
      by_cases h : x.toList = a.toList
      · rw [if_pos h, beq_iff_eq.mpr h]; rfl
      · rw [if_neg h, beq_eq_false_iff_ne.mpr h]
        exact ih (i + 1)
  unfold spec_l2Has.f
  refine (loop_run (fun _ x (_ : Unit) => if x.toList = a.toList then (.inr (some true) : Unit ⊕ Option Bool) else .inl ()) (fun _ _ => some false) (fun _ _ => True) ByteArray.empty l hn (fun k _ i => spec_l2Has.l0 k l a i) 0 ?_ (fun _ _ _ _ _ _ => trivial) ?_ k (by omega) () trivial).trans (e l 0)
  · intro k i s _ hi _
    simp only [spec_l2Has.l0]
    rw [if_pos (by omega), if_pos (by omega)]
    show (if (l.getD i ByteArray.empty).toList = a.toList then _ else _) = _
    split <;> rfl
  · intro k s _ _
    simp only [spec_l2Has.l0]
    rw [if_neg (by omega)]
theorem impl_Fun_refs_f (a : ByteArray) (b : Bool) (l : List S110) (hn : l.length ≤ 8796093022207) (k : Nat) (hk : 2 * l.length + 5 < k) : impl_Fun_refs.f k a b l = some (refsV l) := by
  unfold impl_Fun_refs.f
  refine (loop_run (fun _ x s => (.inl (refsAdd x s) : List ByteArray ⊕ Option (List ByteArray))) (fun _ s => some s) (fun i s => s.length ≤ i) z110 l (by omega) (fun k s i => impl_Fun_refs.l0 k s l (l.length : Int) i) (l.length + 1) ?_ ?_ ?_ k (by omega) [] (by simp)).trans (runS_fold _ l 0 [])
  · intro k i s hK hi hs
    simp only [impl_Fun_refs.l0]
    rw [if_pos (by omega), if_pos (by omega), if_pos (by omega), impl_InsRefs_f (rd_T110 l (i : Int)).f0 _ _]
    simp only [Option.bind_some]
    rw [slices_Contains_sstring_string_f s (by omega) _ k (by omega)]
    simp only [Option.bind_some]
    show (if refersB (l.getD i z110).f0 = true then (if hasB s (l.getD i z110).f2 = true then _ else (if s.length < 8796093022208 then impl_Fun_refs.l0 k (s ++ [(l.getD i z110).f2]) l (l.length : Int) (wrap64 ((i : Int) + 1)) else none)) else _) = impl_Fun_refs.l0 k (refsAdd (l.getD i z110) s) l (l.length : Int) (wrap64 ((i : Int) + 1))
    rw [if_pos (show s.length < 8796093022208 by omega)]
    unfold refsAdd
    cases refersB (l.getD i z110).f0 <;> cases hasB s (l.getD i z110).f2 <;> rfl
  · intro i s s' hi hs he
    have := refsAdd_len (l.getD i z110) s
    cases he
    omega
  · intro k s _ _
    simp only [impl_Fun_refs.l0]
    rw [if_neg (by omega)]
theorem spec_l2Refs_f (l : List S110) (hn : l.length ≤ 8796093022207) (k : Nat) (hk : 2 * l.length + 5 < k) : spec_l2Refs.f k l = some (refsV l) := by
  unfold spec_l2Refs.f
  refine (loop_run (fun _ x s => (.inl (refsAdd x s) : List ByteArray ⊕ Option (List ByteArray))) (fun _ s => some s) (fun i s => s.length ≤ i) z110 l (by omega) (fun k s i => spec_l2Refs.l0 k l s i) (l.length + 1) ?_ ?_ ?_ k (by omega) [] (by simp)).trans (runS_fold _ l 0 [])
  · intro k i s hK hi hs
    simp only [spec_l2Refs.l0]
    rw [if_pos (by omega), if_pos (by omega), spec_InsRefs_f (rd_T110 l (i : Int)).f0 _ _]
    simp only [Option.bind_some]
    rw [spec_l2Has_f s (by omega) _ k (by omega)]
    simp only [Option.bind_some]
    show (if refersB (l.getD i z110).f0 = true then (if hasB s (l.getD i z110).f2 = true then _ else (if s.length < 8796093022208 then spec_l2Refs.l0 k l (s ++ [(l.getD i z110).f2]) (wrap64 ((i : Int) + 1)) else none)) else _) = spec_l2Refs.l0 k l (refsAdd (l.getD i z110) s) (wrap64 ((i : Int) + 1))
    rw [if_pos (show s.length < 8796093022208 by omega)]
    unfold refsAdd
    cases refersB (l.getD i z110).f0 <;> cases hasB s (l.getD i z110).f2 <;> rfl
  · intro i s s' hi hs he
    have := refsAdd_len (l.getD i z110) s
    cases he
    omega
  · intro k s _ _
    simp only [spec_l2Refs.l0]
    rw [if_neg (by omega)]
end Go.Proofs.Ytppmalfpggkpdaa.L

/- The names that functions lack; when a program is ok. -/
namespace Go.Proofs.Ytppmalfpggkpdaa.L
open Go.RowKit Go.Proofs.YtppmalfpggkpdaaW.PrintWords Go.Proofs.YtppmalfpggkpdaaW.PrintLast Go.Proofs.YtppmalfpggkpdaaW.PrintMore Go.Proofs.Ytppmalfpggkpdaa.P
set_option linter.unusedVariables false
set_option linter.unusedSimpArgs false
/-- Of some names, those that no function of p has. -/
def lackOf (p : List S52) (ns : List ByteArray) : List ByteArray := ns.filter fun a => decide (findI p a < 0)
def lackRaw (p l : List S52) : List ByteArray := l.flatMap fun x => lackOf p (refsV x.f2)
theorem lackOf_len (p : List S52) (ns : List ByteArray) : (lackOf p ns).length ≤ ns.length := List.length_filter_le _ _
def goodRaw (p : List S52) : Bool := p.all fun x => (refsV x.f2).all fun a => !decide (findI p a < 0)
theorem lackRaw_good (p : List S52) : (lackRaw p p).isEmpty = goodRaw p := by
  have key : ∀ l : List S52, (lackRaw p l).isEmpty = l.all fun x => (refsV x.f2).all fun a => !decide (findI p a < 0) := by
    intro l
    induction l with
    | nil => rfl
    | cons x l ih =>
      have e : lackRaw p (x :: l) = lackOf p (refsV x.f2) ++ lackRaw p l := by simp [lackRaw]
      have e2 : ∀ ns : List ByteArray, (lackOf p ns).isEmpty = ns.all fun a => !decide (findI p a < 0) := by
        intro ns
        induction ns with
        | nil => rfl
        | cons a ns ih2 =>
          rw [List.all_cons, ← ih2]
          unfold lackOf
          rw [List.filter_cons]
          cases h : decide (findI p a < 0) with
          | true => simp
          | false => simp
      have e3 : ∀ a b : List ByteArray, (a ++ b).isEmpty = (a.isEmpty && b.isEmpty) := fun a b => by cases a <;> rfl
      rw [e, List.all_cons, ← ih, ← e2, e3]
  exact key p
theorem compact_nil_iff (l : List (List UInt8)) : (Lib.compact l).isEmpty = l.isEmpty := by
  have key : ∀ (d : Array (List UInt8)) (m : Nat), Lib.compactUpTo d (m + 1) ≠ [] := by
    intro d m
    induction m with
    | zero =>
      rw [Lib.compactUpTo_succ]
      have : Lib.keeps d 0 = true := by simp [Lib.keeps]
      rw [if_pos this]
      simp
    | succ m ih =>
      rw [Lib.compactUpTo_succ]
      intro h
      exact ih (List.append_eq_nil_iff.mp h).1
  cases l with
  | nil => rfl
  | cons x l =>
    have := key (x :: l).toArray l.length
    unfold Lib.compact
    cases h : Lib.compactUpTo (x :: l).toArray (x :: l).length with
    | nil => exact absurd h this
    | cons _ _ => rfl
theorem orderedV_nil (l : List ByteArray) : (orderedV l).isEmpty = l.isEmpty := by
  have h1 : ∀ m : List (List UInt8), (textsL m).isEmpty = m.isEmpty := fun m => by cases m <;> rfl
  have h2 : ∀ m : List (List UInt8), (sortV m).isEmpty = m.isEmpty := fun m => by
    have := List.length_mergeSort (le := fun x y => decide (x ≤ y)) m
    cases h : sortV m with
    | nil => unfold sortV at h; rw [h] at this; cases m with
      | nil => rfl
      | cons _ _ => simp at this
    | cons _ _ => unfold sortV at h; rw [h] at this; cases m with
      | nil => simp at this
      | cons _ _ => rfl
  have h3 : (bytesL l).isEmpty = l.isEmpty := by cases l <;> rfl
  unfold orderedV
  rw [h1, compact_nil_iff, h2, h3]
theorem len_isEmpty {α : Type} (l : List α) : (((l.length : Nat) : Int) == 0) = l.isEmpty := by
  cases l with
  | nil => rfl
  | cons x l => simp only [List.length_cons, List.isEmpty_cons, beq_eq_false_iff_ne]; omega
theorem runS_filter {β : Type} (q : ByteArray → Bool) (E : List ByteArray → β) : ∀ (l : List ByteArray) (i : Nat) (s : List ByteArray), runS (fun _ a s => if q a then (.inl (s ++ [a]) : List ByteArray ⊕ β) else .inl s) E l i s = E (s ++ l.filter q)
  | [], _, s => by simp [runS]
  | a :: l, i, s => by
    simp only [runS, List.filter_cons]
    cases h : q a with
    | true => rw [if_pos rfl, if_pos rfl]; simp only; rw [runS_filter q E l (i + 1) (s ++ [a]), List.append_assoc]; rfl
    | false => rw [if_neg (by decide), if_neg (by decide)]; simp only; exact runS_filter q E l (i + 1) s
theorem runS_flat {β : Type} (p : List S52) (E : List ByteArray → β) : ∀ (l : List S52) (i : Nat) (s : List ByteArray), runS (fun _ x s => (.inl (s ++ lackOf p (refsV x.f2)) : List ByteArray ⊕ β)) E l i s = E (s ++ lackRaw p l)
  | [], _, s => by simp [runS, lackRaw]
  | x :: l, i, s => by
    simp only [runS]
    rw [runS_flat p E l (i + 1) _, List.append_assoc]
    rfl
theorem impl_lacking_l1 (p l : List S52) (c j : Int) (ns : List ByteArray) (hn : ns.length ≤ 1000) (s : List ByteArray) (hs : s.length ≤ 1000000) (k : Nat) (hk : ns.length < k) :
    impl_lacking.l1 k p s l c j ns (ns.length : Int) 0 = impl_lacking.l0 (k - ns.length - 1) p (s ++ lackOf p ns) l c (wrap64 (j + 1)) := by
  refine (loop_run (fun _ a s => if decide (findI p a < 0) then (.inl (s ++ [a]) : List ByteArray ⊕ Option (List ByteArray)) else .inl s) (fun k s => impl_lacking.l0 k p s l c (wrap64 (j + 1))) (fun i s => s.length ≤ 1000000 + i) ByteArray.empty ns (by omega) (fun k s i => impl_lacking.l1 k p s l c j ns (ns.length : Int) i) 0 ?_ ?_ ?_ k (by omega) s (by omega)).trans (runS_filter _ _ ns 0 s)
  · intro k i s _ hi hI
    simp only [impl_lacking.l1, impl_find.f]
    rw [if_pos (by omega), if_pos (by omega), if_pos (by omega)]
    simp only [Option.bind_some]
    show (if findI p (ns.getD i ByteArray.empty) < 0 then (if s.length < 8796093022208 then impl_lacking.l1 k p (s ++ [ns.getD i ByteArray.empty]) l c j ns (ns.length : Int) (wrap64 ((i : Int) + 1)) else none) else _) = _
    rw [if_pos (show s.length < 8796093022208 by omega)]
    by_cases h : findI p (ns.getD i ByteArray.empty) < 0
    · rw [if_pos h, if_pos (decide_eq_true h)]
    · rw [if_neg h, if_neg (by rw [decide_eq_false h]; decide)]
  · intro i s s' hi hI he
    split at he
    · cases he; simp only [List.length_append, List.length_cons, List.length_nil]; omega
    · cases he; omega
  · intro k s _ _
    simp only [impl_lacking.l1]
    rw [if_neg (by omega)]
theorem impl_lacking_f (p : List S52) (hn : p.length ≤ 100) (hx : ∀ x ∈ p, x.f2.length ≤ 100) (k : Nat) (hk : 100000 < k) : impl_lacking.f k p = some (orderedV (lackRaw p p)) := by
  unfold impl_lacking.f
  refine (loop_var (fun _ x s => (.inl (s ++ lackOf p (refsV x.f2)) : List ByteArray ⊕ Option (List ByteArray))) (fun s => some (orderedV s)) (fun i s => s.length ≤ 100 * i) z52 p (by omega) (fun k s i => impl_lacking.l0 k p s p (p.length : Int) i) 1000 200 ?_ ?_ k (by omega) [] (by simp)).trans (by rw [runS_flat]; rfl)
  · intro k i s hK hi hs
    have hr := refsV_len (p.getD i z52).f2
    have hx2 := hx _ (getD_mem (d := z52) hi)
    have hl := lackOf_len p (refsV (p.getD i z52).f2)
    simp only
    refine ⟨by rw [List.length_append]; omega, k - (refsV (p.getD i z52).f2).length - 1, by omega, ?_⟩
    simp only [impl_lacking.l0]
    rw [show rd_T52 p (i : Int) = p.getD i z52 from rfl]
    rw [if_pos (by omega), if_pos (by omega), if_pos (by omega), impl_Fun_refs_f _ _ (p.getD i z52).f2 (by omega) k (by omega)]
    simp only [Option.bind_some]
    rw [impl_lacking_l1 p p _ _ _ (by omega) s (by omega) k (by omega)]
  · intro k s _ hs
    simp only [impl_lacking.l0]
    rw [if_neg (by omega)]
    unfold impl_ordered.f
    rw [if_pos (by omega)]
    rfl
theorem unitGood_len {p : List S52} (h : unitGood p = true) : ∀ x ∈ p, x.f2.length ≤ 10 := by
  have key : ∀ (l : List S52) (i : Nat), allFrom (fun i x => funOkB x.f0 x.f2 && (findI p x.f0 == (i : Int))) l i = true → ∀ x ∈ l, x.f2.length ≤ 10 := by
    intro l
    induction l with
    | nil => intro i _ x hx; simp at hx
    | cons y l ih =>
      intro i h x hx
      simp only [allFrom, Bool.and_eq_true] at h
      rcases List.mem_cons.mp hx with rfl | hx
      · exact (funOkB_len h.1.1).2
      · exact ih (i + 1) h.2 x hx
  exact key p 0 h
def keepOkB (p : List S52) : Bool := (decide (1 ≤ (p.length : Int)) && decide ((p.length : Int) ≤ 40)) && (unitGood p && goodRaw p)
theorem impl_KeepOk_f (p : List S52) (hn : p.length ≤ 140737488351232) (hx : ∀ x ∈ p, FitF x) (k : Nat) (hk : 100000 + p.length < k) : impl_KeepOk.f k p = some (keepOkB p) := by
  unfold impl_KeepOk.f keepOkB
  rw [impl_in_f]
  simp only [Option.bind_some]
  cases h1 : decide (1 ≤ (p.length : Int)) && decide ((p.length : Int) ≤ 40) with
  | false => rw [if_neg (by decide)]; rfl
  | true =>
    rw [if_pos rfl, impl_funsOk_f p hn hx k (by omega)]
    simp only [Option.bind_some, Bool.true_and]
    cases h2 : unitGood p with
    | false => rw [if_neg (by decide)]; rfl
    | true =>
      simp only [Bool.and_eq_true, decide_eq_true_eq] at h1
      have h3 := unitGood_len h2
      rw [if_pos rfl, impl_lacking_f p (by omega) (fun x hx => by have := h3 x hx; omega) k (by omega)]
      simp only [Option.bind_some, Bool.true_and]
      rw [len_isEmpty, orderedV_nil, lackRaw_good]
theorem runS_all {β : Type} (q : ByteArray → Bool) (E : β) (F : β) : ∀ (l : List ByteArray) (i : Nat), runS (fun _ a (_ : Unit) => if q a then (.inr F : Unit ⊕ β) else .inl ()) (fun _ => E) l i () = if (l.all fun a => !q a) = true then E else F
  | [], _ => rfl
  | a :: l, i => by
    simp only [runS]
    by_cases h : q a = true
    · rw [if_pos h, show ((a :: l).all fun a => !q a) = false by rw [List.all_cons, h]; rfl]; rfl
    · have h' : q a = false := by simpa using h
      rw [if_neg h, show ((a :: l).all fun a => !q a) = (l.all fun a => !q a) by rw [List.all_cons, h']; rfl]; exact runS_all q E F l (i + 1)
theorem spec_KeepOk_l2 (p : List S52) (hn : p.length ≤ 1000) (j : Int) (ns : List ByteArray) (hl : ns.length ≤ 1000) (k : Nat) (hk : 1001 + ns.length < k) :
    spec_KeepOk.l2 k p j ns 0 = if (ns.all fun a => !decide (findI p a < 0)) = true then spec_KeepOk.l1 (k - ns.length - 1) p (wrap64 (j + 1)) else some false := by
  refine (loop_run (fun _ a (_ : Unit) => if decide (findI p a < 0) then (.inr (some false) : Unit ⊕ Option Bool) else .inl ()) (fun k _ => spec_KeepOk.l1 k p (wrap64 (j + 1))) (fun _ _ => True) ByteArray.empty ns (by omega) (fun k _ i => spec_KeepOk.l2 k p j ns i) 1001 ?_ (fun _ _ _ _ _ _ => trivial) ?_ k (by omega) () trivial).trans (runS_all _ _ _ ns 0)
  · intro k i s hK hi _
    simp only [spec_KeepOk.l2]
    rw [if_pos (by omega), if_pos (by omega), spec_l2Find_f p (by omega) _ k (by omega)]
    simp only [Option.bind_some]
    show (if findI p (ns.getD i ByteArray.empty) < 0 then _ else _) = _
    by_cases h : findI p (ns.getD i ByteArray.empty) < 0
    · rw [if_pos h, if_pos (decide_eq_true h)]
    · rw [if_neg h, if_neg (by rw [decide_eq_false h]; decide)]
  · intro k s _ _
    simp only [spec_KeepOk.l2]
    rw [if_neg (by omega)]
theorem runS_allF {β : Type} (q : S52 → Bool) (E : β) (F : β) : ∀ (l : List S52) (i : Nat), runS (fun _ a (_ : Unit) => if q a then (.inl () : Unit ⊕ β) else .inr F) (fun _ => E) l i () = if l.all q = true then E else F
  | [], _ => rfl
  | a :: l, i => by
    simp only [runS]
    by_cases h : q a = true
    · rw [if_pos h, show (a :: l).all q = l.all q by rw [List.all_cons, h]; rfl]; exact runS_allF q E F l (i + 1)
    · have h' : q a = false := by simpa using h
      rw [if_neg h, show (a :: l).all q = false by rw [List.all_cons, h']; rfl]; rfl
theorem spec_KeepOk_l1 (p : List S52) (hn : p.length ≤ 1000) (hx : ∀ x ∈ p, x.f2.length ≤ 10) (k : Nat) (hk : 200000 < k) : spec_KeepOk.l1 k p 0 = some (goodRaw p) := by
  refine (loop_var (fun _ x (_ : Unit) => if (refsV x.f2).all (fun a => !decide (findI p a < 0)) then (.inl () : Unit ⊕ Option Bool) else .inr (some false)) (fun _ => some true) (fun _ _ => True) z52 p (by omega) (fun k _ i => spec_KeepOk.l1 k p i) 2000 100 ?_ ?_ k (by omega) () trivial).trans ?_
  · intro k i s hK hi _
    have hr := refsV_len (p.getD i z52).f2
    have hx2 := hx _ (getD_mem (d := z52) hi)
    have e : spec_KeepOk.l1 (k + 1) p (i : Int) = if ((refsV (p.getD i z52).f2).all fun a => !decide (findI p a < 0)) = true then spec_KeepOk.l1 (k - (refsV (p.getD i z52).f2).length - 1) p (wrap64 ((i : Int) + 1)) else some false := by
      simp only [spec_KeepOk.l1]
      rw [show rd_T52 p (i : Int) = p.getD i z52 from rfl]
      rw [if_pos (by omega), if_pos (by omega), spec_l2Refs_f (p.getD i z52).f2 (by omega) k (by omega)]
      simp only [Option.bind_some]
      rw [spec_KeepOk_l2 p hn _ _ (by omega) k (by omega)]
    simp only [e]
    cases h : (refsV (p.getD i z52).f2).all fun a => !decide (findI p a < 0) with
    | true => exact ⟨trivial, k - (refsV (p.getD i z52).f2).length - 1, by omega, rfl⟩
    | false => rfl
  · intro k s _ _
    simp only [spec_KeepOk.l1]
    rw [if_neg (by omega)]
  · rw [runS_allF]
    unfold goodRaw
    split
    · rename_i h; rw [h]
    · rename_i h; rw [Bool.not_eq_true] at h; rw [h]
theorem spec_KeepOk_f (p : List S52) (hn : p.length ≤ 140737488351232) (hx : ∀ x ∈ p, FitF x) (k : Nat) (hk : 1000000000000000 ≤ k) : spec_KeepOk.f k p = some (keepOkB p) := by
  obtain ⟨m, rfl⟩ : ∃ m, k = m + 1 := ⟨k - 1, by omega⟩
  have hj (b : Bool) : spec_KeepOk.j0 (m + 1) p b = if b = true then some false else spec_KeepOk.l0 m p 0 := by simp only [spec_KeepOk.j0]
  unfold spec_KeepOk.f keepOkB
  rw [hj, hj]
  by_cases h1 : (p.length : Int) < 1
  · rw [if_pos h1, if_pos rfl, decide_eq_false (by omega)]; rfl
  · rw [if_neg h1, decide_eq_true (show 1 ≤ (p.length : Int) by omega)]
    by_cases h2 : (p.length : Int) > 40
    · rw [if_pos (decide_eq_true h2), decide_eq_false (show ¬ (p.length : Int) ≤ 40 by omega)]; rfl
    · rw [if_neg (by rw [decide_eq_false h2]; decide), decide_eq_true (show (p.length : Int) ≤ 40 by omega)]
      simp only [Bool.true_and]
      have e := loop_run (fun i x (_ : Unit) => if funOkB x.f0 x.f2 && (findI p x.f0 == (i : Int)) then (.inl () : Unit ⊕ Option Bool) else .inr (some false)) (fun k _ => spec_KeepOk.l1 k p 0) (fun _ _ => True) z52 p (by omega) (fun k _ i => spec_KeepOk.l0 k p i) 300000000000000 ?_ (fun _ _ _ _ _ _ => trivial) ?_ m (by omega) () trivial
      · rw [e]
        have key : ∀ (l : List S52) (i : Nat) (E : Option Bool), runS (fun i x (_ : Unit) => if funOkB x.f0 x.f2 && (findI p x.f0 == (i : Int)) then (.inl () : Unit ⊕ Option Bool) else .inr (some false)) (fun _ => E) l i () = if allFrom (fun i x => funOkB x.f0 x.f2 && (findI p x.f0 == (i : Int))) l i = true then E else some false := by
          intro l
          induction l with
          | nil => intro i E; rfl
          | cons x l ih =>
            intro i E
            simp only [runS]
            by_cases h : (funOkB x.f0 x.f2 && (findI p x.f0 == (i : Int))) = true
            · rw [if_pos h, show allFrom (fun i x => funOkB x.f0 x.f2 && (findI p x.f0 == (i : Int))) (x :: l) i = allFrom (fun i x => funOkB x.f0 x.f2 && (findI p x.f0 == (i : Int))) l (i + 1) by simp only [allFrom, h, Bool.true_and]]; exact ih (i + 1) E
            · have h' : (funOkB x.f0 x.f2 && (findI p x.f0 == (i : Int))) = false := Bool.eq_false_iff.mpr h
              rw [if_neg h, show allFrom (fun i x => funOkB x.f0 x.f2 && (findI p x.f0 == (i : Int))) (x :: l) i = false by simp only [allFrom, h', Bool.false_and]]; rfl
        rw [key p 0 _]
        show (if unitGood p = true then _ else _) = _
        cases h3 : unitGood p with
        | false => rfl
        | true =>
          rw [if_pos rfl, spec_KeepOk_l1 p (by omega) (unitGood_len h3) _ (by omega)]
          rfl
      · intro k i s hK hi _
        have hf := hx _ (getD_mem (d := z52) hi)
        simp only [spec_KeepOk.l0]
        rw [if_pos (by omega), if_pos (by omega), spec_FunOk_f (rd_T52 p (i : Int)) hf k (by have := hf.2.1; have e9 : rd_T52 p (i : Int) = p.getD i z52 := rfl; rw [e9]; omega)]
        simp only [Option.bind_some]
        show (if funOkB (p.getD i z52).f0 (p.getD i z52).f2 = true then _ else _) = _
        cases h3 : funOkB (p.getD i z52).f0 (p.getD i z52).f2 with
        | false => rw [if_neg (by decide)]; rfl
        | true =>
          rw [if_pos rfl, spec_l2Find_f p (by omega) _ k (by omega)]
          simp only [Option.bind_some, Bool.true_and]
          show (if findI p (p.getD i z52).f0 = (i : Int) then _ else _) = _
          by_cases hq : findI p (p.getD i z52).f0 = (i : Int)
          · rw [if_pos hq, if_pos (beq_iff_eq.mpr hq)]
          · rw [if_neg hq, if_neg (by rw [beq_eq_false_iff_ne.mpr hq]; decide)]
      · intro k s _ _
        simp only [spec_KeepOk.l0]
        rw [if_neg (by omega)]
end Go.Proofs.Ytppmalfpggkpdaa.L

-- made by printx.py (own driver over the kit's print); Lean checks it
namespace Go.Proofs.Ytppmalfpggkpdaa.P
open Go.RowKit Go.Proofs.YtppmalfpggkpdaaW.PrintWords Go.Proofs.YtppmalfpggkpdaaW.PrintLast Go.Proofs.YtppmalfpggkpdaaW.PrintMore
attribute [local go_sem] max2_int min2_int max_two min_two max_three min_three max_four min_four   -- for this text's walks alone
set_option linter.unusedVariables false
set_option linter.unusedSimpArgs false

/-! ### impl_MachOk: function 50 -/
-- IMPORT Derived.Test.YtppmalfpggkpdaaLLack
open Go.Proofs.Ytppmalfpggkpdaa.L in
/-- Is a place one of a program's? -/
def spotB (l0 : List S52) (a b : Int) : Bool := decide (0 ≤ a) && decide (a < (l0.length : Int)) && (decide (0 ≤ b) && decide (b < ((rd_T52 l0 a).f2.length : Int)))
open Go.Proofs.Ytppmalfpggkpdaa.L in
theorem impl_isSpot_f (l0 : List S52) (a b : Int) (hl : l0.length ≤ 140737488351232) (hx : ∀ x ∈ l0, FitF x) : impl_isSpot.f l0 a b = some (spotB l0 a b) := by
  unfold impl_isSpot.f spotB
  rw [impl_in_f, wrap_id (by omega) (by omega)]
  simp only [Option.bind_some]
  by_cases h0 : 0 ≤ a
  · by_cases h1 : a < (l0.length : Int)
    · have hm : (rd_T52 l0 a) ∈ l0 := getD_mem (by omega)
      have hf := (hx _ hm).2.1
      rw [if_pos (by rw [decide_eq_true h0, decide_eq_true (show a ≤ (l0.length : Int) - 1 by omega)]; rfl), if_pos h0, if_pos h1, impl_in_f, wrap_id (by omega) (by omega), decide_eq_true h0, decide_eq_true h1]
      simp only [Option.bind_some, Bool.true_and, Option.some.injEq]
      congr 1
      rw [decide_eq_decide]; omega
    · rw [if_neg (by rw [decide_eq_false (show ¬ a ≤ (l0.length : Int) - 1 by omega), Bool.and_false]; simp), decide_eq_false h1, Bool.and_false, Bool.false_and]
  · rw [if_neg (by rw [decide_eq_false h0, Bool.false_and]; simp), decide_eq_false h0, Bool.false_and, Bool.false_and]
open Go.Proofs.Ytppmalfpggkpdaa.L in
/-- Is a machine ok? -/
def machB (l0 : List S52) (a b c : Int) (l3 : List S68) (l4 : List Int) (d : Int) : Bool := keepOkB l0 && (spotB l0 a b && (!(l3.any fun s => !spotB l0 s.f0 s.f1) && stateB c (l3.length : Int) l4 d))
open Go.Proofs.Ytppmalfpggkpdaa.L in
/-- (Not told of a program that is too long for any argument.) -/
def impl_MachOk.f (l0 : List S52) (a1_0 : Int) (a1_1 : Int) (a1_2 : Int) (l1_3 : List S68) (l1_4 : List Int) (a1_5 : Int) : Option Bool := if l0.length ≤ 140737488351232 ∧ ∀ x ∈ l0, x.f0.size ≤ 140737488351232 ∧ x.f2.length ≤ 140737488351232 ∧ ∀ y ∈ x.f2, y.f2.size ≤ 140737488351232 then some (machB l0 a1_0 a1_1 a1_2 l1_3 l1_4 a1_5) else none
open Go.Proofs.Ytppmalfpggkpdaa.L in
set_option maxHeartbeats 1000000 in
theorem mach1_calls (x : S68) (A0 : Option Addr) (c0 : Nat) (l0 : List S52) (B : Nat) (w : World) (hB : w.cell? ⟨B, 0, none⟩ = some (.slice A0 l0.length c0)) (hlt : B < w.heap.size) (hr0 : Kd.C k52 w A0 l0.length l0) (hc0 : l0.length ≤ c0) (hl : l0.length ≤ 140737488351232) (hx : ∀ x ∈ l0, FitF x) :
    Calls Try.prog 104 #[.agg #[.int .i64 x.f0, .int .i64 x.f1], .pointer (some ⟨B, 0, none⟩)] w fun e w' => e = .returned (.bool (!spotB l0 x.f0 x.f1)) ∧ Below w.heap.size w w' := by
  have hu68 := Try.underlying68
  have H := Aside0.mk (fun (W : World) (hb : Below w.heap.size w W) => (impl_isSpot.calls A0 c0 l0 x.f0 x.f1 (spotB l0 x.f0 x.f1) W (Kd.C_below hr0 hb) hc0 (impl_isSpot_f l0 x.f0 x.f1 hl hx)).mono fun e w' (h : _ ∧ _) => (⟨h.1, by first | exact h.2 | exact h.2.below⟩ : e = .returned (.bool (spotB l0 x.f0 x.f1)) ∧ Below W.heap.size W w'))
  clear hr0 hc0 hl hx
  generalize spotB l0 x.f0 x.f1 = b at H
  go_enter Try.func104, Try.ntmps104
  go_wp2_with (go_at_call 102; refine (H.out _ (below_alloc (Below.refl _ _) _)).mono ?_; rintro e w' ⟨rfl, hb⟩)
  all_goals
    go_ret
    exact ⟨by first | rfl | simp, below_then (below_alloc (Below.refl _ _) _) (below_size (below_alloc (Below.refl _ _) _)) hb⟩
open Go.Proofs.Ytppmalfpggkpdaa.L in
set_option maxHeartbeats 4000000 in
theorem impl_MachOk.calls (A0 : Option Addr) (c0 : Nat) (l0 : List S52) (a1_0 : Int) (a1_1 : Int) (a1_2 : Int) (A1_3 : Option Addr) (c1_3 : Nat) (l1_3 : List S68) (A1_4 : Option Addr) (c1_4 : Nat) (l1_4 : List Int) (a1_5 : Int) (r : Bool) (w : World) (hr0 : Kd.C k52 w A0 l0.length l0) (hc0 : l0.length ≤ c0) (hr1_3 : Kd.C k68 w A1_3 l1_3.length l1_3) (hc1_3 : l1_3.length ≤ c1_3) (hr1_4 : Kd.C (Kd.int .i64) w A1_4 l1_4.length l1_4) (hc1_4 : l1_4.length ≤ c1_4) (h : impl_MachOk.f l0 a1_0 a1_1 a1_2 l1_3 l1_4 a1_5 = some r) :
    Calls Try.prog 50 #[.slice A0 l0.length c0, .agg #[.int .i64 a1_0, .int .i64 a1_1, .int .i64 a1_2, .slice A1_3 l1_3.length c1_3, .slice A1_4 l1_4.length c1_4, .int .i64 a1_5]] w fun e w' => e = .returned (.bool r) ∧ Below w.heap.size w w' := by
 have hu68 := Try.underlying68
 have hu71 := Try.underlying71
 unfold impl_MachOk.f at h
 by_cases hf : l0.length ≤ 140737488351232 ∧ ∀ x ∈ l0, x.f0.size ≤ 140737488351232 ∧ x.f2.length ≤ 140737488351232 ∧ ∀ y ∈ x.f2, y.f2.size ≤ 140737488351232
 case neg => rw [if_neg hf] at h; exact absurd h (by simp)
 rw [if_pos hf] at h
 obtain rfl := Option.some.inj h
 clear h
 obtain ⟨hl, hx⟩ := hf
 replace hx : ∀ x ∈ l0, FitF x := hx
 have HW : Below w.heap.size w ((w.alloc (.cells #[.slice A0 l0.length c0] 40)).alloc (.cells #[.int .i64 a1_0, .int .i64 a1_1, .int .i64 a1_2, .slice A1_3 l1_3.length c1_3, .slice A1_4 l1_4.length c1_4, .int .i64 a1_5] 71)) := below_alloc (below_alloc (Below.refl _ _) _) _
 have K1 := Aside0.mk (show ((w.alloc (.cells #[.slice A0 l0.length c0] 40)).alloc (.cells #[.int .i64 a1_0, .int .i64 a1_1, .int .i64 a1_2, .slice A1_3 l1_3.length c1_3, .slice A1_4 l1_4.length c1_4, .int .i64 a1_5] 71)).heap[w.heap.size]? = some (.cells #[.slice A0 l0.length c0] 40) from blk_alloc (blk_new w (.cells #[.slice A0 l0.length c0] 40)) (.cells #[.int .i64 a1_0, .int .i64 a1_1, .int .i64 a1_2, .slice A1_3 l1_3.length c1_3, .slice A1_4 l1_4.length c1_4, .int .i64 a1_5] 71))
 have K2 := Aside0.mk (show ((w.alloc (.cells #[.slice A0 l0.length c0] 40)).alloc (.cells #[.int .i64 a1_0, .int .i64 a1_1, .int .i64 a1_2, .slice A1_3 l1_3.length c1_3, .slice A1_4 l1_4.length c1_4, .int .i64 a1_5] 71)).heap[w.heap.size + 1]? = some (.cells #[.int .i64 a1_0, .int .i64 a1_1, .int .i64 a1_2, .slice A1_3 l1_3.length c1_3, .slice A1_4 l1_4.length c1_4, .int .i64 a1_5] 71) by have := blk_new (w.alloc (.cells #[.slice A0 l0.length c0] 40)) (.cells #[.int .i64 a1_0, .int .i64 a1_1, .int .i64 a1_2, .slice A1_3 l1_3.length c1_3, .slice A1_4 l1_4.length c1_4, .int .i64 a1_5] 71); simpa using this)
 have HK := Aside0.mk (fun (W : World) (hb : Below w.heap.size w W) => (impl_KeepOk.calls (200000 + l0.length) A0 c0 l0 (keepOkB l0) W (Kd.C_below hr0 hb) hc0 (impl_KeepOk_f l0 hl hx _ (by omega))).mono fun e w' (h : _ ∧ _) => (⟨h.1, by first | exact h.2 | exact h.2.below⟩ : e = .returned (.bool (keepOkB l0)) ∧ Below W.heap.size W w'))
 have HS := Aside0.mk (fun (W : World) (hb : Below w.heap.size w W) => (impl_isSpot.calls A0 c0 l0 a1_0 a1_1 (spotB l0 a1_0 a1_1) W (Kd.C_below hr0 hb) hc0 (impl_isSpot_f l0 a1_0 a1_1 hl hx)).mono fun e w' (h : _ ∧ _) => (⟨h.1, by first | exact h.2 | exact h.2.below⟩ : e = .returned (.bool (spotB l0 a1_0 a1_1)) ∧ Below W.heap.size W w'))
 have HA := Aside0.mk (fun (W : World) (hb : Below w.heap.size w W) (hk : W.heap[w.heap.size]? = some (.cells #[.slice A0 l0.length c0] 40)) => anySpot_calls A1_3 c1_3 l1_3 #[.pointer (some ⟨w.heap.size, 0, none⟩)] (fun s => !spotB l0 s.f0 s.f1) W (Kd.C_below hr1_3 hb) hc1_3 (fun W' x hb' _ => mach1_calls x A0 c0 l0 w.heap.size W' ((blk_cell (blk_below hk hb') 0).trans rfl) (blk_lt (blk_below hk hb')) (Kd.C_below hr0 (below_then hb hb.size hb')) hc0 hl hx))
 have HT := Aside0.mk (fun (W : World) (hb : Below w.heap.size w W) => impl_stateOk.calls a1_2 (l1_3.length : Int) A1_4 c1_4 l1_4 a1_5 (stateB a1_2 (l1_3.length : Int) l1_4 a1_5) W (Kd.C_below hr1_4 hb) hc1_4 rfl)
 have HN : l1_3.length ≤ 9223372036854775807 := hr1_3.2.1
 clear hr0 hr1_3 hr1_4 hc0 hc1_3 hc1_4 hl hx; have HB := Aside0.mk HW; clear HW
 cases hq1 : keepOkB l0 with
 | false =>
   rw [show machB l0 a1_0 a1_1 a1_2 l1_3 l1_4 a1_5 = false by simp only [machB, hq1, Bool.false_and]]
   simp only [hq1] at HK
   clear hq1
   go_enter Try.func50, Try.ntmps50
   go_wp2_with (go_at_call 32; refine (HK.out _ HB.out).mono ?_; rintro e w1 ⟨rfl, hb1⟩)
   go_ret
   exact ⟨rfl, below_then HB.out HB.out.size hb1⟩
 | true =>
   cases hq2 : spotB l0 a1_0 a1_1 with
   | false =>
     rw [show machB l0 a1_0 a1_1 a1_2 l1_3 l1_4 a1_5 = false by simp only [machB, hq1, hq2, Bool.false_and, Bool.and_false]]
     simp only [hq1] at HK
     simp only [hq2] at HS
     clear hq1 hq2
     go_enter Try.func50, Try.ntmps50
     go_wp2_with (first | (go_at_call 32; refine (HK.out _ HB.out).mono ?_; rintro e w1 ⟨rfl, hb1⟩; have b0 : w1.cell? ⟨w.heap.size, 0, none⟩ = some (.slice A0 l0.length c0) := (blk_cell (blk_below K1.out hb1) 0).trans rfl; have b1 : w1.cell? ⟨w.heap.size + 1, 0, none⟩ = some (.int .i64 a1_0) := (blk_cell (blk_below K2.out hb1) 0).trans rfl; have b2 : w1.cell? ⟨w.heap.size + 1, 1, none⟩ = some (.int .i64 a1_1) := (blk_cell (blk_below K2.out hb1) 1).trans rfl; have HB1 := Aside0.mk (below_then HB.out HB.out.size hb1); clear hb1) | (go_at_call 102; refine (HS.out _ HB1.out).mono ?_; rintro e w2 ⟨rfl, hb2⟩))
     go_ret
     exact ⟨rfl, below_then HB1.out HB1.out.size hb2⟩
   | true =>
     rw [show machB l0 a1_0 a1_1 a1_2 l1_3 l1_4 a1_5 = (!(l1_3.any fun s => !spotB l0 s.f0 s.f1) && stateB a1_2 (l1_3.length : Int) l1_4 a1_5) by simp only [machB, hq1, hq2, Bool.true_and]]
     simp only [hq1] at HK
     simp only [hq2] at HS
     clear hq1 hq2
     cases hq3 : (l1_3.any fun s => !spotB l0 s.f0 s.f1) with
     | true =>
       simp only [Bool.not_true, Bool.false_and]
       simp only [hq3] at HA
       clear hq3
       go_enter Try.func50, Try.ntmps50
       go_wp2_with (first | (go_at_call 32; refine (HK.out _ HB.out).mono ?_; rintro e w1 ⟨rfl, hb1⟩; have b0 : w1.cell? ⟨w.heap.size, 0, none⟩ = some (.slice A0 l0.length c0) := (blk_cell (blk_below K1.out hb1) 0).trans rfl; have b1 : w1.cell? ⟨w.heap.size + 1, 0, none⟩ = some (.int .i64 a1_0) := (blk_cell (blk_below K2.out hb1) 0).trans rfl; have b2 : w1.cell? ⟨w.heap.size + 1, 1, none⟩ = some (.int .i64 a1_1) := (blk_cell (blk_below K2.out hb1) 1).trans rfl; have HB1 := Aside0.mk (below_then HB.out HB.out.size hb1); have M1 := Aside0.mk (blk_below K1.out hb1); have M2 := Aside0.mk (blk_below K2.out hb1); clear hb1) | (go_at_call 102; refine (HS.out _ HB1.out).mono ?_; rintro e w2 ⟨rfl, hb2⟩; have d3 : w2.cell? ⟨w.heap.size + 1, 3, none⟩ = some (.slice A1_3 l1_3.length c1_3) := (blk_cell (blk_below M2.out hb2) 3).trans rfl; have HB2 := Aside0.mk (below_then HB1.out HB1.out.size hb2); have N1 := Aside0.mk (blk_below M1.out hb2); clear hb2) | (go_at_call 103; refine (HA.out _ HB2.out N1.out).mono ?_; rintro e w3 ⟨rfl, hb3⟩))
       go_ret
       exact ⟨rfl, below_then HB2.out HB2.out.size hb3⟩
     | false =>
       simp only [Bool.not_false, Bool.true_and]
       simp only [hq3] at HA
       clear hq3
       generalize stateB a1_2 (l1_3.length : Int) l1_4 a1_5 = b at *
       go_enter Try.func50, Try.ntmps50
       go_wp2_with (first | (go_at_call 32; refine (HK.out _ HB.out).mono ?_; rintro e w1 ⟨rfl, hb1⟩; have b0 : w1.cell? ⟨w.heap.size, 0, none⟩ = some (.slice A0 l0.length c0) := (blk_cell (blk_below K1.out hb1) 0).trans rfl; have b1 : w1.cell? ⟨w.heap.size + 1, 0, none⟩ = some (.int .i64 a1_0) := (blk_cell (blk_below K2.out hb1) 0).trans rfl; have b2 : w1.cell? ⟨w.heap.size + 1, 1, none⟩ = some (.int .i64 a1_1) := (blk_cell (blk_below K2.out hb1) 1).trans rfl; have HB1 := Aside0.mk (below_then HB.out HB.out.size hb1); have M1 := Aside0.mk (blk_below K1.out hb1); have M2 := Aside0.mk (blk_below K2.out hb1); clear hb1) | (go_at_call 102; refine (HS.out _ HB1.out).mono ?_; rintro e w2 ⟨rfl, hb2⟩; have d3 : w2.cell? ⟨w.heap.size + 1, 3, none⟩ = some (.slice A1_3 l1_3.length c1_3) := (blk_cell (blk_below M2.out hb2) 3).trans rfl; have HB2 := Aside0.mk (below_then HB1.out HB1.out.size hb2); have N1 := Aside0.mk (blk_below M1.out hb2); have N2 := Aside0.mk (blk_below M2.out hb2); clear hb2) | (go_at_call 103; refine (HA.out _ HB2.out N1.out).mono ?_; rintro e w3 ⟨rfl, hb3⟩; have e2 : w3.cell? ⟨w.heap.size + 1, 2, none⟩ = some (.int .i64 a1_2) := (blk_cell (blk_below N2.out hb3) 2).trans rfl; have e3 : w3.cell? ⟨w.heap.size + 1, 3, none⟩ = some (.slice A1_3 l1_3.length c1_3) := (blk_cell (blk_below N2.out hb3) 3).trans rfl; have e4 : w3.cell? ⟨w.heap.size + 1, 4, none⟩ = some (.slice A1_4 l1_4.length c1_4) := (blk_cell (blk_below N2.out hb3) 4).trans rfl; have e5 : w3.cell? ⟨w.heap.size + 1, 5, none⟩ = some (.int .i64 a1_5) := (blk_cell (blk_below N2.out hb3) 5).trans rfl; have HB3 := Aside0.mk (below_then HB2.out HB2.out.size hb3); clear hb3) | (go_at_call 105; refine (HT.out _ HB3.out).mono ?_; rintro e w4 ⟨rfl, hb4⟩))
       go_ret
       exact ⟨rfl, below_then HB3.out HB3.out.size hb4⟩

end Go.Proofs.Ytppmalfpggkpdaa.P
