-- PximplFunOk, PxslicesIndexFuncsimplFunimplFun, Pximplfind, PximplfunsOk, LUnit, PximplUnitText: put together by squash.py
import Derived.Test.YtajhjdhkeahlpaaDoorSqFnUnitBent3
import Derived.Test.YtajhjdhkeahlpaaDoorSqFnUnitBent7

-- made by printx.py (own driver over the kit's print); Lean checks it
namespace Go.Proofs.YtajhjdhkeahlpaaDoor.P
open Go.RowKit Go.Proofs.YtajhjdhkeahlpaaDoorW.PrintWords Go.Proofs.YtajhjdhkeahlpaaDoorW.PrintLast Go.Proofs.YtajhjdhkeahlpaaDoorW.PrintMore
attribute [local go_sem] max2_int min2_int max_two min_two max_three min_three max_four min_four   -- for this text's walks alone
set_option linter.unusedVariables false
set_option linter.unusedSimpArgs false

/-! ### impl_FunOk: function 65 -/
-- IMPORT Derived.Test.YtajhjdhkeahlpaaDoorLOk
open Go.Proofs.YtajhjdhkeahlpaaDoor.L in
/-- Is a function ok? (Not told of texts that are too long for any argument.) -/
def impl_FunOk.f (a0_0 : ByteArray) (a0_1 : Bool) (l0_2 : List S26) : Option Bool := if a0_0.size ≤ 140737488351232 ∧ (∀ x ∈ l0_2, x.f2.size ≤ 140737488351232) then some (funOkB a0_0 l0_2) else none
open Go.Proofs.YtajhjdhkeahlpaaDoor.L in
set_option maxHeartbeats 1000000 in
theorem funok1_calls (x : S26) (hx : x.f2.size ≤ 140737488351232) (w : World) :
    Calls Tryd.prog 79 #[.agg #[.int .i64 x.f0, .int .i64 x.f1, .string x.f2]] w fun e w' => e = .returned (.bool (!insOkB x.f0 x.f1 x.f2)) ∧ Below w.heap.size w w' := by
  have H := Aside0.mk (fun W : World => (impl_InsOk.calls (x.f2.size + 1) x.f0 x.f1 x.f2 (insOkB x.f0 x.f1 x.f2) W (impl_InsOk_f x.f0 x.f1 x.f2 hx _ (Nat.lt_succ_self _))).mono fun e w' (h : _ ∧ _) => (⟨h.1, by first | exact h.2 | exact h.2.below⟩ : e = .returned (.bool (insOkB x.f0 x.f1 x.f2)) ∧ Below W.heap.size W w'))
  clear hx
  generalize insOkB x.f0 x.f1 x.f2 = b at H
  go_enter Tryd.func79, Tryd.ntmps79
  go_wp2_with (go_at_call 15; refine (H.out _).mono ?_; rintro e w' ⟨rfl, hb⟩)
  all_goals
    go_ret
    exact ⟨by first | rfl | simp, below_then (below_alloc (Below.refl _ _) _) (below_size (below_alloc (Below.refl _ _) _)) hb⟩
open Go.Proofs.YtajhjdhkeahlpaaDoor.L in
set_option maxHeartbeats 4000000 in
theorem impl_FunOk.calls (a0_0 : ByteArray) (a0_1 : Bool) (A0_2 : Option Addr) (c0_2 : Nat) (l0_2 : List S26) (r : Bool) (w : World) (hr0_2 : Kd.C k26 w A0_2 l0_2.length l0_2) (hc0_2 : l0_2.length ≤ c0_2) (h : impl_FunOk.f a0_0 a0_1 l0_2 = some r) :
    Calls Tryd.prog 65 #[.agg #[.string a0_0, .bool a0_1, .slice A0_2 l0_2.length c0_2]] w fun e w' => e = .returned (.bool r) ∧ Below w.heap.size w w' := by
 unfold impl_FunOk.f at h
 by_cases hf : a0_0.size ≤ 140737488351232 ∧ (∀ x ∈ l0_2, x.f2.size ≤ 140737488351232)
 case neg => rw [if_neg hf] at h; exact absurd h (by simp)
 rw [if_pos hf] at h
 obtain rfl := Option.some.inj h
 clear h
 have HN := Aside0.mk (fun W : World => (impl_NameOk.calls (a0_0.size + 1) a0_0 (nameOk a0_0) W (impl_NameOk_f a0_0 hf.1 _ (Nat.lt_succ_self _))).mono fun e w' (h : _ ∧ _) => (⟨h.1, by first | exact h.2 | exact h.2.below⟩ : e = .returned (.bool (nameOk a0_0)) ∧ Below W.heap.size W w'))
 have HI := Aside0.mk (fun W : World => (impl_in.calls (l0_2.length : Int) 1 10 _ W (impl_in_f _ _ _)).mono fun e w' (h : _ ∧ _) => (⟨h.1, by first | exact h.2 | exact h.2.below⟩ : e = .returned (.bool (decide (1 ≤ (l0_2.length : Int)) && decide ((l0_2.length : Int) ≤ 10))) ∧ Below W.heap.size W w'))
 have HA := Aside0.mk (fun (W : World) (hb : Below w.heap.size w W) => anyIns_calls A0_2 c0_2 l0_2 #[] (fun x => !insOkB x.f0 x.f1 x.f2) W (Kd.C_below hr0_2 hb) hc0_2 (fun W' x _ hx => funok1_calls x (hf.2 x hx) W'))
 have HR := Aside0.mk hr0_2; clear hf hr0_2
 have BK := Aside0.mk (blk_new w (.cells #[.string a0_0, .bool a0_1, .slice A0_2 l0_2.length c0_2] 41))
 have HB := Aside0.mk (below_alloc (Below.refl w.heap.size w) (.cells #[.string a0_0, .bool a0_1, .slice A0_2 l0_2.length c0_2] 41))
 cases hq1 : nameOk a0_0 with
 | false =>
   rw [show funOkB a0_0 l0_2 = false by simp only [funOkB, hq1, Bool.false_and]]
   rw [hq1] at HN
   clear hq1
   go_enter Tryd.func65, Tryd.ntmps65
   go_wp2_with (go_at_call 21; refine (HN.out _).mono ?_; rintro e w1 ⟨rfl, hb1⟩)
   go_ret
   exact ⟨rfl, below_then HB.out HB.out.size hb1⟩
 | true =>
   have hq1' := Aside0.mk hq1
   rw [hq1] at HN
   clear hq1
   cases hq2 : (decide (1 ≤ (l0_2.length : Int)) && decide ((l0_2.length : Int) ≤ 10)) with
   | false =>
     rw [show funOkB a0_0 l0_2 = false by simp only [funOkB, hq2, Bool.false_and, Bool.and_false]]
     rw [hq2] at HI
     clear hq2
     go_enter Tryd.func65, Tryd.ntmps65
     go_wp2_with (first | (go_at_call 21; refine (HN.out _).mono ?_; rintro e w1 ⟨rfl, hb1⟩; have hx2 : w1.cell? ⟨w.heap.size, 2, none⟩ = some (.slice A0_2 l0_2.length c0_2) := (blk_cell (blk_below BK.out hb1) 2).trans rfl; have HB1 := Aside0.mk (below_then HB.out HB.out.size hb1); clear hb1) | (go_at_call 44; refine (HI.out _).mono ?_; rintro e w2 ⟨rfl, hb2⟩))
     go_ret
     exact ⟨rfl, below_then HB1.out HB1.out.size hb2⟩
   | true =>
     have hlen : 1 ≤ l0_2.length ∧ l0_2.length ≤ 10 := by
       simp only [Bool.and_eq_true, decide_eq_true_eq] at hq2
       omega
     have hq2' := Aside0.mk hq2
     rw [hq2] at HI
     clear hq2
     cases hq3 : l0_2.any (fun x => !insOkB x.f0 x.f1 x.f2) with
     | true =>
       rw [show funOkB a0_0 l0_2 = false by simp only [funOkB, hq3, Bool.not_true, Bool.false_and, Bool.and_false]]
       simp only [hq3] at HA
       clear hq3 hlen
       go_enter Tryd.func65, Tryd.ntmps65
       go_wp2_with (first | (go_at_call 21; refine (HN.out _).mono ?_; rintro e w1 ⟨rfl, hb1⟩; have hx2 : w1.cell? ⟨w.heap.size, 2, none⟩ = some (.slice A0_2 l0_2.length c0_2) := (blk_cell (blk_below BK.out hb1) 2).trans rfl; have BK1 := Aside0.mk (blk_below BK.out hb1); have HB1 := Aside0.mk (below_then HB.out HB.out.size hb1); clear hb1) | (go_at_call 44; refine (HI.out _).mono ?_; rintro e w2 ⟨rfl, hb2⟩; have hy2 : w2.cell? ⟨w.heap.size, 2, none⟩ = some (.slice A0_2 l0_2.length c0_2) := (blk_cell (blk_below BK1.out hb2) 2).trans rfl; have HB2 := Aside0.mk (below_then HB1.out HB1.out.size hb2); clear hb2) | (go_at_call 78; refine (HA.out _ HB2.out).mono ?_; rintro e w3 ⟨rfl, hb3⟩))
       go_ret
       exact ⟨rfl, below_then HB2.out HB2.out.size hb3⟩
     | false =>
       rw [show funOkB a0_0 l0_2 = lastB ((rd_T26 l0_2 ((l0_2.length : Int) - 1)).f0) by
         have e : ((l0_2.length : Int) - 1).toNat = l0_2.length - 1 := by omega
         simp only [funOkB, hq1'.out, hq2'.out, hq3, Bool.not_false, Bool.true_and, rd_T26, e]]
       simp only [hq3] at HA
       clear hq3
       obtain ⟨ad, e, hz0, hz1, hz2⟩ := at_T26 HR.out ((l0_2.length : Int) - 1) (by omega) (by omega)
       cases e
       rw [show ((l0_2.length : Int) - 1).toNat = l0_2.length - 1 by omega] at hz0 hz1 hz2
       have HZ := Aside0.mk (And.intro hz0 (And.intro hz1 hz2))
       clear hz0 hz1 hz2
       have HL := Aside0.mk (fun W : World => (impl_InsLast.calls (rd_T26 l0_2 ((l0_2.length : Int) - 1)).f0 (rd_T26 l0_2 ((l0_2.length : Int) - 1)).f1 (rd_T26 l0_2 ((l0_2.length : Int) - 1)).f2 _ W (impl_InsLast_f _ _ _)).mono fun e w' (h : _ ∧ _) => (⟨h.1, by first | exact h.2 | exact h.2.below⟩ : e = .returned (.bool (lastB (rd_T26 l0_2 ((l0_2.length : Int) - 1)).f0)) ∧ Below W.heap.size W w'))
       generalize rd_T26 l0_2 ((l0_2.length : Int) - 1) = xl at *
       have hl1 := hlen.1
       have hl2 := hlen.2
       clear hlen
       go_enter Tryd.func65, Tryd.ntmps65
       go_wp2_with (first | (go_at_call 21; refine (HN.out _).mono ?_; rintro e w1 ⟨rfl, hb1⟩; have hx2 : w1.cell? ⟨w.heap.size, 2, none⟩ = some (.slice (some ad) l0_2.length c0_2) := (blk_cell (blk_below BK.out hb1) 2).trans rfl; have BK1 := Aside0.mk (blk_below BK.out hb1); have HB1 := Aside0.mk (below_then HB.out HB.out.size hb1); clear hb1) | (go_at_call 44; refine (HI.out _).mono ?_; rintro e w2 ⟨rfl, hb2⟩; have hy2 : w2.cell? ⟨w.heap.size, 2, none⟩ = some (.slice (some ad) l0_2.length c0_2) := (blk_cell (blk_below BK1.out hb2) 2).trans rfl; have BK2 := Aside0.mk (blk_below BK1.out hb2); have HB2 := Aside0.mk (below_then HB1.out HB1.out.size hb2); clear hb2) | (go_at_call 78; refine (HA.out _ HB2.out).mono ?_; rintro e w3 ⟨rfl, hb3⟩; have hv2 : w3.cell? ⟨w.heap.size, 2, none⟩ = some (.slice (some ad) l0_2.length c0_2) := (blk_cell (blk_below BK2.out hb3) 2).trans rfl; have HB3 := Aside0.mk (below_then HB2.out HB2.out.size hb3); have hu0 := pw_cell_below HB3.out HZ.out.1; have hu1 := pw_cell_below HB3.out HZ.out.2.1; have hu2 := pw_cell_below HB3.out HZ.out.2.2; clear hb3) | (go_at_call 19; refine (HL.out _).mono ?_; rintro e w4 ⟨rfl, hb4⟩))
       go_ret
       exact ⟨rfl, below_then HB3.out HB3.out.size hb4⟩

end Go.Proofs.YtajhjdhkeahlpaaDoor.P

-- made by printx.py (own driver over the kit's print); Lean checks it
namespace Go.Proofs.YtajhjdhkeahlpaaDoor.P
open Go.RowKit Go.Proofs.YtajhjdhkeahlpaaDoorW.PrintWords Go.Proofs.YtajhjdhkeahlpaaDoorW.PrintLast Go.Proofs.YtajhjdhkeahlpaaDoorW.PrintMore
attribute [local go_sem] max2_int min2_int max_two min_two max_three min_three max_four min_four   -- for this text's walks alone
set_option linter.unusedVariables false
set_option linter.unusedSimpArgs false

/-! ### slices_IndexFunc_simpl_Fun_impl_Fun: function 80 -/
-- IMPORT Derived.Test.YtajhjdhkeahlpaaDoorLSeq
open Go.Proofs.YtajhjdhkeahlpaaDoor.L in
set_option maxHeartbeats 4000000 in
set_option maxRecDepth 100000 in
theorem idxFun_calls (A0 : Option Addr) (c0 : Nat) (l0 : List S41) (lb : Array Value) (p : S41 → Bool) (w : World) (hr0 : Kd.C k41 w A0 l0.length l0) (hc0 : l0.length ≤ c0)
    (hp : ∀ (W : World) (x : S41) (A2 : Option Addr) (c2 : Nat), Below w.heap.size w W → x ∈ l0 → x.f2.length ≤ c2 → Kd.C k26 W A2 x.f2.length x.f2 → Calls Tryd.prog 81 ((#[.agg #[.string x.f0, .bool x.f1, .slice A2 x.f2.length c2]] : Array Value) ++ lb) W fun e w' => e = .returned (.bool (p x)) ∧ Below W.heap.size W w') :
    Calls Tryd.prog 80 #[.slice A0 l0.length c0, .func (.func 81) #[] lb] w fun e w' => e = .returned (.int .i64 (idxFrom p l0 0)) ∧ Below w.heap.size w w' := by
  have HR0 := Aside0.mk hr0
  have HN : l0.length ≤ 9223372036854775807 := hr0.2.1
  have HPP := Aside0.mk hp
  clear hr0 hp
  go_enter Tryd.func80, Tryd.ntmps80
  go_wp2
  go_loopg [5, 8] l0.length (fun gg _ s8 wr => ∃ kk : Nat, s8 = .int .i64 kk ∧ Aside0 (kk ≤ l0.length) ∧ Aside0 (l0.length - kk ≤ gg) ∧ Aside0 (Below w.heap.size w wr) ∧ Aside0 (∀ i, i < kk → p (l0.getD i z41) = false))
  case atStart => exact ⟨0, rfl, ⟨Nat.zero_le _⟩, ⟨by omega⟩, ⟨Below.refl _ w⟩, ⟨fun i hi => absurd hi (Nat.not_lt_zero _)⟩⟩
  case round =>
    obtain ⟨kk, rfl, HK, HG, HB, HP⟩ := hrel
    by_cases hlt : kk < l0.length
    · obtain ⟨ad, A2, c2, e, hx0, hx1, hx2, hl2, hi2⟩ := at_T41 HR0.out kk (by omega) (by omega)
      cases e
      have hy0 := pw_cell_below HB.out hx0
      have hy1 := pw_cell_below HB.out hx1
      have hy2 := pw_cell_below HB.out hx2
      simp only [Int.toNat_natCast] at hy0 hy1 hy2
      have hcall := HPP.out wr (rd_T41 l0 (kk : Int)) A2 c2 HB.out (by show l0.getD (kk : Int).toNat z41 ∈ l0; rw [Int.toNat_natCast]; exact getD_mem hlt) hl2 (Kd.C_below hi2 HB.out)
      clear hx0 hx1 hx2 hl2 hi2
      have hlb : decide (kk < l0.length) = true := decide_eq_true hlt
      have hli : decide ((kk : Int) < (l0.length : Int)) = true := decide_eq_true (by omega)
      have hq2 : p (rd_T41 l0 (kk : Int)) = p (l0.getD kk z41) := by show p (l0.getD (kk : Int).toNat z41) = _; rw [Int.toNat_natCast]
      rw [hq2] at hcall
      clear hq2
      cases hq : p (l0.getD kk z41) with
      | true =>
        rw [hq] at hcall
        have HQ := Aside0.mk hq
        clear hq
        go_wp2_with (go_at_call 81; refine hcall.mono ?_; rintro e w' ⟨rfl, hb'⟩)
        go_ret
        refine ⟨?_, below_then HB.out HB.out.size hb'⟩
        rw [idxFrom_hit _ z41 l0 0 kk hlt HP.out HQ.out]
        simp
      | false =>
        rw [hq] at hcall
        have HQ := Aside0.mk hq
        clear hq
        go_wp2_with (go_at_call 81; refine hcall.mono ?_; rintro e w' ⟨rfl, hb'⟩)
        go_roundg (l0.length - (kk + 1))
        case measure => have := HG.out; omega
        case rel =>
          refine ⟨kk + 1, by go_num, ⟨by omega⟩, ⟨Nat.le_refl _⟩, ⟨below_then HB.out HB.out.size hb'⟩, ⟨fun i hi => ?_⟩⟩
          by_cases e : i = kk
          · subst e
            exact HQ.out
          · exact HP.out i (by omega)
    · have hlb : decide (kk < l0.length) = false := decide_eq_false hlt
      have hli : decide ((kk : Int) < (l0.length : Int)) = false := decide_eq_false (by omega)
      go_wp2
      go_ret
      refine ⟨?_, HB.out⟩
      rw [idxFrom_miss _ z41 l0 0 (fun i hi => HP.out i (by have := HK.out; omega))]
      rfl

end Go.Proofs.YtajhjdhkeahlpaaDoor.P

-- made by printx.py (own driver over the kit's print); Lean checks it
namespace Go.Proofs.YtajhjdhkeahlpaaDoor.P
open Go.RowKit Go.Proofs.YtajhjdhkeahlpaaDoorW.PrintWords Go.Proofs.YtajhjdhkeahlpaaDoorW.PrintLast Go.Proofs.YtajhjdhkeahlpaaDoorW.PrintMore
attribute [local go_sem] max2_int min2_int max_two min_two max_three min_three max_four min_four   -- for this text's walks alone
set_option linter.unusedVariables false
set_option linter.unusedSimpArgs false

/-! ### impl_find: function 66 -/
-- IMPORT Derived.Test.YtajhjdhkeahlpaaDoorLSeq
open Go.Proofs.YtajhjdhkeahlpaaDoor.L in
/-- The place of the first function of that name, -1 for none. -/
def impl_find.f (l0 : List S41) (a1 : ByteArray) : Option Int := some (idxFrom (fun x => x.f0.toList == a1.toList) l0 0)
set_option maxHeartbeats 1000000 in
theorem find1_calls (s : ByteArray) (b : Bool) (A : Option Addr) (n c : Nat) (B : Nat) (name : ByteArray) (w : World) (hB : w.cell? ⟨B, 0, none⟩ = some (.string name)) (hlt : B < w.heap.size) :
    Calls Tryd.prog 81 #[.agg #[.string s, .bool b, .slice A n c], .pointer (some ⟨B, 0, none⟩)] w fun e w' => e = .returned (.bool (s.toList == name.toList)) ∧ Below w.heap.size w w' := by
  go_enter Tryd.func81, Tryd.ntmps81
  go_wp2
  go_ret
  exact ⟨rfl, (Below.refl _ _).alloc (Nat.le_refl _) _⟩
open Go.Proofs.YtajhjdhkeahlpaaDoor.L in
set_option maxHeartbeats 2000000 in
theorem impl_find.calls (A0 : Option Addr) (c0 : Nat) (l0 : List S41) (a1 : ByteArray) (r : Int) (w : World) (hr0 : Kd.C k41 w A0 l0.length l0) (hc0 : l0.length ≤ c0) (h : impl_find.f l0 a1 = some r) :
    Calls Tryd.prog 66 #[.slice A0 l0.length c0, .string a1] w fun e w' => e = .returned (.int .i64 r) ∧ Below w.heap.size w w' := by
 have hcell : ∀ W : World, Below (w.alloc (.cells #[.string a1] 9)).heap.size (w.alloc (.cells #[.string a1] 9)) W → W.cell? ⟨w.heap.size, 0, none⟩ = some (.string a1) := fun W hb =>
   (hb.cell (p := ⟨w.heap.size, 0, none⟩) (by simp)).trans ((blk_cell (blk_new w _) 0).trans rfl)
 have HC := Aside0.mk (idxFun_calls A0 c0 l0 #[.pointer (some ⟨w.heap.size, 0, none⟩)] (fun x => x.f0.toList == a1.toList) (w.alloc (.cells #[.string a1] 9)) (Kd.C_below hr0 (below_alloc (Below.refl _ _) _)) hc0
   (fun W x A2 c2 hb _ _ _ => find1_calls x.f0 x.f1 A2 x.f2.length c2 w.heap.size a1 W (hcell W hb) (Nat.lt_of_lt_of_le (by simp) hb.size)))
 clear hr0 hcell
 obtain rfl := Option.some.inj h
 clear h
 go_enter Tryd.func66, Tryd.ntmps66
 go_wp2_with (go_at_call 80; refine HC.out.mono ?_; rintro e w' ⟨rfl, hb'⟩)
 go_ret
 exact ⟨rfl, below_then (below_alloc (Below.refl _ _) _) (below_size (below_alloc (Below.refl _ _) _)) hb'⟩

end Go.Proofs.YtajhjdhkeahlpaaDoor.P

-- made by printx.py (own driver over the kit's print); Lean checks it
namespace Go.Proofs.YtajhjdhkeahlpaaDoor.P
open Go.RowKit Go.Proofs.YtajhjdhkeahlpaaDoorW.PrintWords Go.Proofs.YtajhjdhkeahlpaaDoorW.PrintLast Go.Proofs.YtajhjdhkeahlpaaDoorW.PrintMore
attribute [local go_sem] max2_int min2_int max_two min_two max_three min_three max_four min_four   -- for this text's walks alone
set_option linter.unusedVariables false
set_option linter.unusedSimpArgs false

/-! ### impl_funsOk: function 47 -/
def impl_funsOk.l0 : Nat → List (S41) → List (S41) → Int → Int → Option (Bool)
  | 0, _, _, _, _ => none
  | k + 1, x0, x5, x6, x7 => if x7 < x6 then (if 0 ≤ x7 then (if x7 < (x5.length : Int) then ((impl_FunOk.f ((rd_T41 x5 x7).f0) ((rd_T41 x5 x7).f1) ((rd_T41 x5 x7).f2)).bind fun t316 => (if t316 = true then ((impl_find.f x0 ((rd_T41 x5 x7).f0)).bind fun t317 => (if t317 = x7 then (impl_funsOk.l0 k x0 x5 x6 (wrap64 (x7 + 1))) else (some false))) else (some false))) else (none)) else (none)) else (some true)
def impl_funsOk.f (k : Nat) (l0 : List (S41)) : Option (Bool) := impl_funsOk.l0 k l0 l0 (l0.length : Int) 0
set_option maxHeartbeats 8000000 in
set_option maxRecDepth 100000 in
theorem impl_funsOk.calls (k : Nat) (A0 : Option Addr) (c0 : Nat) (l0 : List (S41)) (r : Bool) (w : World) (hr0 : Kd.C k41 w A0 l0.length l0) (hc0 : l0.length ≤ c0) (h : impl_funsOk.f k l0 = some r) :
    Calls Tryd.prog 47 #[.slice A0 l0.length c0] w fun e w' => e = .returned (.bool r) ∧ Below w.heap.size w w' := by
 have hu41 := Tryd.underlying41
 have HR0 := Aside0.mk hr0; have HC0 := Aside0.mk hc0; clear hr0 hc0
 have HB := Aside0.mk (Below.refl w.heap.size w)
 have H : (impl_funsOk.l0 k l0 l0 (l0.length : Int) 0) = some r := h
 clear h
 have H' := Aside0.mk H
 clear H
 go_enter Tryd.func47, Tryd.ntmps47
 go_wp2
 go_loopg [7] k (fun kq v7 w' => ∃ (x7_1 : Int), v7 = .int .i64 x7_1 ∧ Aside0 (impl_funsOk.l0 kq l0 l0 (l0.length : Int) x7_1 = some r) ∧ Aside0 (kq ≤ k) ∧ Aside0 (Below w.heap.size w w'))
 case atStart => exact ⟨(0), (by first | rfl | (simp; done) | (simp [*]; done)), H', ⟨Nat.le_refl _⟩, ⟨by repeat (first | (with_reducible first | exact HB.out | apply below_alloc | apply pw_below_drewN | apply below_drew1) | exact HB.out)⟩⟩
 clear H'
 obtain ⟨x7_1, rfl, HA, HK1, HB⟩ := hrel
 obtain _ | k1 := gk
 · exact absurd HA.out (by simp [impl_funsOk.l0])
 have H := HA.out
 clear HA
 simp only [impl_funsOk.l0] at H
 by_cases c2 : x7_1 < (l0.length : Int)
 · rw [if_pos c2] at H
   have c2b0 : decide (x7_1 < (l0.length : Int)) = true := decide_eq_true c2
   clear c2
   by_cases c3 : 0 ≤ x7_1
   · rw [if_pos c3] at H
     have c3b0 : decide (0 ≤ x7_1) = true := decide_eq_true c3
     clear c3
     by_cases c4 : x7_1 < (l0.length : Int)
     · rw [if_pos c4] at H
       have c4b0 : decide (x7_1 < (l0.length : Int)) = true := decide_eq_true c4
       clear c4
       replace H := Option.bind_eq_some_iff.mp H
       obtain ⟨t316, A50, H⟩ := H
       replace H : (if t316 = true then ((impl_find.f l0 ((rd_T41 l0 x7_1).f0)).bind fun t317 => (if t317 = x7_1 then (impl_funsOk.l0 k1 l0 l0 (l0.length : Int) (wrap64 (x7_1 + 1))) else (some false))) else (some false)) = some r := H
       have A5 := Aside0.mk A50; clear A50
       by_cases c6 : t316 = true
       · subst c6
         have H1 : ((impl_find.f l0 ((rd_T41 l0 x7_1).f0)).bind fun t317 => (if t317 = x7_1 then (impl_funsOk.l0 k1 l0 l0 (l0.length : Int) (wrap64 (x7_1 + 1))) else (some false))) = some r := by rw [if_pos rfl] at H; exact H
         clear H
         have H := H1
         clear H1
         replace H := Option.bind_eq_some_iff.mp H
         obtain ⟨t317, A70, H⟩ := H
         replace H : (if t317 = x7_1 then (impl_funsOk.l0 k1 l0 l0 (l0.length : Int) (wrap64 (x7_1 + 1))) else (some false)) = some r := H
         have A7 := Aside0.mk A70; clear A70
         by_cases c8 : t317 = x7_1
         · rw [if_pos c8] at H
           have c8b0 : (t317 == x7_1) = true := beq_iff_eq.mpr c8
           have c8b1 : (t317 != x7_1) = false := bne_eq_false_iff_eq.mpr c8
           clear c8
           have H' := Aside0.mk H
           clear H
           have p314 : 0 ≤ (x7_1 : Int) := of_decide_eq_true (by first | (with_reducible assumption) | assumption)
           have q314 : x7_1 < (l0.length : Int) := of_decide_eq_true (by first | (with_reducible assumption) | assumption)
           obtain ⟨ad314, A314_2, c314_2, e314, hx314_0, hx314_1, hx314_2, hl314_2, hi314_2⟩ := at_T41 HR0.out x7_1 p314 q314
           cases e314
           replace hx314_0 := (HB.out.cell (World.block_lt_of_cell? w _ hx314_0)).trans hx314_0
           replace hx314_1 := (HB.out.cell (World.block_lt_of_cell? w _ hx314_1)).trans hx314_1
           replace hx314_2 := (HB.out.cell (World.block_lt_of_cell? w _ hx314_2)).trans hx314_2
           have HR314_2 := Aside0.mk hi314_2; have HC314_2 := Aside0.mk hl314_2; clear hi314_2 hl314_2; replace p314 := eq_true p314; replace q314 := eq_true q314
           go_wp2_with (first | ((with_reducible refine gate_dst (N := 4) rfl ?_); refine box_event ?hg (N := 4) ?hd (cs := #[.string (⟨#[]⟩ : ByteArray), .bool false, .slice none 0 0]) (t := 41) ?hr ?_; (case hd => rfl); (case hg => rfl); (case hr => first | (go_simp; done) | (go_simp; rfl)); intro gb315 hg w9 hbox hb; have n0_ := Aside0.mk (below_step (by repeat (first | (with_reducible first | exact HB.out | apply below_alloc | apply pw_below_drewN | apply below_drew1) | exact HB.out)) hb); have n1_ := Aside0.mk (hbox); have n2_ := Aside0.mk ((by rw [hg]; exact (below_size (by repeat (first | (with_reducible first | exact HB.out | apply below_alloc | apply pw_below_drewN | apply below_drew1) | exact HB.out))) : w.heap.size ≤ gb315)); have n3_ := Aside0.mk ((by rw [hg]; exact (below_size (by repeat (first | (with_reducible first | exact HB.out | apply below_alloc | apply pw_below_drewN | apply below_drew1) | exact HB.out))) : w.heap.size ≤ gb315)); clear HB; have HB := n0_; have BK315 := n1_; have GW315 := n2_; have GE315 := n3_; clear n0_ n1_ n2_ n3_ hb hbox hg; have hcz10_0 : w9.cell? ⟨gb315, 0, none⟩ = some (.string (⟨#[]⟩ : ByteArray)) := (blk_cell BK315.out 0).trans rfl; have hcz10_1 : w9.cell? ⟨gb315, 1, none⟩ = some (.bool false) := (blk_cell BK315.out 1).trans rfl; have hcz10_2 : w9.cell? ⟨gb315, 2, none⟩ = some (.slice none 0 0) := (blk_cell BK315.out 2).trans rfl; have hfz10_0 := blk_frozen BK315.out 0; have hfz10_1 := blk_frozen BK315.out 1; have hfz10_2 := blk_frozen BK315.out 2) | ((with_reducible refine gate_callee (f := 65) rfl ?_); refine goesL_ (some 13) rfl rfl Tryd.func65 (by kernel_rfl) rfl #[.agg #[.string ((rd_T41 l0 x7_1).f0), .bool ((rd_T41 l0 x7_1).f1), .slice A314_2 ((rd_T41 l0 x7_1).f2).length c314_2]] rfl (by (try simp only [List.map_toArray, List.map_cons, List.map_nil]); first | done | rfl | (simp only [List.length_drop, List.length_take]; rfl)) ?_; (with_reducible refine (impl_FunOk.calls ((rd_T41 l0 x7_1).f0) ((rd_T41 l0 x7_1).f1) _ _ ((rd_T41 l0 x7_1).f2) true _ ?side1 ?side2 A5.out).mono ?_); (case side1 => exact Kd.C_below HR314_2.out (by repeat (first | (with_reducible first | exact HB.out | apply below_alloc | apply pw_below_drewN | apply below_drew1 | refine below_set ?_ GE315.out) | exact HB.out))); (case side2 => exact HC314_2.out); rintro e w11 ⟨rfl, hb⟩; refine ⟨_, rfl, ?_⟩; have n0_ := Aside0.mk (blk_below (g := gb315) (o := .cells #[.string ((rd_T41 l0 x7_1).f0), .bool ((rd_T41 l0 x7_1).f1), .slice A314_2 ((rd_T41 l0 x7_1).f2).length c314_2] 41 (0, 0)) (by (with_reducible repeat (first | refine blk_drewN ?_ _ | refine blk_drew ?_ | refine blk_alloc ?_ _)); refine blk_put (cs := #[.string ((rd_T41 l0 x7_1).f0), .bool ((rd_T41 l0 x7_1).f1), .slice none 0 0]) ?_ 2 _ rfl; (with_reducible repeat (first | refine blk_drewN ?_ _ | refine blk_drew ?_ | refine blk_alloc ?_ _)); refine blk_put (cs := #[.string ((rd_T41 l0 x7_1).f0), .bool false, .slice none 0 0]) ?_ 1 _ rfl; (with_reducible repeat (first | refine blk_drewN ?_ _ | refine blk_drew ?_ | refine blk_alloc ?_ _)); refine blk_put (cs := #[.string (⟨#[]⟩ : ByteArray), .bool false, .slice none 0 0]) ?_ 0 _ rfl; (with_reducible repeat (first | refine blk_drewN ?_ _ | refine blk_drew ?_ | refine blk_alloc ?_ _)); exact BK315.out) hb); have n1_ := Aside0.mk (below_step (by repeat (first | (with_reducible first | exact HB.out | apply below_alloc | apply pw_below_drewN | apply below_drew1 | refine below_set ?_ GE315.out) | exact HB.out)) hb); clear BK315 HB; have BK315 := n0_; have HB := n1_; clear n0_ n1_; (try clear hb); (try clear hb2); (try clear hk); (try clear hi); have hcz12_0 : w11.cell? ⟨gb315, 0, none⟩ = some (.string ((rd_T41 l0 x7_1).f0)) := (blk_cell BK315.out 0).trans rfl; have hcz12_1 : w11.cell? ⟨gb315, 1, none⟩ = some (.bool ((rd_T41 l0 x7_1).f1)) := (blk_cell BK315.out 1).trans rfl; have hcz12_2 : w11.cell? ⟨gb315, 2, none⟩ = some (.slice A314_2 ((rd_T41 l0 x7_1).f2).length c314_2) := (blk_cell BK315.out 2).trans rfl; have hfz12_0 := blk_frozen BK315.out 0; have hfz12_1 := blk_frozen BK315.out 1; have hfz12_2 := blk_frozen BK315.out 2) | (go_at_call 66; (with_reducible refine (impl_find.calls _ _ l0 ((rd_T41 l0 x7_1).f0) t317 _ ?side1 ?side2 A7.out).mono ?_); (case side1 => repeat (first | exact (Kd.C_below HR0.out HB.out) | (with_reducible refine Kd.C_alloc ?_ _) | (with_reducible refine Kd.C_drewN ?_ _) | (with_reducible refine Kd.C_drew ?_))); (case side2 => exact HC0.out); rintro e w13 ⟨rfl, hb⟩; have n0_ := Aside0.mk (blk_below (g := gb315) (o := .cells #[.string ((rd_T41 l0 x7_1).f0), .bool ((rd_T41 l0 x7_1).f1), .slice A314_2 ((rd_T41 l0 x7_1).f2).length c314_2] 41 (0, 0)) (by (with_reducible repeat (first | refine blk_drewN ?_ _ | refine blk_drew ?_ | refine blk_alloc ?_ _)); exact BK315.out) hb); have n1_ := Aside0.mk (below_step (by repeat (first | (with_reducible first | exact HB.out | apply below_alloc | apply pw_below_drewN | apply below_drew1 | refine below_set ?_ GE315.out) | exact HB.out)) hb); clear BK315 HB; have BK315 := n0_; have HB := n1_; clear n0_ n1_; (try clear hb); (try clear hb2); (try clear hk); (try clear hi)))
           go_roundg k1
           case measure => have := HK1.out; omega
           case rel => exact ⟨(wrap64 (x7_1 + 1)), (by first | rfl | (simp; done) | (simp [*]; done)), H', ⟨by have := HK1.out; omega⟩, ⟨by repeat (first | (with_reducible first | exact HB.out | apply below_alloc | apply pw_below_drewN | apply below_drew1 | refine below_set ?_ GE315.out) | exact HB.out)⟩⟩
         rw [if_neg c8] at H
         have c8b0 : (t317 == x7_1) = false := beq_eq_false_iff_ne.mpr c8
         have c8b1 : (t317 != x7_1) = true := bne_iff_ne.mpr c8
         obtain rfl := Option.some.inj H
         have p314 : 0 ≤ (x7_1 : Int) := of_decide_eq_true (by first | (with_reducible assumption) | assumption)
         have q314 : x7_1 < (l0.length : Int) := of_decide_eq_true (by first | (with_reducible assumption) | assumption)
         obtain ⟨ad314, A314_2, c314_2, e314, hx314_0, hx314_1, hx314_2, hl314_2, hi314_2⟩ := at_T41 HR0.out x7_1 p314 q314
         cases e314
         replace hx314_0 := (HB.out.cell (World.block_lt_of_cell? w _ hx314_0)).trans hx314_0
         replace hx314_1 := (HB.out.cell (World.block_lt_of_cell? w _ hx314_1)).trans hx314_1
         replace hx314_2 := (HB.out.cell (World.block_lt_of_cell? w _ hx314_2)).trans hx314_2
         have HR314_2 := Aside0.mk hi314_2; have HC314_2 := Aside0.mk hl314_2; clear hi314_2 hl314_2; replace p314 := eq_true p314; replace q314 := eq_true q314
         go_wp2_with (first | ((with_reducible refine gate_dst (N := 4) rfl ?_); refine box_event ?hg (N := 4) ?hd (cs := #[.string (⟨#[]⟩ : ByteArray), .bool false, .slice none 0 0]) (t := 41) ?hr ?_; (case hd => rfl); (case hg => rfl); (case hr => first | (go_simp; done) | (go_simp; rfl)); intro gb315 hg w14 hbox hb; have n0_ := Aside0.mk (below_step (by repeat (first | (with_reducible first | exact HB.out | apply below_alloc | apply pw_below_drewN | apply below_drew1) | exact HB.out)) hb); have n1_ := Aside0.mk (hbox); have n2_ := Aside0.mk ((by rw [hg]; exact (below_size (by repeat (first | (with_reducible first | exact HB.out | apply below_alloc | apply pw_below_drewN | apply below_drew1) | exact HB.out))) : w.heap.size ≤ gb315)); have n3_ := Aside0.mk ((by rw [hg]; exact (below_size (by repeat (first | (with_reducible first | exact HB.out | apply below_alloc | apply pw_below_drewN | apply below_drew1) | exact HB.out))) : w.heap.size ≤ gb315)); clear HB; have HB := n0_; have BK315 := n1_; have GW315 := n2_; have GE315 := n3_; clear n0_ n1_ n2_ n3_ hb hbox hg; have hcz15_0 : w14.cell? ⟨gb315, 0, none⟩ = some (.string (⟨#[]⟩ : ByteArray)) := (blk_cell BK315.out 0).trans rfl; have hcz15_1 : w14.cell? ⟨gb315, 1, none⟩ = some (.bool false) := (blk_cell BK315.out 1).trans rfl; have hcz15_2 : w14.cell? ⟨gb315, 2, none⟩ = some (.slice none 0 0) := (blk_cell BK315.out 2).trans rfl; have hfz15_0 := blk_frozen BK315.out 0; have hfz15_1 := blk_frozen BK315.out 1; have hfz15_2 := blk_frozen BK315.out 2) | ((with_reducible refine gate_callee (f := 65) rfl ?_); refine goesL_ (some 13) rfl rfl Tryd.func65 (by kernel_rfl) rfl #[.agg #[.string ((rd_T41 l0 x7_1).f0), .bool ((rd_T41 l0 x7_1).f1), .slice A314_2 ((rd_T41 l0 x7_1).f2).length c314_2]] rfl (by (try simp only [List.map_toArray, List.map_cons, List.map_nil]); first | done | rfl | (simp only [List.length_drop, List.length_take]; rfl)) ?_; (with_reducible refine (impl_FunOk.calls ((rd_T41 l0 x7_1).f0) ((rd_T41 l0 x7_1).f1) _ _ ((rd_T41 l0 x7_1).f2) true _ ?side1 ?side2 A5.out).mono ?_); (case side1 => exact Kd.C_below HR314_2.out (by repeat (first | (with_reducible first | exact HB.out | apply below_alloc | apply pw_below_drewN | apply below_drew1 | refine below_set ?_ GE315.out) | exact HB.out))); (case side2 => exact HC314_2.out); rintro e w16 ⟨rfl, hb⟩; refine ⟨_, rfl, ?_⟩; have n0_ := Aside0.mk (blk_below (g := gb315) (o := .cells #[.string ((rd_T41 l0 x7_1).f0), .bool ((rd_T41 l0 x7_1).f1), .slice A314_2 ((rd_T41 l0 x7_1).f2).length c314_2] 41 (0, 0)) (by (with_reducible repeat (first | refine blk_drewN ?_ _ | refine blk_drew ?_ | refine blk_alloc ?_ _)); refine blk_put (cs := #[.string ((rd_T41 l0 x7_1).f0), .bool ((rd_T41 l0 x7_1).f1), .slice none 0 0]) ?_ 2 _ rfl; (with_reducible repeat (first | refine blk_drewN ?_ _ | refine blk_drew ?_ | refine blk_alloc ?_ _)); refine blk_put (cs := #[.string ((rd_T41 l0 x7_1).f0), .bool false, .slice none 0 0]) ?_ 1 _ rfl; (with_reducible repeat (first | refine blk_drewN ?_ _ | refine blk_drew ?_ | refine blk_alloc ?_ _)); refine blk_put (cs := #[.string (⟨#[]⟩ : ByteArray), .bool false, .slice none 0 0]) ?_ 0 _ rfl; (with_reducible repeat (first | refine blk_drewN ?_ _ | refine blk_drew ?_ | refine blk_alloc ?_ _)); exact BK315.out) hb); have n1_ := Aside0.mk (below_step (by repeat (first | (with_reducible first | exact HB.out | apply below_alloc | apply pw_below_drewN | apply below_drew1 | refine below_set ?_ GE315.out) | exact HB.out)) hb); clear BK315 HB; have BK315 := n0_; have HB := n1_; clear n0_ n1_; (try clear hb); (try clear hb2); (try clear hk); (try clear hi); have hcz17_0 : w16.cell? ⟨gb315, 0, none⟩ = some (.string ((rd_T41 l0 x7_1).f0)) := (blk_cell BK315.out 0).trans rfl; have hcz17_1 : w16.cell? ⟨gb315, 1, none⟩ = some (.bool ((rd_T41 l0 x7_1).f1)) := (blk_cell BK315.out 1).trans rfl; have hcz17_2 : w16.cell? ⟨gb315, 2, none⟩ = some (.slice A314_2 ((rd_T41 l0 x7_1).f2).length c314_2) := (blk_cell BK315.out 2).trans rfl; have hfz17_0 := blk_frozen BK315.out 0; have hfz17_1 := blk_frozen BK315.out 1; have hfz17_2 := blk_frozen BK315.out 2) | (go_at_call 66; (with_reducible refine (impl_find.calls _ _ l0 ((rd_T41 l0 x7_1).f0) t317 _ ?side1 ?side2 A7.out).mono ?_); (case side1 => repeat (first | exact (Kd.C_below HR0.out HB.out) | (with_reducible refine Kd.C_alloc ?_ _) | (with_reducible refine Kd.C_drewN ?_ _) | (with_reducible refine Kd.C_drew ?_))); (case side2 => exact HC0.out); rintro e w18 ⟨rfl, hb⟩; have n0_ := Aside0.mk (blk_below (g := gb315) (o := .cells #[.string ((rd_T41 l0 x7_1).f0), .bool ((rd_T41 l0 x7_1).f1), .slice A314_2 ((rd_T41 l0 x7_1).f2).length c314_2] 41 (0, 0)) (by (with_reducible repeat (first | refine blk_drewN ?_ _ | refine blk_drew ?_ | refine blk_alloc ?_ _)); exact BK315.out) hb); have n1_ := Aside0.mk (below_step (by repeat (first | (with_reducible first | exact HB.out | apply below_alloc | apply pw_below_drewN | apply below_drew1 | refine below_set ?_ GE315.out) | exact HB.out)) hb); clear BK315 HB; have BK315 := n0_; have HB := n1_; clear n0_ n1_; (try clear hb); (try clear hb2); (try clear hk); (try clear hi)))
         go_ret
         exact ⟨by first | rfl | (simp [errW_none, errW_some] <;> rfl) | (simp [*, errW_none, errW_some] <;> rfl), by repeat (first | (with_reducible first | exact HB.out | apply below_alloc | apply pw_below_drewN | apply below_drew1 | refine below_set ?_ GE315.out) | exact HB.out)⟩
       replace c6 := Bool.eq_false_iff.mpr c6
       subst c6
       have H1 : (some false) = some r := by rw [if_neg (show ¬ (false = true) by decide)] at H; exact H
       clear H
       have H := H1
       clear H1
       obtain rfl := Option.some.inj H
       have p314 : 0 ≤ (x7_1 : Int) := of_decide_eq_true (by first | (with_reducible assumption) | assumption)
       have q314 : x7_1 < (l0.length : Int) := of_decide_eq_true (by first | (with_reducible assumption) | assumption)
       obtain ⟨ad314, A314_2, c314_2, e314, hx314_0, hx314_1, hx314_2, hl314_2, hi314_2⟩ := at_T41 HR0.out x7_1 p314 q314
       cases e314
       replace hx314_0 := (HB.out.cell (World.block_lt_of_cell? w _ hx314_0)).trans hx314_0
       replace hx314_1 := (HB.out.cell (World.block_lt_of_cell? w _ hx314_1)).trans hx314_1
       replace hx314_2 := (HB.out.cell (World.block_lt_of_cell? w _ hx314_2)).trans hx314_2
       have HR314_2 := Aside0.mk hi314_2; have HC314_2 := Aside0.mk hl314_2; clear hi314_2 hl314_2; replace p314 := eq_true p314; replace q314 := eq_true q314
       go_wp2_with (first | ((with_reducible refine gate_dst (N := 4) rfl ?_); refine box_event ?hg (N := 4) ?hd (cs := #[.string (⟨#[]⟩ : ByteArray), .bool false, .slice none 0 0]) (t := 41) ?hr ?_; (case hd => rfl); (case hg => rfl); (case hr => first | (go_simp; done) | (go_simp; rfl)); intro gb315 hg w19 hbox hb; have n0_ := Aside0.mk (below_step (by repeat (first | (with_reducible first | exact HB.out | apply below_alloc | apply pw_below_drewN | apply below_drew1) | exact HB.out)) hb); have n1_ := Aside0.mk (hbox); have n2_ := Aside0.mk ((by rw [hg]; exact (below_size (by repeat (first | (with_reducible first | exact HB.out | apply below_alloc | apply pw_below_drewN | apply below_drew1) | exact HB.out))) : w.heap.size ≤ gb315)); have n3_ := Aside0.mk ((by rw [hg]; exact (below_size (by repeat (first | (with_reducible first | exact HB.out | apply below_alloc | apply pw_below_drewN | apply below_drew1) | exact HB.out))) : w.heap.size ≤ gb315)); clear HB; have HB := n0_; have BK315 := n1_; have GW315 := n2_; have GE315 := n3_; clear n0_ n1_ n2_ n3_ hb hbox hg; have hcz20_0 : w19.cell? ⟨gb315, 0, none⟩ = some (.string (⟨#[]⟩ : ByteArray)) := (blk_cell BK315.out 0).trans rfl; have hcz20_1 : w19.cell? ⟨gb315, 1, none⟩ = some (.bool false) := (blk_cell BK315.out 1).trans rfl; have hcz20_2 : w19.cell? ⟨gb315, 2, none⟩ = some (.slice none 0 0) := (blk_cell BK315.out 2).trans rfl; have hfz20_0 := blk_frozen BK315.out 0; have hfz20_1 := blk_frozen BK315.out 1; have hfz20_2 := blk_frozen BK315.out 2) | ((with_reducible refine gate_callee (f := 65) rfl ?_); refine goesL_ (some 13) rfl rfl Tryd.func65 (by kernel_rfl) rfl #[.agg #[.string ((rd_T41 l0 x7_1).f0), .bool ((rd_T41 l0 x7_1).f1), .slice A314_2 ((rd_T41 l0 x7_1).f2).length c314_2]] rfl (by (try simp only [List.map_toArray, List.map_cons, List.map_nil]); first | done | rfl | (simp only [List.length_drop, List.length_take]; rfl)) ?_; (with_reducible refine (impl_FunOk.calls ((rd_T41 l0 x7_1).f0) ((rd_T41 l0 x7_1).f1) _ _ ((rd_T41 l0 x7_1).f2) false _ ?side1 ?side2 A5.out).mono ?_); (case side1 => exact Kd.C_below HR314_2.out (by repeat (first | (with_reducible first | exact HB.out | apply below_alloc | apply pw_below_drewN | apply below_drew1 | refine below_set ?_ GE315.out) | exact HB.out))); (case side2 => exact HC314_2.out); rintro e w21 ⟨rfl, hb⟩; refine ⟨_, rfl, ?_⟩; have n0_ := Aside0.mk (blk_below (g := gb315) (o := .cells #[.string ((rd_T41 l0 x7_1).f0), .bool ((rd_T41 l0 x7_1).f1), .slice A314_2 ((rd_T41 l0 x7_1).f2).length c314_2] 41 (0, 0)) (by (with_reducible repeat (first | refine blk_drewN ?_ _ | refine blk_drew ?_ | refine blk_alloc ?_ _)); refine blk_put (cs := #[.string ((rd_T41 l0 x7_1).f0), .bool ((rd_T41 l0 x7_1).f1), .slice none 0 0]) ?_ 2 _ rfl; (with_reducible repeat (first | refine blk_drewN ?_ _ | refine blk_drew ?_ | refine blk_alloc ?_ _)); refine blk_put (cs := #[.string ((rd_T41 l0 x7_1).f0), .bool false, .slice none 0 0]) ?_ 1 _ rfl; (with_reducible repeat (first | refine blk_drewN ?_ _ | refine blk_drew ?_ | refine blk_alloc ?_ _)); refine blk_put (cs := #[.string (⟨#[]⟩ : ByteArray), .bool false, .slice none 0 0]) ?_ 0 _ rfl; (with_reducible repeat (first | refine blk_drewN ?_ _ | refine blk_drew ?_ | refine blk_alloc ?_ _)); exact BK315.out) hb); have n1_ := Aside0.mk (below_step (by repeat (first | (with_reducible first | exact HB.out | apply below_alloc | apply pw_below_drewN | apply below_drew1 | refine below_set ?_ GE315.out) | exact HB.out)) hb); clear BK315 HB; have BK315 := n0_; have HB := n1_; clear n0_ n1_; (try clear hb); (try clear hb2); (try clear hk); (try clear hi)))
       go_ret
       exact ⟨by first | rfl | (simp [errW_none, errW_some] <;> rfl) | (simp [*, errW_none, errW_some] <;> rfl), by repeat (first | (with_reducible first | exact HB.out | apply below_alloc | apply pw_below_drewN | apply below_drew1 | refine below_set ?_ GE315.out) | exact HB.out)⟩
     rw [if_neg c4] at H
     exact absurd H (by simp)
   rw [if_neg c3] at H
   exact absurd H (by simp)
 rw [if_neg c2] at H
 have c2b0 : decide (x7_1 < (l0.length : Int)) = false := decide_eq_false c2
 clear c2
 obtain rfl := Option.some.inj H
 go_wp2
 go_ret
 exact ⟨by first | rfl | (simp [errW_none, errW_some] <;> rfl) | (simp [*, errW_none, errW_some] <;> rfl), by repeat (first | (with_reducible first | exact HB.out | apply below_alloc | apply pw_below_drewN | apply below_drew1) | exact HB.out)⟩

/-! ### impl_UnitOk: function 24 -/
def impl_UnitOk.f (k : Nat) (l0 : List (S41)) : Option (Bool) := if (l0.length : Int) ≤ 5 then ((impl_funsOk.f k l0).bind fun t318 => (some t318)) else (some false)
set_option maxHeartbeats 8000000 in
set_option maxRecDepth 100000 in
theorem impl_UnitOk.calls (k : Nat) (A0 : Option Addr) (c0 : Nat) (l0 : List (S41)) (r : Bool) (w : World) (hr0 : Kd.C k41 w A0 l0.length l0) (hc0 : l0.length ≤ c0) (h : impl_UnitOk.f k l0 = some r) :
    Calls Tryd.prog 24 #[.slice A0 l0.length c0] w fun e w' => e = .returned (.bool r) ∧ Below w.heap.size w w' := by
 have HR0 := Aside0.mk hr0; have HC0 := Aside0.mk hc0; clear hr0 hc0
 have HB := Aside0.mk (Below.refl w.heap.size w)
 have H : (if (l0.length : Int) ≤ 5 then ((impl_funsOk.f k l0).bind fun t318 => (some t318)) else (some false)) = some r := h
 clear h
 by_cases c2 : (l0.length : Int) ≤ 5
 · rw [if_pos c2] at H
   have c2b0 : decide ((l0.length : Int) ≤ 5) = true := decide_eq_true c2
   have c2b1 : decide (l0.length ≤ 5) = true := decide_eq_true (by omega)
   clear c2
   replace H := Option.bind_eq_some_iff.mp H
   obtain ⟨t318, A30, H⟩ := H
   replace H : (some t318) = some r := H
   have A3 := Aside0.mk A30; clear A30
   obtain rfl := Option.some.inj H
   go_enter Tryd.func24, Tryd.ntmps24
   go_wp2_with (first | (go_at_call 47; (with_reducible refine (impl_funsOk.calls k _ _ l0 t318 _ ?side1 ?side2 A3.out).mono ?_); (case side1 => repeat (first | exact HR0.out | (with_reducible refine Kd.C_alloc ?_ _) | (with_reducible refine Kd.C_drewN ?_ _) | (with_reducible refine Kd.C_drew ?_))); (case side2 => exact HC0.out); rintro e w4 ⟨rfl, hb⟩; have n0_ := Aside0.mk (below_step (by repeat (first | (with_reducible first | exact HB.out | apply below_alloc | apply pw_below_drewN | apply below_drew1) | exact HB.out)) hb); clear HB; have HB := n0_; clear n0_; (try clear hb); (try clear hb2); (try clear hk); (try clear hi)))
   go_ret
   exact ⟨by first | rfl | (simp [errW_none, errW_some] <;> rfl) | (simp [*, errW_none, errW_some] <;> rfl), by repeat (first | (with_reducible first | exact HB.out | apply below_alloc | apply pw_below_drewN | apply below_drew1) | exact HB.out)⟩
 rw [if_neg c2] at H
 have c2b0 : decide ((l0.length : Int) ≤ 5) = false := decide_eq_false c2
 have c2b1 : decide (l0.length ≤ 5) = false := decide_eq_false (by omega)
 clear c2
 obtain rfl := Option.some.inj H
 go_enter Tryd.func24, Tryd.ntmps24
 go_wp2
 go_ret
 exact ⟨by first | rfl | (simp [errW_none, errW_some] <;> rfl) | (simp [*, errW_none, errW_some] <;> rfl), by repeat (first | (with_reducible first | exact HB.out | apply below_alloc | apply pw_below_drewN | apply below_drew1) | exact HB.out)⟩

end Go.Proofs.YtajhjdhkeahlpaaDoor.P

/- When a unit is ok, and where its functions are: what the printed functions of both sides compute. -/
namespace Go.Proofs.YtajhjdhkeahlpaaDoor.L
open Go.RowKit Go.Proofs.YtajhjdhkeahlpaaDoorW.PrintWords Go.Proofs.YtajhjdhkeahlpaaDoorW.PrintLast Go.Proofs.YtajhjdhkeahlpaaDoorW.PrintMore Go.Proofs.YtajhjdhkeahlpaaDoor.P
set_option linter.unusedVariables false
set_option linter.unusedSimpArgs false
def FitF (x : S41) : Prop := x.f0.size ≤ 140737488351232 ∧ x.f2.length ≤ 140737488351232 ∧ ∀ y ∈ x.f2, y.f2.size ≤ 140737488351232
def named (a : ByteArray) (x : S41) : Bool := x.f0.toList == a.toList
def findI (l : List S41) (a : ByteArray) : Int := idxFrom (named a) l 0
def unitGood (l : List S41) : Bool := allFrom (fun i x => funOkB x.f0 x.f2 && (findI l x.f0 == (i : Int))) l 0
def unitOkB (l : List S41) : Bool := unitGood l && decide (l.length ≤ 5)
theorem impl_FunOk_f (x : S41) (h : FitF x) : impl_FunOk.f x.f0 x.f1 x.f2 = some (funOkB x.f0 x.f2) := by
  unfold impl_FunOk.f
  rw [if_pos ⟨h.1, h.2.2⟩]
theorem spec_FunOk_l0 (x : S41) (h : FitF x) (k : Nat) (hk : 140737488351236 + x.f2.length < k) : spec_FunOk.l0 k (x.f2.length : Int) 0 x.f0 x.f1 x.f2 = some (!(x.f2.any fun y => !insOkB y.f0 y.f1 y.f2)) := by
  have e := loop_all (fun _ (y : S26) => insOkB y.f0 y.f1 y.f2) z26 x.f2 true (by have := h.2.1; omega) (fun k i => spec_FunOk.l0 k (x.f2.length : Int) i x.f0 x.f1 x.f2) 140737488351236 ?_ ?_ ?_ k hk
  · rw [e, allFrom_all, Bool.and_true, all_not_any]
  · intro k i hK hi hq
    simp only [spec_FunOk.l0]
    have e := spec_InsOk_f (rd_T26 x.f2 (i : Int)).f0 (rd_T26 x.f2 (i : Int)).f1 (rd_T26 x.f2 (i : Int)).f2 (h.2.2 _ (getD_mem hi)) k (by have : (rd_T26 x.f2 (i : Int)).f2.size ≤ 140737488351232 := h.2.2 _ (getD_mem hi); omega)
    rw [show insOkB (rd_T26 x.f2 (i : Int)).f0 (rd_T26 x.f2 (i : Int)).f1 (rd_T26 x.f2 (i : Int)).f2 = true from hq] at e
    rw [if_pos (by omega), if_pos (by omega), if_pos (by omega), e]
    rfl
  · intro k i hK hi hq
    simp only [spec_FunOk.l0]
    have e := spec_InsOk_f (rd_T26 x.f2 (i : Int)).f0 (rd_T26 x.f2 (i : Int)).f1 (rd_T26 x.f2 (i : Int)).f2 (h.2.2 _ (getD_mem hi)) k (by have : (rd_T26 x.f2 (i : Int)).f2.size ≤ 140737488351232 := h.2.2 _ (getD_mem hi); omega)
    rw [show insOkB (rd_T26 x.f2 (i : Int)).f0 (rd_T26 x.f2 (i : Int)).f1 (rd_T26 x.f2 (i : Int)).f2 = false from hq] at e
    rw [if_pos (by omega), if_pos (by omega), if_pos (by omega), e]
    rfl
  · intro k hK
    simp only [spec_FunOk.l0]
    rw [if_neg (by omega)]
theorem spec_FunOk_f (x : S41) (h : FitF x) (k : Nat) (hk : 140737488351240 + x.f2.length < k) : spec_FunOk.f k x.f0 x.f1 x.f2 = some (funOkB x.f0 x.f2) := by
  obtain ⟨m, rfl⟩ : ∃ m, k = m + 1 := ⟨k - 1, by omega⟩
  have hs := h.1
  have hl := h.2.1
  unfold spec_FunOk.f funOkB
  rw [spec_NameOk_f x.f0 h.1 _ (by omega)]
  simp only [Option.bind_some]
  have j (b : Bool) : spec_FunOk.j0 (m + 1) (x.f2.length : Int) b x.f0 x.f1 x.f2 = some (!b && !(x.f2.any fun y => !insOkB y.f0 y.f1 y.f2)) := by
    simp only [spec_FunOk.j0]
    cases b with
    | true => rfl
    | false => rw [if_neg (by decide), spec_FunOk_l0 x h m (by omega)]; rfl
  cases nameOk x.f0 with
  | false => rw [if_neg (by decide), j]; rfl
  | true =>
    rw [if_pos rfl]
    by_cases h1 : (x.f2.length : Int) < 1
    · have e1 : decide (1 ≤ (x.f2.length : Int)) = false := decide_eq_false (by omega)
      rw [if_pos h1, j, e1]; rfl
    · rw [if_neg h1]
      have e1 : decide (1 ≤ (x.f2.length : Int)) = true := decide_eq_true (by omega)
      by_cases h2 : (x.f2.length : Int) > 10
      · have e2 : decide ((x.f2.length : Int) ≤ 10) = false := decide_eq_false (by omega)
        rw [if_pos h2, j, e1, e2]; rfl
      · rw [if_neg h2]
        have e2 : decide ((x.f2.length : Int) ≤ 10) = true := decide_eq_true (by omega)
        have w : wrap64 ((x.f2.length : Int) - 1) = (x.f2.length : Int) - 1 := wrap_id (by omega) (by omega)
        rw [w, if_pos (by omega), if_pos (by omega), spec_InsLast_f]
        simp only [Option.bind_some]
        rw [j, e1, e2]
        have e3 : (rd_T26 x.f2 ((x.f2.length : Int) - 1)) = x.f2.getD (x.f2.length - 1) z26 := by
          unfold rd_T26
          rw [show ((x.f2.length : Int) - 1).toNat = x.f2.length - 1 by omega]
        rw [e3]
        simp [Bool.and_comm]
theorem spec_l2Find_f (l : List S41) (hn : l.length ≤ 9223372036854775807) (a : ByteArray) (k : Nat) (hk : l.length < k) : spec_l2Find.f k l a = some (findI l a) := by
  unfold spec_l2Find.f findI
  refine loop_idx (named a) z41 l hn (fun k i => spec_l2Find.l0 k l a i) 0 ?_ ?_ ?_ k (by omega)
  · intro k i _ hi hq
    simp only [spec_l2Find.l0]
    rw [if_pos (by omega), if_pos (by omega), if_pos (show (rd_T41 l (i : Int)).f0.toList = a.toList from beq_iff_eq.mp hq)]
  · intro k i _ hi hq
    simp only [spec_l2Find.l0]
    rw [if_pos (by omega), if_pos (by omega), if_neg (show ¬ (rd_T41 l (i : Int)).f0.toList = a.toList from beq_eq_false_iff_ne.mp hq)]
  · intro k _
    simp only [spec_l2Find.l0]
    rw [if_neg (by omega)]
theorem spec_UnitOk_f (l : List S41) (hn : l.length ≤ 140737488351232) (hx : ∀ x ∈ l, FitF x) (k : Nat) (hk : 500000000000000 ≤ k) : spec_UnitOk.f k l = some (unitOkB l) := by
  unfold spec_UnitOk.f unitOkB
  have ed : decide ((l.length : Int) ≤ 5) = decide (l.length ≤ 5) := by congr 1; exact propext ⟨fun h => by omega, fun h => by omega⟩
  rw [← ed]
  have step : ∀ (k i : Nat), 300000000000000 ≤ k → i < l.length → spec_UnitOk.l0 (k + 1) l (i : Int) = if (funOkB (l.getD i z41).f0 (l.getD i z41).f2 && (findI l (l.getD i z41).f0 == (i : Int))) = true then spec_UnitOk.l0 k l (wrap64 ((i : Int) + 1)) else some false := by
    intro k i hK hi
    simp only [spec_UnitOk.l0]
    have hf := hx _ (getD_mem (d := z41) hi)
    have hl2 := hf.2.1
    have e := spec_FunOk_f (rd_T41 l (i : Int)) hf k (by have e0 : rd_T41 l (i : Int) = l.getD i z41 := rfl; rw [e0]; omega)
    rw [if_pos (by omega), if_pos (by omega), e]
    simp only [Option.bind_some]
    show (if funOkB (l.getD i z41).f0 (l.getD i z41).f2 = true then _ else _) = _
    cases funOkB (l.getD i z41).f0 (l.getD i z41).f2 with
    | false => rfl
    | true =>
      rw [if_pos rfl, spec_l2Find_f l (by omega) _ k (by omega)]
      simp only [Option.bind_some, Bool.true_and]
      show (if findI l (l.getD i z41).f0 = (i : Int) then _ else _) = _
      by_cases hq : findI l (l.getD i z41).f0 = (i : Int)
      · rw [if_pos hq, if_pos (beq_iff_eq.mpr hq)]
      · rw [if_neg hq, if_neg (by rw [beq_eq_false_iff_ne.mpr hq]; decide)]
  refine loop_all (fun i x => funOkB x.f0 x.f2 && (findI l x.f0 == (i : Int))) z41 l (decide ((l.length : Int) ≤ 5)) (by omega) (fun k i => spec_UnitOk.l0 k l i) 300000000000000 ?_ ?_ ?_ k (by omega)
  · intro k i hK hi hq
    show spec_UnitOk.l0 (k + 1) l (i : Int) = _
    rw [step k i hK hi, if_pos hq]
  · intro k i hK hi hq
    show spec_UnitOk.l0 (k + 1) l (i : Int) = _
    rw [step k i hK hi, if_neg (by rw [hq]; decide)]
  · intro k _
    simp only [spec_UnitOk.l0]
    rw [if_neg (by omega)]
theorem impl_funsOk_f (l : List S41) (hn : l.length ≤ 140737488351232) (hx : ∀ x ∈ l, FitF x) (k : Nat) (hk : l.length < k) : impl_funsOk.f k l = some (unitGood l) := by
  unfold impl_funsOk.f
  have step : ∀ (k i : Nat), i < l.length → impl_funsOk.l0 (k + 1) l l (l.length : Int) (i : Int) = if (funOkB (l.getD i z41).f0 (l.getD i z41).f2 && (findI l (l.getD i z41).f0 == (i : Int))) = true then impl_funsOk.l0 k l l (l.length : Int) (wrap64 ((i : Int) + 1)) else some false := by
    intro k i hi
    simp only [impl_funsOk.l0]
    have hf := hx _ (getD_mem (d := z41) hi)
    have e := impl_FunOk_f (rd_T41 l (i : Int)) hf
    rw [if_pos (by omega), if_pos (by omega), if_pos (by omega), e]
    simp only [Option.bind_some]
    show (if funOkB (l.getD i z41).f0 (l.getD i z41).f2 = true then _ else _) = _
    cases funOkB (l.getD i z41).f0 (l.getD i z41).f2 with
    | false => rfl
    | true =>
      rw [if_pos rfl]
      simp only [impl_find.f, Option.bind_some, Bool.true_and]
      show (if findI l (l.getD i z41).f0 = (i : Int) then _ else _) = _
      by_cases hq : findI l (l.getD i z41).f0 = (i : Int)
      · rw [if_pos hq, if_pos (beq_iff_eq.mpr hq)]
      · rw [if_neg hq, if_neg (by rw [beq_eq_false_iff_ne.mpr hq]; decide)]
  have e := loop_all (fun i x => funOkB x.f0 x.f2 && (findI l x.f0 == (i : Int))) z41 l true (by omega) (fun k i => impl_funsOk.l0 k l l (l.length : Int) i) 0 ?_ ?_ ?_ k (by omega)
  · rw [e, Bool.and_true]; rfl
  · intro k i hK hi hq
    show impl_funsOk.l0 (k + 1) l l (l.length : Int) (i : Int) = _
    rw [step k i hi, if_pos hq]
  · intro k i hK hi hq
    show impl_funsOk.l0 (k + 1) l l (l.length : Int) (i : Int) = _
    rw [step k i hi, if_neg (by rw [hq]; decide)]
  · intro k _
    simp only [impl_funsOk.l0]
    rw [if_neg (by omega)]
theorem impl_UnitOk_f (l : List S41) (hn : l.length ≤ 140737488351232) (hx : ∀ x ∈ l, FitF x) (k : Nat) (hk : l.length < k) : impl_UnitOk.f k l = some (unitOkB l) := by
  unfold impl_UnitOk.f unitOkB
  by_cases h : l.length ≤ 5
  · rw [if_pos (by omega), impl_funsOk_f l hn hx k hk]
    simp [h]
  · rw [if_neg (by omega)]
    simp [h]
end Go.Proofs.YtajhjdhkeahlpaaDoor.L

-- made by printx.py (own driver over the kit's print); Lean checks it
namespace Go.Proofs.YtajhjdhkeahlpaaDoor.P
open Go.RowKit Go.Proofs.YtajhjdhkeahlpaaDoorW.PrintWords Go.Proofs.YtajhjdhkeahlpaaDoorW.PrintLast Go.Proofs.YtajhjdhkeahlpaaDoorW.PrintMore
attribute [local go_sem] max2_int min2_int max_two min_two max_three min_three max_four min_four   -- for this text's walks alone
set_option linter.unusedVariables false
set_option linter.unusedSimpArgs false

/-! ### impl_UnitText: function 26 -/
-- IMPORT Derived.Test.YtajhjdhkeahlpaaDoorLUnit
-- IMPORT Derived.Test.YtajhjdhkeahlpaaDoorPximplUnitOk
open Go.Proofs.YtajhjdhkeahlpaaDoor.L in
/-- The text of a unit that is not ok. (Not told of one that is.) -/
def impl_UnitText.f (l0 : List S41) : Option ByteArray := if l0.length ≤ 140737488351232 ∧ (∀ x ∈ l0, x.f0.size ≤ 140737488351232 ∧ x.f2.length ≤ 140737488351232 ∧ ∀ y ∈ x.f2, y.f2.size ≤ 140737488351232) ∧ unitOkB l0 = false then some (⟨#[]⟩ : ByteArray) else none
open Go.Proofs.YtajhjdhkeahlpaaDoor.L in
set_option maxHeartbeats 1000000 in
theorem impl_UnitText.calls (A0 : Option Addr) (c0 : Nat) (l0 : List S41) (r : ByteArray) (w : World) (hr0 : Kd.C k41 w A0 l0.length l0) (hc0 : l0.length ≤ c0) (h : impl_UnitText.f l0 = some r) :
    Calls Tryd.prog 26 #[.slice A0 l0.length c0] w fun e w' => e = .returned (.string r) ∧ Below w.heap.size w w' := by
 unfold impl_UnitText.f at h
 by_cases hf : l0.length ≤ 140737488351232 ∧ (∀ x ∈ l0, x.f0.size ≤ 140737488351232 ∧ x.f2.length ≤ 140737488351232 ∧ ∀ y ∈ x.f2, y.f2.size ≤ 140737488351232) ∧ unitOkB l0 = false
 case neg => rw [if_neg hf] at h; exact absurd h (by simp)
 rw [if_pos hf] at h
 obtain rfl := Option.some.inj h
 clear h
 have H := impl_UnitOk.calls (l0.length + 1) A0 c0 l0 (unitOkB l0) w hr0 hc0 (impl_UnitOk_f l0 hf.1 hf.2.1 _ (Nat.lt_succ_self _))
 rw [hf.2.2] at H
 clear hf hr0 hc0; have H := Aside0.mk H
 go_enter Tryd.func26, Tryd.ntmps26
 go_wp2_with (go_at_call 24; refine H.out.mono ?_; rintro e w' ⟨rfl, hb⟩)
 all_goals
   go_ret
   exact ⟨by first | rfl | simp, by first | exact hb | exact below_then (below_alloc (Below.refl _ _) _) (below_size (below_alloc (Below.refl _ _) _)) hb⟩

end Go.Proofs.YtajhjdhkeahlpaaDoor.P
