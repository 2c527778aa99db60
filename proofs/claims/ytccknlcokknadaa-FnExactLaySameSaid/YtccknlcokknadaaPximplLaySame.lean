-- made by printx.py (own driver over the kit's print); Lean checks it
import Derived.Test.YtccknlcokknadaaPx0
import Derived.Test.YtccknlcokknadaaPxspecl5Ints
import Derived.Test.YtccknlcokknadaaPxspecl7Names
import Derived.Test.YtccknlcokknadaaPxslicesEqualFuncssstringssstringsstringsstring
import Derived.Test.YtccknlcokknadaaLSameY
namespace Go.Proofs.Ytccknlcokknadaa.P
open Go.RowKit Go.Proofs.YtccknlcokknadaaW.PrintWords Go.Proofs.YtccknlcokknadaaW.PrintLast Go.Proofs.YtccknlcokknadaaW.PrintMore
attribute [local go_sem] max2_int min2_int max_two min_two max_three min_three max_four min_four   -- for this text's walks alone
set_option linter.unusedVariables false
set_option linter.unusedSimpArgs false

/-! ### impl_LaySame: function 38 -/
-- IMPORT Derived.Test.YtccknlcokknadaaLSameY
open Go.Proofs.Ytccknlcokknadaa.L in
/-- Are two layings the same? -/
def impl_LaySame.f (l0_0 : List Int) (l0_1 : List (List ByteArray)) (l1_0 : List Int) (l1_1 : List (List ByteArray)) : Option Bool := some (laySame l0_0 l0_1 l1_0 l1_1)
open Go.Proofs.Ytccknlcokknadaa.L in
theorem eqStrs_calls (A0 : Option Addr) (c0 : Nat) (l0 : List (List ByteArray)) (A1 : Option Addr) (c1 : Nat) (l1 : List (List ByteArray)) (w : World) (hr0 : Kd.C (Kd.slice 9 Kd.string) w A0 l0.length l0) (hc0 : l0.length ≤ c0) (hr1 : Kd.C (Kd.slice 9 Kd.string) w A1 l1.length l1) (hc1 : l1.length ≤ c1) :
    Calls Try.prog 82 #[.slice A0 l0.length c0, .slice A1 l1.length c1, .func (.func 83) #[] #[]] w fun e w' => e = .returned (.bool (all2 (all2 strSame) l0 l1)) ∧ Below w.heap.size w w' :=
  eqfStrs_calls A0 c0 l0 A1 c1 l1 (all2 strSame) w hr0 hc0 hr1 hc1
    (fun W x A2 c2 y B2 d2 hb _ _ hl hi gl gi => ((slices_Equal_sstring_string.calls (x.length + 1) A2 c2 x B2 d2 y (all2 strSame x y) W hi hl gi gl (slices_Equal_sstring_string_f x y hi.2.1 _ (Nat.lt_succ_self _)))).mono fun e w' h => ⟨h.1, by first | exact h.2 | exact h.2.below⟩)
open Go.Proofs.Ytccknlcokknadaa.L in
theorem eqInts_calls (A0 : Option Addr) (c0 : Nat) (l0 : List Int) (A1 : Option Addr) (c1 : Nat) (l1 : List Int) (w : World) (hr0 : Kd.C (Kd.int .i64) w A0 l0.length l0) (hc0 : l0.length ≤ c0) (hr1 : Kd.C (Kd.int .i64) w A1 l1.length l1) (hc1 : l1.length ≤ c1) :
    Calls Try.prog 68 #[.slice A0 l0.length c0, .slice A1 l1.length c1] w fun e w' => e = .returned (.bool (all2 intSame l0 l1)) ∧ Below w.heap.size w w' :=
  ((slices_Equal_sint_int.calls (l0.length + 1) A0 c0 l0 A1 c1 l1 (all2 intSame l0 l1) w hr0 hc0 hr1 hc1 (slices_Equal_sint_int_f l0 l1 hr0.2.1 _ (Nat.lt_succ_self _)))).mono fun e w' h => ⟨h.1, by first | exact h.2 | exact h.2.below⟩
open Go.Proofs.Ytccknlcokknadaa.L in
set_option maxHeartbeats 2000000 in
theorem impl_LaySame.calls (A0_0 : Option Addr) (c0_0 : Nat) (l0_0 : List Int) (A0_1 : Option Addr) (c0_1 : Nat) (l0_1 : List (List ByteArray)) (A1_0 : Option Addr) (c1_0 : Nat) (l1_0 : List Int) (A1_1 : Option Addr) (c1_1 : Nat) (l1_1 : List (List ByteArray)) (r : Bool) (w : World) (hr0_0 : Kd.C (Kd.int .i64) w A0_0 l0_0.length l0_0) (hc0_0 : l0_0.length ≤ c0_0) (hr0_1 : Kd.C (Kd.slice 9 Kd.string) w A0_1 l0_1.length l0_1) (hc0_1 : l0_1.length ≤ c0_1) (hr1_0 : Kd.C (Kd.int .i64) w A1_0 l1_0.length l1_0) (hc1_0 : l1_0.length ≤ c1_0) (hr1_1 : Kd.C (Kd.slice 9 Kd.string) w A1_1 l1_1.length l1_1) (hc1_1 : l1_1.length ≤ c1_1) (h : impl_LaySame.f l0_0 l0_1 l1_0 l1_1 = some r) :
    Calls Try.prog 38 #[.agg #[.slice A0_0 l0_0.length c0_0, .slice A0_1 l0_1.length c0_1], .agg #[.slice A1_0 l1_0.length c1_0, .slice A1_1 l1_1.length c1_1]] w fun e w' => e = .returned (.bool r) ∧ Below w.heap.size w w' := by
  have H1 := Aside0.mk (fun (W : World) (hb : Below w.heap.size w W) => eqInts_calls A0_0 c0_0 l0_0 A1_0 c1_0 l1_0 W (Kd.C_below hr0_0 hb) hc0_0 (Kd.C_below hr1_0 hb) hc1_0)
  have H2 := Aside0.mk (fun (W : World) (hb : Below w.heap.size w W) => eqStrs_calls A0_1 c0_1 l0_1 A1_1 c1_1 l1_1 W (Kd.C_below hr0_1 hb) hc0_1 (Kd.C_below hr1_1 hb) hc1_1)
  clear hr0_0 hr0_1 hr1_0 hr1_1
  obtain rfl := Option.some.inj h
  clear h
  have HW : Below w.heap.size w ((w.alloc (.cells #[.slice A0_0 l0_0.length c0_0, .slice A0_1 l0_1.length c0_1] 38)).alloc (.cells #[.slice A1_0 l1_0.length c1_0, .slice A1_1 l1_1.length c1_1] 38)) := below_alloc (below_alloc (Below.refl _ _) _) _
  have HB := Aside0.mk HW
  clear HW
  cases hq : all2 intSame l0_0 l1_0 with
  | false =>
    rw [show laySame l0_0 l0_1 l1_0 l1_1 = false by simp only [laySame, hq, Bool.false_and]]
    have HH := H1.out _ HB.out
    rw [hq] at HH
    have H3 := Aside0.mk HH
    clear HH hq
    go_enter Try.func38, Try.ntmps38
    go_wp2_with (go_at_call 68; refine H3.out.mono ?_; rintro e w' ⟨rfl, hb'⟩)
    go_ret
    exact ⟨rfl, below_then HB.out HB.out.size hb'⟩
  | true =>
    rw [show laySame l0_0 l0_1 l1_0 l1_1 = all2 (all2 strSame) l0_1 l1_1 by simp only [laySame, hq, Bool.true_and]]
    have HH := H1.out _ HB.out
    rw [hq] at HH
    have H3 := Aside0.mk HH
    clear HH hq
    have K1 := Aside0.mk (show ((w.alloc (.cells #[.slice A0_0 l0_0.length c0_0, .slice A0_1 l0_1.length c0_1] 38)).alloc (.cells #[.slice A1_0 l1_0.length c1_0, .slice A1_1 l1_1.length c1_1] 38)).heap[w.heap.size]? = some (.cells #[.slice A0_0 l0_0.length c0_0, .slice A0_1 l0_1.length c0_1] 38) from blk_alloc (blk_new w (.cells #[.slice A0_0 l0_0.length c0_0, .slice A0_1 l0_1.length c0_1] 38)) (.cells #[.slice A1_0 l1_0.length c1_0, .slice A1_1 l1_1.length c1_1] 38))
    have K2 := Aside0.mk (show ((w.alloc (.cells #[.slice A0_0 l0_0.length c0_0, .slice A0_1 l0_1.length c0_1] 38)).alloc (.cells #[.slice A1_0 l1_0.length c1_0, .slice A1_1 l1_1.length c1_1] 38)).heap[w.heap.size + 1]? = some (.cells #[.slice A1_0 l1_0.length c1_0, .slice A1_1 l1_1.length c1_1] 38) by have := blk_new (w.alloc (.cells #[.slice A0_0 l0_0.length c0_0, .slice A0_1 l0_1.length c0_1] 38)) (.cells #[.slice A1_0 l1_0.length c1_0, .slice A1_1 l1_1.length c1_1] 38); simpa using this)
    go_enter Try.func38, Try.ntmps38
    go_wp2_with (first | (go_at_call 68; refine H3.out.mono ?_; rintro e w' ⟨rfl, hb'⟩; have b1 : w'.cell? ⟨w.heap.size, 1, none⟩ = some (.slice A0_1 l0_1.length c0_1) := (blk_cell (blk_below K1.out hb') 1).trans rfl; have b2 : w'.cell? ⟨w.heap.size + 1, 1, none⟩ = some (.slice A1_1 l1_1.length c1_1) := (blk_cell (blk_below K2.out hb') 1).trans rfl; have HB2 := Aside0.mk (below_then HB.out HB.out.size hb'); clear hb') | (go_at_call 82; refine (H2.out _ HB2.out).mono ?_; rintro e w2 ⟨rfl, hb2⟩))
    go_ret
    exact ⟨rfl, below_then HB2.out HB2.out.size hb2⟩

end Go.Proofs.Ytccknlcokknadaa.P
