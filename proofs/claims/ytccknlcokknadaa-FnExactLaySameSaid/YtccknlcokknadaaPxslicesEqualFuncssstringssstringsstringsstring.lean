-- made by printx.py (own driver over the kit's print); Lean checks it
import Derived.Test.YtccknlcokknadaaPx0
import Derived.Test.YtccknlcokknadaaLSeq
namespace Go.Proofs.Ytccknlcokknadaa.P
open Go.RowKit Go.Proofs.YtccknlcokknadaaW.PrintWords Go.Proofs.YtccknlcokknadaaW.PrintLast Go.Proofs.YtccknlcokknadaaW.PrintMore
attribute [local go_sem] max2_int min2_int max_two min_two max_three min_three max_four min_four   -- for this text's walks alone
set_option linter.unusedVariables false
set_option linter.unusedSimpArgs false

/-! ### slices_EqualFunc_ssstring_ssstring_sstring_sstring: function 82 -/
-- IMPORT Derived.Test.YtccknlcokknadaaLSeq
open Go.Proofs.Ytccknlcokknadaa.L in
set_option maxHeartbeats 4000000 in
set_option maxRecDepth 100000 in
theorem eqfStrs_calls (A0 : Option Addr) (c0 : Nat) (l0 : List (List ByteArray)) (A1 : Option Addr) (c1 : Nat) (l1 : List (List ByteArray)) (q : (List ByteArray) → (List ByteArray) → Bool) (w : World) (hr0 : Kd.C (Kd.slice 9 Kd.string) w A0 l0.length l0) (hc0 : l0.length ≤ c0) (hr1 : Kd.C (Kd.slice 9 Kd.string) w A1 l1.length l1) (hc1 : l1.length ≤ c1)
    (hp : ∀ (W : World) (x : (List ByteArray)) (A2 : Option Addr) (c2 : Nat) (y : (List ByteArray)) (B2 : Option Addr) (d2 : Nat), Below w.heap.size w W → x ∈ l0 → y ∈ l1 → x.length ≤ c2 → Kd.C Kd.string W A2 x.length x → y.length ≤ d2 → Kd.C Kd.string W B2 y.length y → Calls Try.prog 83 #[.slice A2 x.length c2, .slice B2 y.length d2] W fun e w' => e = .returned (.bool (q x y)) ∧ Below W.heap.size W w') :
    Calls Try.prog 82 #[.slice A0 l0.length c0, .slice A1 l1.length c1, .func (.func 83) #[] #[]] w fun e w' => e = .returned (.bool (all2 q l0 l1)) ∧ Below w.heap.size w w' := by
  have HR0 := Aside0.mk hr0
  have HR1 := Aside0.mk hr1
  have HN : l0.length ≤ 9223372036854775807 := hr0.2.1
  have HPP := Aside0.mk hp
  clear hr0 hr1 hp
  by_cases hlen : l0.length = l1.length
  · have hb1 : (l0.length == l1.length) = true := beq_iff_eq.mpr hlen
    have hb2 : ((l0.length : Int) == (l1.length : Int)) = true := beq_iff_eq.mpr (by omega)
    have hb3 : (l0.length != l1.length) = false := bne_eq_false_iff_eq.mpr hlen
    have hb4 : ((l0.length : Int) != (l1.length : Int)) = false := bne_eq_false_iff_eq.mpr (by omega)
    have HL := Aside0.mk hlen
    clear hlen
    go_enter Try.func82, Try.ntmps82
    go_wp2
    clear hb1 hb2 hb3 hb4
    go_loopg [17] l0.length (fun gg s8 wr => ∃ kk : Nat, s8 = .int .i64 kk ∧ Aside0 (kk ≤ l0.length) ∧ Aside0 (l0.length - kk ≤ gg) ∧ Aside0 (Below w.heap.size w wr) ∧ Aside0 (∀ i, i < kk → q (l0.getD i ([] : List ByteArray)) (l1.getD i ([] : List ByteArray)) = true))
    case atStart => exact ⟨0, rfl, ⟨Nat.zero_le _⟩, ⟨by omega⟩, ⟨Below.refl _ w⟩, ⟨fun i hi => absurd hi (Nat.not_lt_zero _)⟩⟩
    case round =>
      obtain ⟨kk, rfl, HK, HG, HB, HP⟩ := hrel
      by_cases hlt : kk < l0.length
      · obtain ⟨ad, A2, c2, e, hx0, hl2, hi2⟩ := at_L7 HR0.out kk (by omega) (by omega)
        obtain ⟨ad', B2, d2, e', gx0, gl2, gi2⟩ := at_L7 HR1.out kk (by omega) (by have := HL.out; omega)
        cases e
        cases e'
        have hy0 := pw_cell_below HB.out hx0
        have gy0 := pw_cell_below HB.out gx0
        simp only [Int.toNat_natCast] at hy0 gy0
        have hcall0 := fun (W_ : World) (hb_ : Below w.heap.size w W_) => HPP.out W_ (rd_L7 l0 (kk : Int)) A2 c2 (rd_L7 l1 (kk : Int)) B2 d2 hb_ (by show l0.getD (kk : Int).toNat ([] : List ByteArray) ∈ l0; rw [Int.toNat_natCast]; exact getD_mem hlt) (by show l1.getD (kk : Int).toNat ([] : List ByteArray) ∈ l1; rw [Int.toNat_natCast]; exact getD_mem (by have := HL.out; omega)) hl2 (Kd.C_below hi2 hb_) gl2 (Kd.C_below gi2 hb_)
        clear hx0 gx0 hl2 hi2 gl2 gi2
        have hlb : decide (kk < l0.length) = true := decide_eq_true hlt
        have hli : decide ((kk : Int) < (l0.length : Int)) = true := decide_eq_true (by omega)
        have hlt1 : kk < l1.length := by have := HL.out; omega
        have hlb1 : decide (kk < l1.length) = true := decide_eq_true hlt1
        have hli1 : decide ((kk : Int) < (l1.length : Int)) = true := decide_eq_true (by have := HL.out; omega)
        have hq2 : q (rd_L7 l0 (kk : Int)) (rd_L7 l1 (kk : Int)) = q (l0.getD kk ([] : List ByteArray)) (l1.getD kk ([] : List ByteArray)) := by show q (l0.getD (kk : Int).toNat ([] : List ByteArray)) (l1.getD (kk : Int).toNat ([] : List ByteArray)) = _; rw [Int.toNat_natCast]
        simp only [hq2] at hcall0
        have HCL := Aside0.mk hcall0
        clear hq2 hcall0
        cases hq : q (l0.getD kk ([] : List ByteArray)) (l1.getD kk ([] : List ByteArray)) with
        | false =>
          have hcall := HCL.out
          simp only [hq] at hcall
          have HC2 := Aside0.mk hcall
          clear hcall
          have HQ := Aside0.mk hq
          clear hq
          go_wp2_with (go_at_call 83; refine (HC2.out _ ?hbf).mono ?_; (case hbf => repeat (first | exact HB.out | apply below_alloc)); rintro e w' ⟨rfl, hb'⟩)
          go_ret
          refine ⟨?_, below_then (by repeat (first | exact HB.out | apply below_alloc)) (below_size (by repeat (first | exact HB.out | apply below_alloc))) hb'⟩
          rw [all2_false _ ([] : List ByteArray) ([] : List ByteArray) l0 l1 kk hlt (by have := HL.out; omega) HQ.out]
          rfl
        | true =>
          have hcall := HCL.out
          simp only [hq] at hcall
          have HC2 := Aside0.mk hcall
          clear hcall
          have HQ := Aside0.mk hq
          clear hq
          go_wp2_with (go_at_call 83; refine (HC2.out _ ?hbt).mono ?_; (case hbt => repeat (first | exact HB.out | apply below_alloc)); rintro e w' ⟨rfl, hb'⟩)
          go_roundg (l0.length - (kk + 1))
          case measure => have := HG.out; omega
          case rel =>
            refine ⟨kk + 1, by go_num, ⟨by omega⟩, ⟨Nat.le_refl _⟩, ⟨below_then (by repeat (first | exact HB.out | apply below_alloc)) (below_size (by repeat (first | exact HB.out | apply below_alloc))) hb'⟩, ⟨fun i hi => ?_⟩⟩
            by_cases e : i = kk
            · subst e
              exact HQ.out
            · exact HP.out i (by omega)
      · have hlb : decide (kk < l0.length) = false := decide_eq_false hlt
        have hli : decide ((kk : Int) < (l0.length : Int)) = false := decide_eq_false (by omega)
        go_wp2
        go_ret
        refine ⟨?_, HB.out⟩
        rw [all2_true _ ([] : List ByteArray) ([] : List ByteArray) l0 l1 HL.out (fun i hi => HP.out i (by have := HK.out; omega))]
        rfl
  · have hb1 : (l0.length == l1.length) = false := beq_eq_false_iff_ne.mpr hlen
    have hb2 : ((l0.length : Int) == (l1.length : Int)) = false := beq_eq_false_iff_ne.mpr (by omega)
    have hb3 : (l0.length != l1.length) = true := bne_iff_ne.mpr hlen
    have hb4 : ((l0.length : Int) != (l1.length : Int)) = true := bne_iff_ne.mpr (by omega)
    go_enter Try.func82, Try.ntmps82
    go_wp2
    go_ret
    rw [all2_len q l0 l1 hlen]
    exact ⟨rfl, Below.refl _ w⟩

end Go.Proofs.Ytccknlcokknadaa.P
