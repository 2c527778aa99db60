-- Pxspecl2Bent, Pxspecl2Has: put together by squash.py
import Derived.Test.YtpckkkcaffhhnaaSqFnPickTwo3
import Derived.Test.YtpckkkcaffhhnaaSqFnPickTwo5
import Derived.Test.YtpckkkcaffhhnaaSqFnPickTwo6

-- made by printx.py (own driver over the kit's print); Lean checks it
namespace Go.Proofs.Ytpckkkcaffhhnaa.P
open Go.RowKit Go.Proofs.YtpckkkcaffhhnaaW.PrintWords Go.Proofs.YtpckkkcaffhhnaaW.PrintLast Go.Proofs.YtpckkkcaffhhnaaW.PrintMore
attribute [local go_sem] max2_int min2_int max_two min_two max_three min_three max_four min_four   -- for this text's walks alone
set_option linter.unusedVariables false
set_option linter.unusedSimpArgs false

/-! ### spec_l2Bent: function 62 -/
-- IMPORT Derived.Test.YtpckkkcaffhhnaaLSeq
-- IMPORT Derived.Test.YtpckkkcaffhhnaaPxUnitS
/-- A unit, one in ten bent. -/
def spec_l2Bent.f (k : Nat) (s0_0 : List Int) (s0_1 : Int) : Option (List S30 × Int) :=
  (spec_l2Unit.f k s0_0 s0_1).bind fun u => (spec_l13Rd_pick.f k s0_0 u.2 (u.1.length : Int)).bind fun a => (spec_l13Rd_pick.f k s0_0 a.2 40).bind fun c =>
    if 0 ≤ a.1 ∧ a.1 < (u.1.length : Int) ∧ u.1.length ≤ 1000 ∧ (rd_T30 u.1 a.1).f2.length ≤ 1000 then
      if c.1 = 0 then (spec_l13Rd_of.f k s0_0 c.2 ([(⟨#[]⟩ : ByteArray), (⟨#[65]⟩ : ByteArray), (⟨#[109, 97, 105, 110]⟩ : ByteArray)] : List ByteArray)).bind fun m => some (u.1.set a.1.toNat ⟨m.1, (rd_T30 u.1 a.1).f1, (rd_T30 u.1 a.1).f2⟩, m.2)
      else if c.1 = 1 then some (u.1.set a.1.toNat ⟨(rd_T30 u.1 a.1).f0, (rd_T30 u.1 a.1).f1, []⟩, c.2)
      else if c.1 = 2 then (spec_l1Bent.f k s0_0 c.2).bind fun b => some (u.1.set a.1.toNat ⟨(rd_T30 u.1 a.1).f0, (rd_T30 u.1 a.1).f1, (rd_T30 u.1 a.1).f2 ++ [⟨b.1, b.2.1, b.2.2.1⟩]⟩, b.2.2.2)
      else if c.1 = 3 then some (u.1 ++ [rd_T30 u.1 a.1], c.2)
      else some (u.1, c.2)
    else none
/-- A row of the call's own stays where the state alone was turned. -/
theorem bent_step {w0 W W1 : World} {g base : Nat} {s : List Int} {p : Int} {v : Value} {xs : List S30} (hI : IsS112 w0 W g s p) (ho : Kd.R k30 30 W base (fun _ => True) v xs) (hk : KeepBut W W1 g none) : Kd.R k30 30 W1 base (fun _ => True) v xs :=
  Kd.R_mono (Kd.R_keep (IsS112.apart hI ho (by decide)) hk (fun _ h => h.2)) (fun _ _ => trivial)
/-- The cells of an element, and what is so behind a store into it. -/
theorem bent_at {W : World} {base gu n cap : Nat} {X : List S30} (h : Kd.R k30 30 W base (fun _ => True) (.slice (some ⟨gu, 0, none⟩) n cap) X) (i : Int) (h0 : 0 ≤ i) (h1 : i < n) :
    ∃ ve : Value, W.cell? ⟨gu, i.toNat * 3, none⟩ = some (.string (rd_T30 X i).f0) ∧ W.cell? ⟨gu, i.toNat * 3 + 1, none⟩ = some (.bool (rd_T30 X i).f1) ∧ W.cell? ⟨gu, i.toNat * 3 + 2, none⟩ = some ve ∧ W.frozen? ⟨gu, i.toNat * 3, none⟩ = false ∧ W.frozen? ⟨gu, i.toNat * 3 + 1, none⟩ = false ∧ W.frozen? ⟨gu, i.toNat * 3 + 2, none⟩ = false ∧ Kd.R k38 38 W base (fun _ => True) ve (rd_T30 X i).f2 ∧
      (∀ s : ByteArray, Kd.R k30 30 (W.setCell ⟨gu, i.toNat * 3, none⟩ (.string s)) base (fun _ => True) (.slice (some ⟨gu, 0, none⟩) n cap) (X.set i.toNat ⟨s, (rd_T30 X i).f1, (rd_T30 X i).f2⟩) ∧ W.grownBy (W.setCell ⟨gu, i.toNat * 3, none⟩ (.string s)) (some gu)) ∧
      (∀ (vb : Value) (l : List S38), Kd.R k38 38 W base (fun k => True ∧ some k ≠ (Value.slice (some ⟨gu, 0, none⟩) n cap).ownBlock) vb l → Kd.R k30 30 (W.setCell ⟨gu, i.toNat * 3 + 2, none⟩ vb) base (fun _ => True) (.slice (some ⟨gu, 0, none⟩) n cap) (X.set i.toNat ⟨(rd_T30 X i).f0, (rd_T30 X i).f1, l⟩) ∧ W.grownBy (W.setCell ⟨gu, i.toNat * 3 + 2, none⟩ vb) (some gu)) := by
  have hap := fun (ve : Value) (ge : Kd.R k38 38 W base (fun _ => True) ve (rd_T30 X i).f2) => Kd.R_apart' ge (Kd.R_typed h) (by decide)
  obtain ⟨c, hcl, hM, hcc, hfr⟩ := Kd.R_elem h z30 i h0 h1
  obtain ⟨ve, rfl, ge0⟩ := k30_openM hM
  have ge : Kd.R k38 38 W base (fun _ => True) ve (rd_T30 X i).f2 := Kd.R_mono ge0 (fun _ _ => trivial)
  refine ⟨ve, hcc 0 _ rfl, hcc 1 _ rfl, hcc 2 _ rfl, hfr 0, hfr 1, hfr 2, ge, fun s => ?_, fun vb l hl => ?_⟩
  · exact Kd.R_seg h i h0 h1 (seg := [.string s]) (j := 0) hcl hcc (show 1 ≤ 3 from by decide) (x' := (⟨s, (rd_T30 X i).f1, (rd_T30 X i).f2⟩ : S30)) (okp := fun k => True ∧ some k ≠ (Value.slice (some ⟨gu, 0, none⟩) n cap).ownBlock) (k30_mkM _ _ _ (⟨s, (rd_T30 X i).f1, (rd_T30 X i).f2⟩ : S30) (hap ve ge)) (fun k hk => ⟨trivial, fun e => hk.2 (by rw [e]; rfl)⟩)
  · exact Kd.R_seg h i h0 h1 (seg := [vb]) (j := 2) hcl hcc (show 3 ≤ 3 from by decide) (x' := (⟨(rd_T30 X i).f0, (rd_T30 X i).f1, l⟩ : S30)) (okp := fun k => True ∧ some k ≠ (Value.slice (some ⟨gu, 0, none⟩) n cap).ownBlock) (k30_mkM _ _ _ (⟨(rd_T30 X i).f0, (rd_T30 X i).f1, l⟩ : S30) hl) (fun k hk => ⟨trivial, fun e => hk.2 (by rw [e]; rfl)⟩)
/-- The elements are apart: one's row may be lent, grown and put back. -/
theorem bent_keepS {w0 W W1 : World} {g base : Nat} {s : List Int} {p : Int} {v : Value} {xs : List S30} (hI : IsS112 w0 W g s p) (ho : Kd.S k30 30 W base (fun _ => True) v xs) (hk : KeepBut W W1 g none) : Kd.S k30 30 W1 base (fun k => k ≠ g) v xs := by
  obtain ⟨A0, c0, hb, _⟩ := hI
  exact Kd.S_mono (Kd.S_keep (Kd.S_types ho hb (by decide)) hk (fun _ h => h.2)) (fun _ h => h.2)
theorem bent_lend {W : World} {base g gu n cap : Nat} {X : List S30} (h : Kd.S k30 30 W base (fun k => k ≠ g) (.slice (some ⟨gu, 0, none⟩) n cap) X) (i : Int) (h0 : 0 ≤ i) (h1 : i < n) :
    ∃ (oki : Nat → Prop) (ve : Value), W.cell? ⟨gu, i.toNat * 3, none⟩ = some (.string (rd_T30 X i).f0) ∧ W.cell? ⟨gu, i.toNat * 3 + 1, none⟩ = some (.bool (rd_T30 X i).f1) ∧ W.cell? ⟨gu, i.toNat * 3 + 2, none⟩ = some ve ∧ gu ≠ g ∧ base ≤ gu ∧
      ∀ W4 : World, KeepBut W W4 g none → g < W4.heap.size → W4.cell? ⟨gu, i.toNat * 3 + 2, none⟩ = some ve ∧ Kd.R k38 38 W4 base (fun k => oki k ∨ k ≠ g ∧ W4.heap.size ≤ k) ve (rd_T30 X i).f2 ∧
        ∀ (W5 : World) (v5 : Value) (l : List S38), W4.grownBy W5 ve.ownBlock → Kd.R k38 38 W5 base (fun k => oki k ∨ k ≠ g ∧ W4.heap.size ≤ k) v5 l → W5.cell? ⟨gu, i.toNat * 3 + 2, none⟩ = some ve ∧ W5.frozen? ⟨gu, i.toNat * 3 + 2, none⟩ = false ∧
          Kd.R k30 30 (W5.setCell ⟨gu, i.toNat * 3 + 2, none⟩ v5) base (fun _ => True) (.slice (some ⟨gu, 0, none⟩) n cap) (X.set i.toNat ⟨(rd_T30 X i).f0, (rd_T30 X i).f1, l⟩) ∧ W5.grownBy (W5.setCell ⟨gu, i.toNat * 3 + 2, none⟩ v5) (some gu) := by
  have hgu : gu ≠ g := (Kd.S_R h).1 gu rfl
  have hbs : base ≤ gu := Kd.S_base h gu rfl
  obtain ⟨oki, c, hcl, hM, hcc, hfr, hoki, hH⟩ := Kd.S_elem h z30 i h0 h1
  obtain ⟨ve, rfl, ge⟩ := k30_openM hM
  refine ⟨oki, ve, hcc 0 _ rfl, hcc 1 _ rfl, hcc 2 _ rfl, hgu, hbs, fun W4 hk hlt => ⟨keep_cell hk (hcc 2 _ rfl) hgu, Kd.R_mono (Kd.R_keep ge hk (fun k hk2 => (hoki k hk2).1)) (fun k hk2 => .inl hk2), fun W5 v5 l hg hr => ?_⟩⟩
  have hH5 := Kd.H_grown (Kd.H_widen (Kd.H_keep hH hk (fun _ h => h))) hg (fun k hk2 => .inl (ge.1 k hk2))
  have hat := Kd.H_at hH5 h0 h1
  refine ⟨hat.1 2 _ rfl, hat.2 2, ?_⟩
  have hs := Kd.S_seg0 hH5 h0 h1 (seg := [v5]) (j := 2) (show 3 ≤ 3 from by decide) (x' := (⟨(rd_T30 X i).f0, (rd_T30 X i).f1, l⟩ : S30)) (k30_mkM _ _ _ (⟨(rd_T30 X i).f0, (rd_T30 X i).f1, l⟩ : S30) hr) (fun k hk2 => hk2)
  exact ⟨Kd.R_mono (Kd.S_R hs.1) (fun _ _ => trivial), hs.2⟩
set_option maxHeartbeats 8000000 in
set_option maxRecDepth 100000 in
theorem spec_l2Bent.calls (k : Nat) (g : Nat) (s0_0 : List Int) (s0_1 : Int) (r1 : List S30) (r2 : Int) (w0 w : World) (hI : IsS112 w0 w g s0_0 s0_1) (hB : Below w0.heap.size w0 w) (h : spec_l2Bent.f k s0_0 s0_1 = some (r1, r2)) :
    Calls Try.prog 62 #[.pointer (some ⟨g, 0, none⟩)] w fun e w' => ∃ v0_ : Value, e = .returned (v0_) ∧ Kd.R k30 30 w' w.heap.size (fun _ => True) v0_ r1 ∧ IsS112 w0 w' g s0_0 r2 ∧ Below w0.heap.size w0 w' ∧ KeepBut w w' g none := by
  have hu30 := Try.underlying30
  unfold spec_l2Bent.f at h
  obtain ⟨⟨u, p1⟩, a1, h⟩ := Option.bind_eq_some_iff.mp h
  obtain ⟨⟨ix, p2⟩, a2, h⟩ := Option.bind_eq_some_iff.mp h
  obtain ⟨⟨c, p3⟩, a3, h⟩ := Option.bind_eq_some_iff.mp h
  simp only at a2 a3 h
  by_cases hc : 0 ≤ ix ∧ ix < (u.length : Int) ∧ u.length ≤ 1000 ∧ (rd_T30 u ix).f2.length ≤ 1000
  case neg => rw [if_neg hc] at h; exact absurd h (by simp)
  rw [if_pos hc] at h
  have HI := Aside0.mk hI
  have HB := Aside0.mk hB
  have A1 := Aside0.mk a1
  have A2 := Aside0.mk a2
  have A3 := Aside0.mk a3
  have HC := Aside0.mk hc
  clear hI hB a1 a2 a3
  have hli : decide (ix < (u.length : Int)) = true := decide_eq_true hc.2.1
  have hl0 : decide (0 ≤ ix) = true := decide_eq_true hc.1
  have p5 := eq_true hc.1
  have q5 := eq_true hc.2.1
  clear hc
  by_cases h0 : c = 0
  · subst h0
    rw [if_pos rfl] at h
    obtain ⟨⟨m, p4⟩, a4, h⟩ := Option.bind_eq_some_iff.mp h
    simp only [Option.some.injEq, Prod.mk.injEq] at h
    obtain ⟨e1, rfl⟩ := h
    have E1 := Aside0.mk e1
    obtain ⟨L3, hL3⟩ : ∃ L3 : List ByteArray, L3 = ([(⟨#[]⟩ : ByteArray), (⟨#[65]⟩ : ByteArray), (⟨#[109, 97, 105, 110]⟩ : ByteArray)] : List ByteArray) := ⟨_, rfl⟩
    rw [← hL3] at a4
    have A4 := Aside0.mk a4
    have NL := Aside0.mk hL3
    clear e1 a4 hL3
    go_enter Try.func62, Try.ntmps62
    go_wp2_with (first
    | (go_at_call 108; refine (spec_l2Unit.calls k g s0_0 s0_1 u p1 w0 w HI.out HB.out A1.out).mono ?_; rintro e w1 ⟨v1, rfl, ho, hi, hb, hk⟩; have HO1 := Aside0.mk ho; have HI1 := Aside0.mk hi; have HB1 := Aside0.mk hb; have HK1 := Aside0.mk hk; clear ho hi hb hk A1; obtain ⟨Au, cu, eu⟩ := Kd.R_slice HO1.out; subst eu)
    | (go_at_call 109; refine (spec_l13Rd_pick.calls k g s0_0 p1 (u.length : Int) ix p2 w0 w1 HI1.out HB1.out A2.out).mono ?_; rintro e w2 ⟨rfl, hi, hb, hk⟩; have HO2 := Aside0.mk (bent_step HI1.out HO1.out hk); have HI2 := Aside0.mk hi; have HB2 := Aside0.mk hb; have HK2 := Aside0.mk (KeepBut.trans HK1.out hk (.inl rfl)); clear hi hb hk A2 HO1 HI1 HB1 HK1)
    | (go_at_call 109; refine (spec_l13Rd_pick.calls k g s0_0 p2 40 0 p3 w0 w2 HI2.out HB2.out A3.out).mono ?_; rintro e w3 ⟨rfl, hi, hb, hk⟩; have HO3 := Aside0.mk (bent_step HI2.out HO2.out hk); have HI3 := Aside0.mk hi; have HB3 := Aside0.mk hb; have HK3 := Aside0.mk (KeepBut.trans HK2.out hk (.inl rfl)); clear hi hb hk A3 HO2 HI2 HB2 HK2)
    | ((with_reducible refine gate_dst (N := 18) rfl ?_); refine Kd.R_lit Kd.string _ 9 ?hg (N := 18) ?hd (xs := ([(⟨#[]⟩ : ByteArray), (⟨#[65]⟩ : ByteArray), (⟨#[109, 97, 105, 110]⟩ : ByteArray)] : List ByteArray)) (inner := [.string (⟨#[]⟩ : ByteArray), .string (⟨#[65]⟩ : ByteArray), .string (⟨#[109, 97, 105, 110]⟩ : ByteArray)]) (ok := fun _ => True) (okp := fun _ => True) ?hr ?hp (fun _ hk => hk) trivial (Below.refl _ _) (Nat.le_refl _) (by simp) ?_; (case hd => rfl); (case hg => rfl); (case hr => first | (go_simp; done) | (go_simp; rfl)); (case hp => exact (Reps.one (show Kd.M Kd.string _ _ _ (⟨#[]⟩ : ByteArray) [.string (⟨#[]⟩ : ByteArray)] from rfl) (Reps.one (show Kd.M Kd.string _ _ _ (⟨#[65]⟩ : ByteArray) [.string (⟨#[65]⟩ : ByteArray)] from rfl) (Reps.one (show Kd.M Kd.string _ _ _ (⟨#[109, 97, 105, 110]⟩ : ByteArray) [.string (⟨#[109, 97, 105, 110]⟩ : ByteArray)] from rfl) (Reps.none _ _))))); intro v5 w5 ho4 hb hg_ hnew_; rw [← NL.out] at ho4; have HL5 := Aside0.mk ho4; have HO5 := Aside0.mk (Kd.R_below HO3.out hb); have HI5 := Aside0.mk (IsS112.below HI3.out hb); have HB5 := Aside0.mk (below_step HB3.out hb); have HK5 := Aside0.mk (KeepBut.trans HK3.out (KeepBut.of_below hb g none) (.inl rfl)); clear ho4 hb hg_ hnew_ HO3 HI3 HB3 HK3; obtain ⟨A5, c5, e5⟩ := Kd.R_slice HL5.out; subst e5)
    | (go_at_call 110; refine (spec_l13Rd_of.calls k g s0_0 p3 A5 c5 L3 m p4 w0 w5 HI5.out HB5.out (Kd.R_reads' HL5.out).2.2 (Kd.R_reads' HL5.out).2.1 (far_slice (IsS112.own_ne HI5.out HL5.out (by decide))) A4.out).mono ?_; rintro e w6 ⟨rfl, hi, hb, hk⟩; have HO6 := Aside0.mk (bent_step HI5.out HO5.out hk); have HI6 := Aside0.mk hi; have HB6 := Aside0.mk hb; have HK6 := Aside0.mk (KeepBut.trans HK5.out hk (.inl rfl)); clear hi hb hk A4 HO5 HI5 HB5 HK5 HL5; obtain ⟨gu, cap, eu, hbg, hgl, _⟩ := Kd.R_form HO6.out (by have := HC.out; omega); have eu1 : Au = some ⟨gu, 0, none⟩ := (by injection eu); clear eu hgl cap; subst eu1; have HGB := Aside0.mk hbg; clear hbg; obtain ⟨ve, hx0, hx1, hx2, hf0, hf1, hf2, hve, hput, hputv⟩ := bent_at HO6.out ix HC.out.1 HC.out.2.1; have HVE := Aside0.mk hve; have HPS := Aside0.mk hput; have HPV := Aside0.mk hputv; clear hve hput hputv)
    | ((with_reducible refine gate_store (t := 9) (p := 21) rfl ?_); refine store_event (t := 9) (p := 21) (v := ?vo_w7) (w1 := (w6.setCell ⟨gu, ix.toNat * 3, none⟩ (.string m))) ?hg ?ho ?hn ?hr ?_; (case ho => rfl); (case hg => rfl); (case hn => rfl); (case hr => first | (go_simp; done) | (go_simp; rfl)); intro w7 hw; have HP := Aside0.mk (HPS.out m); have HO7 := Aside0.mk (show Kd.R k30 30 w7 w.heap.size (fun _ => True) (.slice (some ⟨gu, 0, none⟩) u.length cu) r1 from by rw [hw, ← E1.out]; exact HP.out.1); have hg4 : w6.grownBy w7 (some gu) := (by rw [hw]; exact HP.out.2); have HI7 := Aside0.mk (IsS112.grown HI6.out hg4 (IsS112.own_ne HI6.out HO6.out (by decide))); have HB7 := Aside0.mk (show Below w0.heap.size w0 w7 from by rw [hw]; exact below_set HB6.out (Nat.le_trans (below_size HB.out) HGB.out)); have HK7 := Aside0.mk (KeepBut.trans HK6.out (KeepBut.of_grown hg4 g) (.inr ⟨gu, rfl, HGB.out⟩)); clear hw hg4 hx0 hx1 hx2 hf0 hf1 hf2))
    go_ret
    exact ⟨_, rfl, HO7.out, HI7.out, HB7.out, HK7.out⟩
  by_cases h1 : c = 1
  · subst h1
    rw [if_neg h0, if_pos rfl] at h
    simp only [Option.some.injEq, Prod.mk.injEq] at h
    obtain ⟨e1, rfl⟩ := h
    have E1 := Aside0.mk e1
    clear e1 h0
    go_enter Try.func62, Try.ntmps62
    go_wp2_with (first
    | (go_at_call 108; refine (spec_l2Unit.calls k g s0_0 s0_1 u p1 w0 w HI.out HB.out A1.out).mono ?_; rintro e w1 ⟨v1, rfl, ho, hi, hb, hk⟩; have HO1 := Aside0.mk ho; have HI1 := Aside0.mk hi; have HB1 := Aside0.mk hb; have HK1 := Aside0.mk hk; clear ho hi hb hk A1; obtain ⟨Au, cu, eu⟩ := Kd.R_slice HO1.out; subst eu)
    | (go_at_call 109; refine (spec_l13Rd_pick.calls k g s0_0 p1 (u.length : Int) ix p2 w0 w1 HI1.out HB1.out A2.out).mono ?_; rintro e w2 ⟨rfl, hi, hb, hk⟩; have HO2 := Aside0.mk (bent_step HI1.out HO1.out hk); have HI2 := Aside0.mk hi; have HB2 := Aside0.mk hb; have HK2 := Aside0.mk (KeepBut.trans HK1.out hk (.inl rfl)); clear hi hb hk A2 HO1 HI1 HB1 HK1)
    | (go_at_call 109; refine (spec_l13Rd_pick.calls k g s0_0 p2 40 1 p3 w0 w2 HI2.out HB2.out A3.out).mono ?_; rintro e w3 ⟨rfl, hi, hb, hk⟩; have HO3 := Aside0.mk (bent_step HI2.out HO2.out hk); have HI3 := Aside0.mk hi; have HB3 := Aside0.mk hb; have HK3 := Aside0.mk (KeepBut.trans HK2.out hk (.inl rfl)); clear hi hb hk A3 HO2 HI2 HB2 HK2; obtain ⟨gu, cap, eu, hbg, hgl, _⟩ := Kd.R_form HO3.out (by have := HC.out; omega); have eu1 : Au = some ⟨gu, 0, none⟩ := (by injection eu); clear eu hgl cap; subst eu1; have HGB := Aside0.mk hbg; clear hbg; obtain ⟨ve, hx0, hx1, hx2, hf0, hf1, hf2, hve, hput, hputv⟩ := bent_at HO3.out ix HC.out.1 HC.out.2.1; have HVE := Aside0.mk hve; have HPS := Aside0.mk hput; have HPV := Aside0.mk hputv; clear hve hput hputv)
    | ((with_reducible refine gate_store (t := 28) (p := 27) rfl ?_); refine store_event (t := 28) (p := 27) (v := ?vo_w4) (w1 := (w3.setCell ⟨gu, ix.toNat * 3 + 2, none⟩ (.slice none 0 0))) ?hg ?ho ?hn ?hr ?_; (case ho => rfl); (case hg => rfl); (case hn => rfl); (case hr => first | (go_simp; done) | (go_simp; rfl)); intro w4 hw; have HP := Aside0.mk (HPV.out (.slice none 0 0) [] (Kd.R_nil _ _ _ _ _)); have HO4 := Aside0.mk (show Kd.R k30 30 w4 w.heap.size (fun _ => True) (.slice (some ⟨gu, 0, none⟩) u.length cu) r1 from by rw [hw, ← E1.out]; exact HP.out.1); have hg4 : w3.grownBy w4 (some gu) := (by rw [hw]; exact HP.out.2); have HI4 := Aside0.mk (IsS112.grown HI3.out hg4 (IsS112.own_ne HI3.out HO3.out (by decide))); have HB4 := Aside0.mk (show Below w0.heap.size w0 w4 from by rw [hw]; exact below_set HB3.out (Nat.le_trans (below_size HB.out) HGB.out)); have HK4 := Aside0.mk (KeepBut.trans HK3.out (KeepBut.of_grown hg4 g) (.inr ⟨gu, rfl, HGB.out⟩)); clear hw hg4 hx0 hx1 hx2 hf0 hf1 hf2))
    go_ret
    exact ⟨_, rfl, HO4.out, HI4.out, HB4.out, HK4.out⟩
  by_cases h2 : c = 2
  · subst h2
    rw [if_neg h0, if_neg h1, if_pos rfl] at h
    obtain ⟨⟨b0, b1, b2, p4⟩, a4, h⟩ := Option.bind_eq_some_iff.mp h
    simp only [Option.some.injEq, Prod.mk.injEq] at h
    obtain ⟨e1, rfl⟩ := h
    have E1 := Aside0.mk e1
    have A4 := Aside0.mk a4
    clear e1 a4 h0 h1
    go_enter Try.func62, Try.ntmps62
    go_wp2_with (first
    | (go_at_call 108; refine (spec_l2Unit.callsS k g s0_0 s0_1 u p1 w0 w HI.out HB.out A1.out).mono ?_; rintro e w1 ⟨v1, rfl, ho, hi, hb, hk⟩; have HO1 := Aside0.mk ho; have HI1 := Aside0.mk hi; have HB1 := Aside0.mk hb; have HK1 := Aside0.mk hk; clear ho hi hb hk A1; obtain ⟨Au, cu, eu⟩ := Kd.S_slice HO1.out; subst eu)
    | (go_at_call 109; refine (spec_l13Rd_pick.calls k g s0_0 p1 (u.length : Int) ix p2 w0 w1 HI1.out HB1.out A2.out).mono ?_; rintro e w2 ⟨rfl, hi, hb, hk⟩; have HO2 := Aside0.mk (Kd.S_mono (bent_keepS HI1.out HO1.out hk) (fun _ _ => trivial) : Kd.S k30 30 w2 w.heap.size (fun _ => True) (.slice Au u.length cu) u); have HI2 := Aside0.mk hi; have HB2 := Aside0.mk hb; have HK2 := Aside0.mk (KeepBut.trans HK1.out hk (.inl rfl)); clear hi hb hk A2 HO1 HI1 HB1 HK1)
    | (go_at_call 109; refine (spec_l13Rd_pick.calls k g s0_0 p2 40 2 p3 w0 w2 HI2.out HB2.out A3.out).mono ?_; rintro e w3 ⟨rfl, hi, hb, hk⟩; have HO3 := Aside0.mk (bent_keepS HI2.out HO2.out hk); have HI3 := Aside0.mk hi; have HB3 := Aside0.mk hb; have HK3 := Aside0.mk (KeepBut.trans HK2.out hk (.inl rfl)); clear hi hb hk A3 HO2 HI2 HB2 HK2; obtain ⟨gu, cap, eu, _, _, _⟩ := Kd.S_form HO3.out (by have := HC.out; omega); have eu1 : Au = some ⟨gu, 0, none⟩ := (by injection eu); clear eu cap; subst eu1; obtain ⟨oki, ve, hx0, hx1, hx2, hgu, hbs, hld⟩ := bent_lend HO3.out ix HC.out.1 HC.out.2.1; have HGU := Aside0.mk (And.intro hgu hbs); have HLD := Aside0.mk hld; have HLB := Aside0.mk HC.out.2.2.2; clear hgu hbs hld; generalize hbody : (rd_T30 u ix).f2 = body at HLD HLB; have HBD := Aside0.mk hbody; clear hbody))
    refine start_ (n := 14) (S := fun w' => w'.cell? ⟨gu, ix.toNat * 3 + 2, none⟩ = some ve) (ds := [13]) #[false, false, false, false, false, false, false, false, false, false, false, false, false, false] (by kernel_rfl) rfl rfl (hx2) (fun hHeld => ?_)
    refine pure_ (i := 0) (N := some 30) (v := ?_) (a' := ?_) #[true, false, false, false, false, false, false, false, false, false, false, false, false, false] rfl rfl (by kernel_rfl) (fun _ _ _ h => h) (Or.inl ⟨by rfl, ?_⟩) ?_ ?_
    rotate_left
    · intro w'
      go_simp
      with_reducible rfl
    rotate_left
    · simp only [Act.put, List.setIfInBounds_toArray, List.set_cons_zero, List.set_cons_succ, i64_w, i32_w]
      rfl
    refine pure_ (i := 1) (N := some 31) (v := ?_) (a' := ?_) #[true, true, false, false, false, false, false, false, false, false, false, false, false, false] rfl rfl (by kernel_rfl) (fun _ _ _ h => h) (Or.inl ⟨by rfl, ?_⟩) ?_ ?_
    rotate_left
    · intro w'
      go_simp
      with_reducible rfl
    rotate_left
    · simp only [Act.put, List.setIfInBounds_toArray, List.set_cons_zero, List.set_cons_succ, i64_w, i32_w]
      rfl
    refine pure_ (i := 2) (N := some 32) (v := ?_) (a' := ?_) #[true, true, true, false, false, false, false, false, false, false, false, false, false, false] rfl rfl (by kernel_rfl) (fun _ _ _ h => h) (Or.inl ⟨by rfl, ?_⟩) ?_ ?_
    rotate_left
    · intro w'
      go_simp
      with_reducible rfl
    rotate_left
    · simp only [Act.put, List.setIfInBounds_toArray, List.set_cons_zero, List.set_cons_succ, i64_w, i32_w]
      rfl
    refine pure_ (i := 3) (N := some 33) (v := ?_) (a' := ?_) #[true, true, true, true, false, false, false, false, false, false, false, false, false, false] rfl rfl (by kernel_rfl) (fun _ _ _ h => h) (Or.inl ⟨by rfl, ?_⟩) ?_ ?_
    rotate_left
    · intro w'
      go_simp
      with_reducible rfl
    rotate_left
    · simp only [Act.put, List.setIfInBounds_toArray, List.set_cons_zero, List.set_cons_succ, i64_w, i32_w]
      rfl
    refine pure_ (i := 4) (N := some 34) (v := ?_) (a' := ?_) #[true, true, true, true, true, false, false, false, false, false, false, false, false, false] rfl rfl (by kernel_rfl) (fun _ _ _ h => h) (Or.inl ⟨by rfl, ?_⟩) ?_ ?_
    rotate_left
    · intro w'
      go_simp
      with_reducible rfl
    rotate_left
    · simp only [Act.put, List.setIfInBounds_toArray, List.set_cons_zero, List.set_cons_succ, i64_w, i32_w]
      rfl
    refine pure_ (i := 5) (N := some 35) (v := ?_) (a' := ?_) #[true, true, true, true, true, true, false, false, false, false, false, false, false, false] rfl rfl (by kernel_rfl) (fun _ _ _ h => h) (Or.inl ⟨by rfl, ?_⟩) ?_ ?_
    rotate_left
    · intro w'
      go_simp
      with_reducible rfl
    rotate_left
    · simp only [Act.put, List.setIfInBounds_toArray, List.set_cons_zero, List.set_cons_succ, i64_w, i32_w]
      rfl
    refine pure_ (i := 7) (N := some 37) (v := ?_) (a' := ?_) #[true, true, true, true, true, true, false, true, false, false, false, false, false, false] rfl rfl (by kernel_rfl) (fun _ _ _ h => h) (Or.inl ⟨by rfl, ?_⟩) ?_ ?_
    rotate_left
    · intro w'
      go_simp
      with_reducible rfl
    rotate_left
    · simp only [Act.put, List.setIfInBounds_toArray, List.set_cons_zero, List.set_cons_succ, i64_w, i32_w]
      rfl
    refine take_ (i := 6) (N := some 36) (v := ?_) (a' := ?_) #[true, true, true, true, true, true, true, true, false, false, false, false, false, false] rfl rfl (by kernel_rfl) (fun _ _ _ h => h) (Or.inl ⟨by rfl, ?_⟩) hHeld ?_ ?_
    rotate_left
    · intro w' s0
      go_simp
      with_reducible rfl
    rotate_left
    · simp only [Act.put, List.setIfInBounds_toArray, List.set_cons_zero, List.set_cons_succ, i64_w, i32_w]
      rfl
    refine one_ (i := 8) (N := some 38) #[true, true, true, true, true, true, true, true, true, false, false, false, false, false] rfl rfl (by kernel_rfl) (by decide) (fun K hK => ?_)
    refine goes_ Try.func111 (by kernel_rfl) rfl #[.pointer (some ⟨g, 0, none⟩)] (by rfl) rfl rfl (by simp only [List.map_toArray, List.map_cons, List.map_nil]; rfl) ?_
    with_reducible refine (spec_l1Bent.calls k g s0_0 p3 b0 b1 b2 p4 w0 _ (IsS112.drew HI3.out) (below_drew HB3.out) A4.out).mono ?_
    rintro e w4 ⟨rfl, hi, hb, hk⟩
    refine ⟨_, rfl, ?_⟩
    have HK4 := Aside0.mk (KeepBut.trans HK3.out (show KeepBut w3 w4 g none from hk) (.inl rfl))
    have HL4 := Aside0.mk (HLD.out w4 (show KeepBut w3 w4 g none from hk) (IsS112.lt hi))
    have HI4 := Aside0.mk hi
    have HB4 := Aside0.mk hb
    have hx4 := HL4.out.1
    clear hi hb hk
    refine hK.out _ _ (hx4) (fun hHeld => ?_)
    clear hK K
    refine norm_ (a' := ?_) ?_ ?_
    rotate_left
    · show Act.put _ (some 38) _ = _
      simp only [Act.put, List.setIfInBounds_toArray, List.set_cons_zero, List.set_cons_succ, i64_w, i32_w]
      rfl
    refine one_ (i := 9) (N := some 39) #[true, true, true, true, true, true, true, true, true, true, false, false, false, false] rfl rfl (by kernel_rfl) (by decide) (fun K hK => ?_)
    refine value_ (w1 := ?_) (v := ?_) (by rfl) rfl ?_ ?_
    rotate_left 2
    · go_simp
      constructor
      · rfl
      · rfl
    refine hK.out _ _ ((((below_alloc (Below.refl w4.heap.size w4) _).cell (World.block_lt_of_cell? w4 _ hx4)).trans hx4)) (fun hHeld => ?_)
    clear hK K
    refine norm_ (a' := ?_) ?_ ?_
    rotate_left
    · show Act.put _ (some 39) _ = _
      simp only [Act.put, List.setIfInBounds_toArray, List.set_cons_zero, List.set_cons_succ, i64_w, i32_w]
      rfl
    refine one_ (i := 10) (N := some 40) #[true, true, true, true, true, true, true, true, true, true, true, false, false, false] rfl rfl (by kernel_rfl) (by decide) (fun K hK => ?_)
    refine Kd.R_append_step k38 w.heap.size (by rfl) (.tmp 36) (.tmp 39) 28 38 (.agg #[(.int .i64 0), (.int .i64 0), (.string ⟨#[]⟩)]) 32 rfl Try.underlying28 info38 rfl (by decide) (by omega) ve body (⟨b0, b1, b2⟩ : S38) [.int .i64 b0, .int .i64 b1, .string b2] (fun k_ => oki k_ ∨ k_ ≠ g ∧ w4.heap.size ≤ k_) (fun _ => False) rfl rfl ?aP (fun _ hk => hk.elim) ?aF ?aO (Below.refl _ _) ?aS ?aL ?_
    (case aP => exact k38_mkM _ _ _ (⟨b0, b1, b2⟩ : S38))
    (case aF => exact fun k_ hk_ => .inr ⟨fun e_ => by have := IsS112.lt HI4.out; omega, hk_⟩)
    (case aO => exact HL4.out.2.1)
    (case aS => exact (keep_size (w := w) (g := g) (row := none) HK4.out))
    (case aL => have := HLB.out; omega)
    intro v5 w5 ho hb hg hat
    obtain ⟨l5, hl5⟩ : ∃ l5, l5 = body ++ [(⟨b0, b1, b2⟩ : S38)] := ⟨_, rfl⟩
    rw [← hl5] at ho
    have HLE := Aside0.mk hl5
    clear hl5
    obtain ⟨A5, c5, e5⟩ := Kd.R_slice ho
    subst e5
    have HI5 := Aside0.mk (IsS112.grown HI4.out hg (IsS112.own_ne HI4.out HL4.out.2.1 (by decide)))
    have HB5 := Aside0.mk (below_weaken HB4.out (below_size HB.out) hb)
    have HK5 := Aside0.mk (KeepBut.trans HK4.out (KeepBut.of_grown hg g) (Kd.R_base2 HL4.out.2.1))
    have HL5 := Aside0.mk (HL4.out.2.2 w5 (.slice A5 l5.length c5) l5 hg ho)
    have hx5 := HL5.out.1
    have hf5 := HL5.out.2.1
    clear ho hb hg hat
    refine hK.out _ _ (hx5) (fun hHeld => ?_)
    clear hK K
    refine norm_ (a' := ?_) ?_ ?_
    rotate_left
    · show Act.put _ (some 40) _ = _
      simp only [Act.put, List.setIfInBounds_toArray, List.set_cons_zero, List.set_cons_succ, i64_w, i32_w]
      rfl
    refine pure_ (i := 11) (N := some 41) (v := ?_) (a' := ?_) #[true, true, true, true, true, true, true, true, true, true, true, true, false, false] rfl rfl (by kernel_rfl) (fun _ _ _ h => h) (Or.inl ⟨by rfl, ?_⟩) ?_ ?_
    rotate_left
    · intro w'
      go_simp
      with_reducible rfl
    rotate_left
    · simp only [Act.put, List.setIfInBounds_toArray, List.set_cons_zero, List.set_cons_succ, i64_w, i32_w]
      rfl
    refine pure_ (i := 12) (N := some 42) (v := ?_) (a' := ?_) #[true, true, true, true, true, true, true, true, true, true, true, true, true, false] rfl rfl (by kernel_rfl) (fun _ _ _ h => h) (Or.inl ⟨by rfl, ?_⟩) ?_ ?_
    rotate_left
    · intro w'
      go_simp
      with_reducible rfl
    rotate_left
    · simp only [Act.put, List.setIfInBounds_toArray, List.set_cons_zero, List.set_cons_succ, i64_w, i32_w]
      rfl
    refine last_ (i := 13) (N := none) #[true, true, true, true, true, true, true, true, true, true, true, true, true, true] rfl rfl (by kernel_rfl) (by decide) (fun K hK => ?_)
    refine skip_ (w1 := ?_) (by rfl) rfl ?_ ?_
    rotate_left
    · go_simp
      rfl
    refine hK.out _ _ ?_
    clear hK K
    refine done_ (by kernel_rfl) ?_

    go_wp2
    go_ret
    refine ⟨_, rfl, ?_, IsS112.grown HI5.out HL5.out.2.2.2 (fun e_ => HGU.out.1 (by injection e_ with e_; exact e_.symm)), below_set HB5.out (Nat.le_trans (below_size HB.out) HGU.out.2), KeepBut.trans HK5.out (KeepBut.of_grown HL5.out.2.2.2 g) (.inr ⟨gu, rfl, HGU.out.2⟩)⟩
    have h9 := HL5.out.2.2.1
    have hr9 : u.set ix.toNat ⟨(rd_T30 u ix).f0, (rd_T30 u ix).f1, l5⟩ = r1 := by rw [HLE.out, ← HBD.out]; exact E1.out
    rw [hr9] at h9
    exact h9
  by_cases h3 : c = 3
  · subst h3
    rw [if_neg h0, if_neg h1, if_neg h2, if_pos rfl] at h
    simp only [Option.some.injEq, Prod.mk.injEq] at h
    obtain ⟨e1, rfl⟩ := h
    have E1 := Aside0.mk e1
    clear e1 h0 h1 h2
    go_enter Try.func62, Try.ntmps62
    go_wp2_with (first
    | (go_at_call 108; refine (spec_l2Unit.calls k g s0_0 s0_1 u p1 w0 w HI.out HB.out A1.out).mono ?_; rintro e w1 ⟨v1, rfl, ho, hi, hb, hk⟩; have HO1 := Aside0.mk ho; have HI1 := Aside0.mk hi; have HB1 := Aside0.mk hb; have HK1 := Aside0.mk hk; clear ho hi hb hk A1; obtain ⟨Au, cu, eu⟩ := Kd.R_slice HO1.out; subst eu)
    | (go_at_call 109; refine (spec_l13Rd_pick.calls k g s0_0 p1 (u.length : Int) ix p2 w0 w1 HI1.out HB1.out A2.out).mono ?_; rintro e w2 ⟨rfl, hi, hb, hk⟩; have HO2 := Aside0.mk (bent_step HI1.out HO1.out hk); have HI2 := Aside0.mk hi; have HB2 := Aside0.mk hb; have HK2 := Aside0.mk (KeepBut.trans HK1.out hk (.inl rfl)); clear hi hb hk A2 HO1 HI1 HB1 HK1)
    | (go_at_call 109; refine (spec_l13Rd_pick.calls k g s0_0 p2 40 3 p3 w0 w2 HI2.out HB2.out A3.out).mono ?_; rintro e w3 ⟨rfl, hi, hb, hk⟩; have HO3 := Aside0.mk (bent_step HI2.out HO2.out hk); have HI3 := Aside0.mk hi; have HB3 := Aside0.mk hb; have HK3 := Aside0.mk (KeepBut.trans HK2.out hk (.inl rfl)); clear hi hb hk A3 HO2 HI2 HB2 HK2; obtain ⟨gu, cap, eu, hbg, hgl, _⟩ := Kd.R_form HO3.out (by have := HC.out; omega); have eu1 : Au = some ⟨gu, 0, none⟩ := (by injection eu); clear eu hgl cap; subst eu1; have HGB := Aside0.mk hbg; clear hbg; obtain ⟨ve, hx0, hx1, hx2, hf0, hf1, hf2, hve, hput, hputv⟩ := bent_at HO3.out ix HC.out.1 HC.out.2.1; have HVE := Aside0.mk hve; have HPS := Aside0.mk hput; have HPV := Aside0.mk hputv; clear hve hput hputv)
    | ((with_reducible refine gate_builtin (b := .append) (xs := #[.tmp 45, .tmp 50]) rfl ?_); at_builtin; refine Kd.R_append k30 w.heap.size rfl (.tmp 45) (.tmp 50) 23 30 (.agg #[(.string ⟨#[]⟩), (.bool false), (.slice none 0 0)]) 48 rfl Try.underlying23 info30 rfl (by decide) (by omega) (.slice (some ⟨gu, 0, none⟩) u.length cu) u (rd_T30 u ix) [.string (rd_T30 u ix).f0, .bool (rd_T30 u ix).f1, ve] (fun _ => True) (fun k_ => ((fun _ => True)) k_ ∧ some k_ ≠ (.slice (some ⟨gu, 0, none⟩) u.length cu : Value).ownBlock) rfl rfl ?aP (fun _ hk => hk) ?aF ?aO (Below.refl _ _) ?aS ?aL ?_; (case aP => exact k30_mkM _ _ _ (rd_T30 u ix) (Kd.R_mono (Kd.R_apart' HVE.out (Kd.R_typed HO3.out) (by decide)) (fun k_ hk => ⟨trivial, hk.2⟩))); (case aF => exact (fun _ _ => trivial)); (case aO => exact HO3.out); (case aS => exact (keep_size (w := w) (g := g) (row := none) HK3.out)); (case aL => have := HC.out; omega); intro v4 w4 ho hb hg hat; rw [E1.out] at ho; have HI4 := Aside0.mk (IsS112.grown HI3.out hg (IsS112.own_ne HI3.out HO3.out (by decide))); have HB4 := Aside0.mk (below_weaken HB3.out (below_size HB.out) hb); have HK4 := Aside0.mk (KeepBut.trans HK3.out (KeepBut.of_grown hg g) (Kd.R_base2 HO3.out)); have HO4 := Aside0.mk ho; clear ho hb hg hat))
    go_ret
    exact ⟨_, rfl, HO4.out, HI4.out, HB4.out, HK4.out⟩
  · rw [if_neg h0, if_neg h1, if_neg h2, if_neg h3] at h
    simp only [Option.some.injEq, Prod.mk.injEq] at h
    obtain ⟨rfl, rfl⟩ := h
    have h0' : (c == 0) = false := beq_eq_false_iff_ne.mpr h0
    have h1' : (c == 1) = false := beq_eq_false_iff_ne.mpr h1
    have h2' : (c == 2) = false := beq_eq_false_iff_ne.mpr h2
    have h3' : (c == 3) = false := beq_eq_false_iff_ne.mpr h3
    clear h0 h1 h2 h3
    go_enter Try.func62, Try.ntmps62
    go_wp2_with (first
    | (go_at_call 108; refine (spec_l2Unit.calls k g s0_0 s0_1 u p1 w0 w HI.out HB.out A1.out).mono ?_; rintro e w1 ⟨v1, rfl, ho, hi, hb, hk⟩; have HO1 := Aside0.mk ho; have HI1 := Aside0.mk hi; have HB1 := Aside0.mk hb; have HK1 := Aside0.mk hk; clear ho hi hb hk A1; obtain ⟨Au, cu, eu⟩ := Kd.R_slice HO1.out; subst eu)
    | (go_at_call 109; refine (spec_l13Rd_pick.calls k g s0_0 p1 (u.length : Int) ix p2 w0 w1 HI1.out HB1.out A2.out).mono ?_; rintro e w2 ⟨rfl, hi, hb, hk⟩; have HO2 := Aside0.mk (bent_step HI1.out HO1.out hk); have HI2 := Aside0.mk hi; have HB2 := Aside0.mk hb; have HK2 := Aside0.mk (KeepBut.trans HK1.out hk (.inl rfl)); clear hi hb hk A2 HO1 HI1 HB1 HK1)
    | (go_at_call 109; refine (spec_l13Rd_pick.calls k g s0_0 p2 40 c p3 w0 w2 HI2.out HB2.out A3.out).mono ?_; rintro e w3 ⟨rfl, hi, hb, hk⟩; have HO3 := Aside0.mk (bent_step HI2.out HO2.out hk); have HI3 := Aside0.mk hi; have HB3 := Aside0.mk hb; have HK3 := Aside0.mk (KeepBut.trans HK2.out hk (.inl rfl)); clear hi hb hk A3 HO2 HI2 HB2 HK2))
    go_ret
    exact ⟨_, rfl, HO3.out, HI3.out, HB3.out, HK3.out⟩

end Go.Proofs.Ytpckkkcaffhhnaa.P

-- made by printx.py (own driver over the kit's print); Lean checks it
namespace Go.Proofs.Ytpckkkcaffhhnaa.P
open Go.RowKit Go.Proofs.YtpckkkcaffhhnaaW.PrintWords Go.Proofs.YtpckkkcaffhhnaaW.PrintLast Go.Proofs.YtpckkkcaffhhnaaW.PrintMore
attribute [local go_sem] max2_int min2_int max_two min_two max_three min_three max_four min_four   -- for this text's walks alone
set_option linter.unusedVariables false
set_option linter.unusedSimpArgs false

/-! ### spec_l2Has: function 117 -/
def spec_l2Has.l0 : Nat → List ByteArray → ByteArray → Int → Option (Bool)
  | 0, _, _, _ => none
  | k + 1, x0, x1, x5 => if x5 < (x0.length : Int) then (if 0 ≤ x5 then (if (rdOf ByteArray.empty x0 x5).toList = x1.toList then (some true) else (spec_l2Has.l0 k x0 x1 (wrap64 (x5 + 1)))) else (none)) else (some false)
def spec_l2Has.f (k : Nat) (l0 : List ByteArray) (a1 : ByteArray) : Option (Bool) := spec_l2Has.l0 k l0 a1 0
set_option maxHeartbeats 8000000 in
set_option maxRecDepth 100000 in
theorem spec_l2Has.calls (k : Nat) (A0 : Option Addr) (c0 : Nat) (l0 : List ByteArray) (a1 : ByteArray) (r : Bool) (w : World) (hr0 : Kd.C Kd.string w A0 l0.length l0) (hc0 : l0.length ≤ c0) (h : spec_l2Has.f k l0 a1 = some r) :
    Calls Try.prog 117 #[.slice A0 l0.length c0, .string a1] w fun e w' => e = .returned (.bool r) ∧ Drawn0 w w' := by
  have HR0 := Aside0.mk hr0
  have HC0 := Aside0.mk hc0
  clear hr0 hc0
  have H : (spec_l2Has.l0 k l0 a1 0) = some r := h
  clear h
  have H' := Aside0.mk H
  clear H
  go_enter Try.func117, Try.ntmps117
  go_wp2
  go_loopg [5] k (fun kq v5 w' => ∃ (x5_1 : Int), v5 = .int .i64 x5_1 ∧ Aside0 (spec_l2Has.l0 kq l0 a1 x5_1 = some r) ∧ Aside0 (kq ≤ k) ∧ Drawn0 w w')
  case atStart => exact ⟨(0), (by first | rfl | (simp; done) | (simp [*]; done)), H', ⟨Nat.le_refl _⟩, by repeat (first | exact Drawn0.refl _ | apply Drawn0.step)⟩
  case round =>
    clear H'
    try clear c1
    try clear p2
    obtain ⟨x5_1, rfl, HA, HK1, ⟨m1, rfl⟩⟩ := hrel
    cases gk with
    | zero => exact absurd HA.out (by simp [spec_l2Has.l0])
    | succ k1 =>
      have H := HA.out
      clear HA
      simp only [spec_l2Has.l0] at H
      by_cases c3 : x5_1 < (l0.length : Int)
      · rw [if_pos c3] at H
        have c3b0 : decide (x5_1 < (l0.length : Int)) = true := decide_eq_true c3
        clear c3
        by_cases c4 : 0 ≤ x5_1
        · rw [if_pos c4] at H
          have c4b0 : decide (0 ≤ x5_1) = true := decide_eq_true c4
          clear c4
          by_cases c5 : (rdOf ByteArray.empty l0 x5_1).toList = a1.toList
          · rw [if_pos c5] at H
            have c5b0 : ((rdOf ByteArray.empty l0 x5_1).toList == a1.toList) = true := beq_iff_eq.mpr c5
            have c5b1 : ((rdOf ByteArray.empty l0 x5_1).toList != a1.toList) = false := bne_eq_false_iff_eq.mpr c5
            clear c5
            obtain rfl := Option.some.inj H
            have p302 : 0 ≤ (x5_1 : Int) := of_decide_eq_true (by first | (with_reducible assumption) | assumption)
            have q302 : x5_1 < (l0.length : Int) := of_decide_eq_true (by first | (with_reducible assumption) | assumption)
            obtain ⟨ad302, e302, hx302_0⟩ := Kd.at_string HR0.out x5_1 p302 q302
            cases e302
            replace p302 := eq_true p302
            replace q302 := eq_true q302
            go_wp2
            go_ret
            exact ⟨by first | rfl | (simp; done) | (simp [*]; done), by repeat (first | exact Drawn0.refl _ | apply Drawn0.step)⟩
          · rw [if_neg c5] at H
            have c5b0 : ((rdOf ByteArray.empty l0 x5_1).toList == a1.toList) = false := beq_eq_false_iff_ne.mpr c5
            have c5b1 : ((rdOf ByteArray.empty l0 x5_1).toList != a1.toList) = true := bne_iff_ne.mpr c5
            have H' := Aside0.mk H
            clear H
            have p302 : 0 ≤ (x5_1 : Int) := of_decide_eq_true (by first | (with_reducible assumption) | assumption)
            have q302 : x5_1 < (l0.length : Int) := of_decide_eq_true (by first | (with_reducible assumption) | assumption)
            obtain ⟨ad302, e302, hx302_0⟩ := Kd.at_string HR0.out x5_1 p302 q302
            cases e302
            replace p302 := eq_true p302
            replace q302 := eq_true q302
            go_wp2
            go_roundg k1
            case measure => have := HK1.out; omega
            case rel => exact ⟨(wrap64 (x5_1 + 1)), (by first | rfl | (simp; done) | (simp [*]; done)), H', ⟨by have := HK1.out; omega⟩, by repeat (first | exact Drawn0.refl _ | apply Drawn0.step)⟩
        · rw [if_neg c4] at H
          exact absurd H (by simp)
      · rw [if_neg c3] at H
        have c3b0 : decide (x5_1 < (l0.length : Int)) = false := decide_eq_false c3
        clear c3
        obtain rfl := Option.some.inj H
        go_wp2
        go_ret
        exact ⟨by first | rfl | (simp; done) | (simp [*]; done), by repeat (first | exact Drawn0.refl _ | apply Drawn0.step)⟩

end Go.Proofs.Ytpckkkcaffhhnaa.P
