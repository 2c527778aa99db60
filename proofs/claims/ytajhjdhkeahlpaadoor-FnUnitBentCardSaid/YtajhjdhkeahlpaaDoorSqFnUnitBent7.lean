-- LBase, LSeq, PxUnitS, Pxspecl2Bent, PxspecDrawUnitOk, PximplInsOk, PxslicesIndexFuncsimplInsimplIns, PxslicesContainsFuncsimplInsimplIns, PxlawsszIns, PxspecDrawInsOk, PxspecInsRefs, LOk: put together by squash.py
import Derived.Test.YtajhjdhkeahlpaaDoorSqFnUnitBent3
import Derived.Test.YtajhjdhkeahlpaaDoorSqFnUnitBent6
import Derived.Test.YtajhjdhkeahlpaaDoorSqFnUnitBent4
import Derived.Test.YtajhjdhkeahlpaaDoorSqFnUnitBent5

/- Small facts on the print's words: wrapping, rounds, bits. -/
namespace Go.Proofs.YtajhjdhkeahlpaaDoor.L
open Go.RowKit Go.Proofs.YtajhjdhkeahlpaaDoorW.PrintWords Go.Proofs.YtajhjdhkeahlpaaDoorW.PrintLast Go.Proofs.YtajhjdhkeahlpaaDoorW.PrintMore Go.Proofs.YtajhjdhkeahlpaaDoor.P

set_option linter.unusedVariables false
set_option linter.unusedSimpArgs false

theorem wrap_id {n : Int} (h0 : -9223372036854775808 ≤ n) (h1 : n ≤ 9223372036854775807) : wrap64 n = n := by unfold wrap64; omega

theorem succ_of {k d : Nat} (h : d < k) : ∃ m, k = m + 1 ∧ d ≤ m := ⟨k - 1, by omega, by omega⟩

/-- xor of two numbers from 0 to 2^63 - 1 is such a number. -/
theorem xor_nonneg (a b : Int) (ha : 0 ≤ a) (ha' : a < 9223372036854775808) (hb : 0 ≤ b) (hb' : b < 9223372036854775808) :
    0 ≤ Go.bits .xor .i64 a b ∧ Go.bits .xor .i64 a b < 9223372036854775808 := by
  obtain ⟨x, rfl⟩ := Int.eq_ofNat_of_zero_le ha
  obtain ⟨y, rfl⟩ := Int.eq_ofNat_of_zero_le hb
  have hx : x < 2 ^ 63 := by have : (2 : Nat) ^ 63 = 9223372036854775808 := by decide
                             omega
  have hy : y < 2 ^ 63 := by have : (2 : Nat) ^ 63 = 9223372036854775808 := by decide
                             omega
  have hxy : x ^^^ y < 2 ^ 63 := Nat.xor_lt_two_pow hx hy
  have e1 : x % 2 ^ 64 = x := Nat.mod_eq_of_lt (by have : (2 : Nat) ^ 63 ≤ 2 ^ 64 := Nat.pow_le_pow_right (by decide) (by decide); omega)
  have e2 : y % 2 ^ 64 = y := Nat.mod_eq_of_lt (by have : (2 : Nat) ^ 63 ≤ 2 ^ 64 := Nat.pow_le_pow_right (by decide) (by decide); omega)
  have e : Go.bits .xor .i64 (x : Int) (y : Int) = ((x ^^^ y : Nat) : Int) := by
    have z : Go.bits .xor .i64 (x : Int) (y : Int) = IntKind.i64.wrap ((x ^^^ y : Nat) : Int) := by
      show IntKind.i64.wrap (((BitVec.ofInt 64 (x : Int) ^^^ BitVec.ofInt 64 (y : Int)).toNat : Nat) : Int) = _
      rw [BitVec.toNat_xor, BitVec.ofInt_natCast, BitVec.ofInt_natCast, BitVec.toNat_ofNat, BitVec.toNat_ofNat, e1, e2]
    rw [z, IntKind.wrap_i64]
    have : (2 : Nat) ^ 63 = 9223372036854775808 := by decide
    omega
  rw [e]
  have : (2 : Nat) ^ 63 = 9223372036854775808 := by decide
  omega

theorem tmod_small {a n : Int} (ha : 0 ≤ a) (hn : 1 ≤ n) : 0 ≤ Int.tmod a n ∧ Int.tmod a n < n :=
  ⟨Int.tmod_nonneg n ha, Int.tmod_lt_of_pos a (by omega)⟩

theorem tdiv_small {a n : Int} (ha : 0 ≤ a) (hn : 1 ≤ n) : 0 ≤ Int.tdiv a n ∧ Int.tdiv a n ≤ a := by
  rw [Int.tdiv_eq_ediv_of_nonneg ha]
  exact ⟨Int.ediv_nonneg ha (by omega), Int.ediv_le_self n ha⟩

theorem byte_lo {x : Int} (h : (Lit.int .u8 x).wf = true) : 0 ≤ x ∧ x ≤ 255 := by
  have h2 := h
  simp only [Lit.wf, IntKind.min, IntKind.max, IntKind.signed, IntKind.bits, Bool.and_eq_true, decide_eq_true_eq] at h2
  simp at h2
  omega
theorem rd_byte {l : List Int} (h : ∀ x ∈ l, (Lit.int .u8 x).wf = true) (i : Int) : 0 ≤ rd l i ∧ rd l i ≤ 255 := by
  unfold rd
  rw [List.getD_eq_getElem?_getD]
  by_cases hi : i.toNat < l.length
  · rw [List.getElem?_eq_getElem hi]
    exact byte_lo (h _ (List.getElem_mem hi))
  · rw [List.getElem?_eq_none (by omega)]
    decide
end Go.Proofs.YtajhjdhkeahlpaaDoor.L

/- Plain lists: the first place of which something holds; two lists alike, place by place. -/
namespace Go.Proofs.YtajhjdhkeahlpaaDoor.L
open Go.RowKit Go.Proofs.YtajhjdhkeahlpaaDoorW.PrintWords Go.Proofs.YtajhjdhkeahlpaaDoorW.PrintLast Go.Proofs.YtajhjdhkeahlpaaDoorW.PrintMore Go.Proofs.YtajhjdhkeahlpaaDoor.P
set_option linter.unusedVariables false
set_option linter.unusedSimpArgs false

/-- The place of the first element of which p holds, -1 if there is none. -/
def idxFrom {α : Type} (p : α → Bool) : List α → Int → Int
  | [], _ => -1
  | x :: l, i => if p x = true then i else idxFrom p l (i + 1)
theorem idxFrom_hit {α : Type} (p : α → Bool) (d : α) : ∀ (l : List α) (j : Int) (n : Nat), n < l.length → (∀ i, i < n → p (l.getD i d) = false) → p (l.getD n d) = true → idxFrom p l j = j + n
  | [], _, n, h, _, _ => absurd h (by simp)
  | x :: l, j, 0, _, _, hp => by
    have : p x = true := hp
    simp [idxFrom, this]
  | x :: l, j, n + 1, h, ha, hp => by
    have h0 : p x = false := ha 0 (by omega)
    have ih := idxFrom_hit p d l (j + 1) n (by simpa using h) (fun i hi => ha (i + 1) (by omega)) hp
    simp only [idxFrom, h0, Bool.false_eq_true, if_false, ih]
    omega
theorem idxFrom_miss {α : Type} (p : α → Bool) (d : α) : ∀ (l : List α) (j : Int), (∀ i, i < l.length → p (l.getD i d) = false) → idxFrom p l j = -1
  | [], _, _ => rfl
  | x :: l, j, ha => by
    have h0 : p x = false := ha 0 (by simp)
    have ih := idxFrom_miss p d l (j + 1) (fun i hi => ha (i + 1) (by simpa using hi))
    simp only [idxFrom, h0, Bool.false_eq_true, if_false, ih]
theorem idxFrom_any {α : Type} (p : α → Bool) : ∀ (l : List α) (j : Int), 0 ≤ j → decide (0 ≤ idxFrom p l j) = l.any p
  | [], _, _ => by simp [idxFrom]
  | x :: l, j, h => by
    have ih := idxFrom_any p l (j + 1) (by omega)
    by_cases hx : p x = true
    · simp [idxFrom, hx, h]
    · simp only [idxFrom, List.any_cons, if_neg hx, Bool.eq_false_iff.mpr hx, Bool.false_or]
      exact ih
theorem getD_mem {α : Type} {l : List α} {d : α} {i : Nat} (h : i < l.length) : l.getD i d ∈ l := by
  rw [List.getD_eq_getElem?_getD, List.getElem?_eq_getElem h]
  exact List.getElem_mem _

theorem drop_getD {α : Type} (l : List α) (d : α) (i : Nat) (h : i < l.length) : l.drop i = l.getD i d :: l.drop (i + 1) := by
  rw [List.drop_eq_getElem_cons h, List.getD_eq_getElem?_getD, List.getElem?_eq_getElem h]
  rfl

/-- A loop that looks for the first element of which p holds. -/
theorem loop_idx {α : Type} (p : α → Bool) (d : α) (l : List α) (hn : l.length ≤ 9223372036854775807) (L : Nat → Int → Option Int) (K : Nat)
    (hT : ∀ (k i : Nat), K ≤ k → i < l.length → p (l.getD i d) = true → L (k + 1) (i : Int) = some (i : Int))
    (hF : ∀ (k i : Nat), K ≤ k → i < l.length → p (l.getD i d) = false → L (k + 1) (i : Int) = L k (wrap64 ((i : Int) + 1)))
    (hE : ∀ k, K ≤ k → L (k + 1) (l.length : Int) = some (-1)) (k : Nat) (hk : K + l.length < k) : L k 0 = some (idxFrom p l 0) := by
  have key : ∀ (n k i : Nat), i + n = l.length → K + n < k → (∀ j, j < i → p (l.getD j d) = false) → L k (i : Int) = some (idxFrom p l 0) := by
    intro n
    induction n with
    | zero =>
      intro k i hi hk ha
      obtain ⟨k, rfl, _⟩ := succ_of hk
      have : i = l.length := by omega
      subst this
      rw [hE k (by omega), idxFrom_miss p d l 0 ha]
    | succ n ih =>
      intro k i hi hk ha
      obtain ⟨k, rfl, _⟩ := succ_of hk
      cases hq : p (l.getD i d) with
      | true =>
        rw [hT k i (by omega) (by omega) hq, idxFrom_hit p d l 0 i (by omega) ha hq]
        simp
      | false =>
        rw [hF k i (by omega) (by omega) hq, wrap_id (by omega) (by omega)]
        have h2 := ih k (i + 1) (by omega) (by omega) (fun j hj => by
          by_cases e : j = i
          · subst e; exact hq
          · exact ha j (by omega))
        rw [← h2]
        rfl
  exact key l.length k 0 (by omega) hk (fun j hj => absurd hj (by omega))
/-- A loop that asks the same of each element, and ends with e. -/
def allFrom {α : Type} (p : Nat → α → Bool) : List α → Nat → Bool
  | [], _ => true
  | x :: l, i => p i x && allFrom p l (i + 1)
theorem loop_all {α : Type} (p : Nat → α → Bool) (d : α) (l : List α) (e : Bool) (hn : l.length ≤ 9223372036854775807) (L : Nat → Int → Option Bool) (K : Nat)
    (hT : ∀ (k i : Nat), K ≤ k → i < l.length → p i (l.getD i d) = true → L (k + 1) (i : Int) = L k (wrap64 ((i : Int) + 1)))
    (hF : ∀ (k i : Nat), K ≤ k → i < l.length → p i (l.getD i d) = false → L (k + 1) (i : Int) = some false)
    (hE : ∀ k, K ≤ k → L (k + 1) (l.length : Int) = some e) (k : Nat) (hk : K + l.length < k) : L k 0 = some (allFrom p l 0 && e) := by
  have key : ∀ (n k i : Nat), i + n = l.length → K + n < k → L k (i : Int) = some (allFrom p (l.drop i) i && e) := by
    intro n
    induction n with
    | zero =>
      intro k i hi hk
      obtain ⟨k, rfl, _⟩ := succ_of hk
      have : i = l.length := by omega
      subst this
      rw [hE k (by omega), List.drop_length]
      rfl
    | succ n ih =>
      intro k i hi hk
      obtain ⟨k, rfl, _⟩ := succ_of hk
      rw [drop_getD l d i (by omega)]
      simp only [allFrom]
      cases hq : p i (l.getD i d) with
      | false => rw [hF k i (by omega) (by omega) hq]; rfl
      | true =>
        rw [hT k i (by omega) (by omega) hq, wrap_id (by omega) (by omega), Bool.true_and, ← ih k (i + 1) (by omega) (by omega)]
        rfl
  have h := key l.length k 0 (by omega) hk
  simpa using h
theorem allFrom_all {α : Type} (p : α → Bool) : ∀ (l : List α) (i : Nat), allFrom (fun _ x => p x) l i = l.all p
  | [], _ => rfl
  | x :: l, i => by simp only [allFrom, List.all_cons, allFrom_all p l (i + 1)]
theorem all_not_any {α : Type} (p : α → Bool) (l : List α) : (l.all p) = !(l.any fun x => !p x) := by
  induction l with
  | nil => rfl
  | cons x l ih => simp [ih, Bool.not_or]
end Go.Proofs.YtajhjdhkeahlpaaDoor.L

-- made by printx.py (own driver over the kit's print); Lean checks it
namespace Go.Proofs.YtajhjdhkeahlpaaDoor.P
open Go.RowKit Go.Proofs.YtajhjdhkeahlpaaDoorW.PrintWords Go.Proofs.YtajhjdhkeahlpaaDoorW.PrintLast Go.Proofs.YtajhjdhkeahlpaaDoorW.PrintMore
attribute [local go_sem] max2_int min2_int max_two min_two max_three min_three max_four min_four   -- for this text's walks alone
set_option linter.unusedVariables false
set_option linter.unusedSimpArgs false

theorem IsS87.apartS {w0 W : World} {g : Nat} {f0 : List Int} {f1 : Int} {α : Type} {d : Kd α} {e : Nat} {base : Nat} {ok : Nat → Prop} {v : Value} {xs : List α} (h : IsS87 w0 W g f0 f1) (ho : d.S e W base ok v xs) (ht : ∀ q, q ∈ e :: d.E → q ≠ 87) : d.S e W base (fun k => ok k ∧ k ≠ g) v xs := by
  obtain ⟨A0, c0, hb, hg, hr0⟩ := h
  exact Kd.S_types ho hb ht
theorem IsS87.own_neS {w0 W : World} {g : Nat} {f0 : List Int} {f1 : Int} {α : Type} {d : Kd α} {e : Nat} {base : Nat} {ok : Nat → Prop} {v : Value} {xs : List α} (h : IsS87 w0 W g f0 f1) (ho : d.S e W base ok v xs) (ht : e ≠ 87) : some g ≠ v.ownBlock := by
  obtain ⟨A0, c0, hb, hg, hr0⟩ := h
  exact Kd.S_ne ho hb ht
set_option maxHeartbeats 8000000 in
set_option maxRecDepth 100000 in
theorem spec_l2Unit.callsS (k : Nat) (g : Nat) (s0_0 : List Int) (s0_1 : Int) (r1 : List (S41)) (r2 : Int) (w0 w : World) (hI : IsS87 w0 w g s0_0 s0_1) (hB : Below w0.heap.size w0 w) (h : spec_l2Unit.f k s0_0 s0_1 = some (r1, r2)) :
    Calls Tryd.prog 64 #[.pointer (some ⟨g, 0, none⟩)] w fun e w' => ∃ v0_ : Value, e = .returned (v0_) ∧ Kd.S k41 41 w' w.heap.size (fun _ => True) v0_ r1 ∧ IsS87 w0 w' g s0_0 r2 ∧ Below w0.heap.size w0 w' ∧ KeepBut w w' g none := by
 have HI0 := Aside0.mk hI
 have HK := Aside0.mk (KeepBut.refl w g none)
 have HL := Aside0.mk hB.size
 clear hI
 have HW0 := Aside0.mk hB.size
 have HB := Aside0.mk hB; clear hB
 have H : ((spec_l13Rd_pick.f k s0_0 s0_1 3).bind fun bt293 => (spec_l2Unit.l0 k (([] : List (S41))) (wrap64 (1 + bt293.1)) s0_0 bt293.2)) = some (r1, r2) := h
 clear h
 obtain ⟨y290, hy290⟩ : ∃ y_ : List (S41), y_ = (([] : List (S41))) := ⟨_, rfl⟩
 replace H : ((spec_l13Rd_pick.f k s0_0 s0_1 3).bind fun bt293 => (spec_l2Unit.l0 k y290 (wrap64 (1 + bt293.1)) s0_0 bt293.2)) = some (r1, r2) := by first | (rw [hy290]; with_reducible exact H) | (have H2_ := (Option.bind_some _ _).symm.trans H; rw [hy290]; with_reducible exact H2_) | (have H2_ := (Option.bind_some _ _).symm.trans H; with_reducible exact H2_) | with_reducible exact H | (rw [hy290]; exact H) | exact H
 have Ny290 := Aside0.mk hy290; clear hy290
 replace H := Option.bind_eq_some_iff.mp H
 obtain ⟨⟨t293, t294⟩, A20, H⟩ := H
 replace H : (spec_l2Unit.l0 k y290 (wrap64 (1 + t293)) s0_0 t294) = some (r1, r2) := H
 have A2 := Aside0.mk A20; clear A20
 have H' := Aside0.mk H
 clear H
 go_enter Tryd.func64, Tryd.ntmps64
 go_wp2_with (first | ((with_reducible refine gate_dst (N := 6) rfl ?_); refine Kd.S_lit k41 _ 41 ?hg (N := 6) ?hd (xs := ([] : List (S41))) (inner := []) (ok := fun _ => True) (okp := fun _ => True) ?hr ?hp (fun _ hk => hk) trivial (Below.refl _ _) (Nat.le_refl _) (by simp) ?_; (case hd => rfl); (case hg => rfl); (case hr => first | (go_simp; done) | (go_simp; rfl)); (case hp => exact (Reps.none _ _)); intro v291 w3 ho4 hb hg_ hnew_; clear hg_ hnew_; (first | rw [← Ny290.out] at ho4 | (simp only [Int.reduceToNat] at ho4; rw [← Ny290.out] at ho4)); have n0_ := Aside0.mk (Kd.S_lower ho4 (keep_size (w := w) (g := g) (row := none) (by repeat (first | (with_reducible first | exact HK.out | apply KeepBut.set_ | apply keep_drewN | apply keep_drew | apply keep_alloc) | exact HK.out)))); have n1_ := Aside0.mk (IsS87.below (by repeat (first | (with_reducible first | exact HI0.out | apply IsS87.alloc | apply IsS87.drewN | apply IsS87.drew | apply IsS87.set_1) | exact HI0.out)) hb); have n2_ := Aside0.mk (KeepBut.trans (by repeat (first | (with_reducible first | exact HK.out | apply KeepBut.set_ | apply keep_drewN | apply keep_drew | apply keep_alloc) | exact HK.out)) (KeepBut.of_below hb g none) (.inl rfl)); have n3_ := Aside0.mk (below_step (by repeat (first | (with_reducible first | exact HB.out | apply below_alloc | apply pw_below_drewN | apply below_drew1 | refine below_set ?_ (IsS87.ge HI0.out)) | exact HB.out)) hb); clear HI0 HK HB; have HO292 := n0_; have HI0 := n1_; have HK := n2_; have HB := n3_; clear n0_ n1_ n2_ n3_ hb ho4) | ((with_reducible refine gate_callee (f := 60) rfl ?_); refine goesL_ (some 8) rfl rfl Tryd.func60 (by kernel_rfl) rfl #[.pointer (some ⟨g, 0, none⟩), .int .i64 3] rfl (by (try simp only [List.map_toArray, List.map_cons, List.map_nil]); first | done | rfl | (simp only [List.length_drop, List.length_take]; rfl)) ?_; (with_reducible refine (spec_l13Rd_pick.calls k g s0_0 s0_1 3 t293 t294 w0 _ ?side1 ?side2 A2.out).mono ?_); (case side1 => repeat (first | (with_reducible first | exact HI0.out | apply IsS87.alloc | apply IsS87.drewN | apply IsS87.drew | apply IsS87.set_1) | exact HI0.out)); (case side2 => repeat (first | (with_reducible first | exact HB.out | apply below_alloc | apply pw_below_drewN | apply below_drew1 | refine below_set ?_ (IsS87.ge HI0.out)) | exact HB.out)); rintro e w5 ⟨rfl, hi, hb, hk⟩; refine ⟨_, rfl, ?_⟩; have n0_ := Aside0.mk (Kd.S_mono (Kd.S_keep (IsS87.apartS (show IsS87 w0 _ g s0_0 s0_1 from by repeat (first | (with_reducible first | exact HI0.out | apply IsS87.alloc | apply IsS87.drewN | apply IsS87.drew | apply IsS87.set_1) | exact HI0.out)) (by (with_reducible repeat (first | apply Kd.S_alloc | apply Kd.S_drewN | apply Kd.S_drew)); exact HO292.out) (by decide)) hk (fun _ h => h.2)) (fun _ h => h.1)); have n1_ := Aside0.mk (KeepBut.trans (by repeat (first | (with_reducible first | exact HK.out | apply KeepBut.set_ | apply keep_drewN | apply keep_drew | apply keep_alloc) | exact HK.out)) hk (.inl rfl)); have n2_ := Aside0.mk (hb); have n3_ := Aside0.mk (hi); clear HO292 HK HB HI0; have HO292 := n0_; have HK := n1_; have HB := n2_; have HI0 := n3_; clear n0_ n1_ n2_ n3_; (try clear hb); (try clear hb2); (try clear hk); (try clear hi)))
 go_loopg [3, 4] k (fun kq v3 v4 w' => ∃ (x3_1 : List (S41)) (x4_1 : Int) (x1001_1 : Int), v4 = .int .i64 x4_1 ∧ Aside0 (spec_l2Unit.l0 kq x3_1 x4_1 s0_0 x1001_1 = some (r1, r2)) ∧ Aside0 (kq ≤ k) ∧ Aside0 (Kd.S k41 41 w' w.heap.size (fun _ => True) v3 x3_1) ∧ Aside0 (IsS87 w0 w' g s0_0 x1001_1) ∧ Aside0 (KeepBut w w' g none) ∧ Aside0 (Below w0.heap.size w0 w'))
 case atStart => exact ⟨(y290), (wrap64 (1 + t293)), (t294), (by first | rfl | (simp; done) | (simp [*]; done)), H', ⟨Nat.le_refl _⟩, ⟨by (with_reducible repeat (first | apply Kd.S_alloc | apply Kd.S_drewN | apply Kd.S_drew)); exact HO292.out⟩, ⟨by repeat (first | (with_reducible first | exact HI0.out | apply IsS87.alloc | apply IsS87.drewN | apply IsS87.drew | apply IsS87.set_1) | exact HI0.out)⟩, ⟨by repeat (first | (with_reducible first | exact HK.out | apply KeepBut.set_ | apply keep_drewN | apply keep_drew | apply keep_alloc) | exact HK.out)⟩, ⟨by repeat (first | (with_reducible first | exact HB.out | apply below_alloc | apply pw_below_drewN | apply below_drew1 | refine below_set ?_ (IsS87.ge HI0.out)) | exact HB.out)⟩⟩
 clear H'
 try clear p2
 obtain ⟨x3_1, x4_1, x1001_1, rfl, HA, HK1, HO_3, HI0, HK, HB⟩ := hrel
 obtain _ | k1 := gk
 · exact absurd HA.out (by simp [spec_l2Unit.l0])
 have H := HA.out
 clear HA
 simp only [spec_l2Unit.l0] at H
 by_cases c6 : x4_1 > 0
 · rw [if_pos c6] at H
   have c6b0 : decide (0 < x4_1) = true := decide_eq_true c6
   clear c6
   replace H := Option.bind_eq_some_iff.mp H
   obtain ⟨⟨t295, t296⟩, A70, H⟩ := H
   replace H : ((spec_l2Find.f k1 x3_1 t295).bind fun t297 => (if t297 < 0 then ((spec_l2Fun.f k1 s0_0 t296 t295).bind fun bt298 => (if x3_1.length < 2932031007402 then (spec_l2Unit.l0 k1 (x3_1 ++ [(⟨bt298.1, bt298.2.1, bt298.2.2.1⟩ : S41)]) (wrap64 (x4_1 - 1)) s0_0 bt298.2.2.2) else (none))) else (spec_l2Unit.l0 k1 x3_1 (wrap64 (x4_1 - 1)) s0_0 t296))) = some (r1, r2) := H
   have A7 := Aside0.mk A70; clear A70
   replace H := Option.bind_eq_some_iff.mp H
   obtain ⟨t297, A80, H⟩ := H
   replace H : (if t297 < 0 then ((spec_l2Fun.f k1 s0_0 t296 t295).bind fun bt298 => (if x3_1.length < 2932031007402 then (spec_l2Unit.l0 k1 (x3_1 ++ [(⟨bt298.1, bt298.2.1, bt298.2.2.1⟩ : S41)]) (wrap64 (x4_1 - 1)) s0_0 bt298.2.2.2) else (none))) else (spec_l2Unit.l0 k1 x3_1 (wrap64 (x4_1 - 1)) s0_0 t296)) = some (r1, r2) := H
   have A8 := Aside0.mk A80; clear A80
   by_cases c9 : t297 < 0
   · rw [if_pos c9] at H
     have c9b0 : decide (t297 < 0) = true := decide_eq_true c9
     clear c9
     replace H := Option.bind_eq_some_iff.mp H
     obtain ⟨⟨t298, t299, t300, t303⟩, A100, H⟩ := H
     replace H : (if x3_1.length < 2932031007402 then (spec_l2Unit.l0 k1 (x3_1 ++ [(⟨t298, t299, t300⟩ : S41)]) (wrap64 (x4_1 - 1)) s0_0 t303) else (none)) = some (r1, r2) := H
     have A10 := Aside0.mk A100; clear A100
     by_cases c11 : x3_1.length < 2932031007402
     · rw [if_pos c11] at H; have LMc11 := Aside0.mk c11; clear c11
       obtain ⟨y304, hy304⟩ : ∃ y_ : List (S41), y_ = (x3_1 ++ [(⟨t298, t299, t300⟩ : S41)]) := ⟨_, rfl⟩
       replace H : (spec_l2Unit.l0 k1 y304 (wrap64 (x4_1 - 1)) s0_0 t303) = some (r1, r2) := by first | (rw [hy304]; with_reducible exact H) | (have H2_ := (Option.bind_some _ _).symm.trans H; rw [hy304]; with_reducible exact H2_) | (have H2_ := (Option.bind_some _ _).symm.trans H; with_reducible exact H2_) | with_reducible exact H | (rw [hy304]; exact H) | exact H
       have Ny304 := Aside0.mk hy304; clear hy304
       have H' := Aside0.mk H
       clear H
       go_wp2_with (first | ((with_reducible refine gate_callee (f := 76) rfl ?_); refine goesL_ (some 15) rfl rfl Tryd.func76 (by kernel_rfl) rfl #[.pointer (some ⟨g, 0, none⟩)] rfl (by (try simp only [List.map_toArray, List.map_cons, List.map_nil]); first | done | rfl | (simp only [List.length_drop, List.length_take]; rfl)) ?_; (with_reducible refine (spec_l1Name.calls k1 g s0_0 x1001_1 t295 t296 w0 _ ?side1 ?side2 A7.out).mono ?_); (case side1 => repeat (first | (with_reducible first | exact HI0.out | apply IsS87.alloc | apply IsS87.drewN | apply IsS87.drew | apply IsS87.set_1) | exact HI0.out)); (case side2 => repeat (first | (with_reducible first | exact HB.out | apply below_alloc | apply pw_below_drewN | apply below_drew1 | refine below_set ?_ (IsS87.ge HI0.out)) | exact HB.out)); rintro e w12 ⟨rfl, hi, hb, hk⟩; refine ⟨_, rfl, ?_⟩; have n0_ := Aside0.mk (Kd.S_mono (Kd.S_keep (IsS87.apartS (show IsS87 w0 _ g s0_0 x1001_1 from by repeat (first | (with_reducible first | exact HI0.out | apply IsS87.alloc | apply IsS87.drewN | apply IsS87.drew | apply IsS87.set_1) | exact HI0.out)) (by (with_reducible repeat (first | apply Kd.S_alloc | apply Kd.S_drewN | apply Kd.S_drew)); exact HO_3.out) (by decide)) hk (fun _ h => h.2)) (fun _ h => h.1)); have n1_ := Aside0.mk (KeepBut.trans (by repeat (first | (with_reducible first | exact HK.out | apply KeepBut.set_ | apply keep_drewN | apply keep_drew | apply keep_alloc) | exact HK.out)) hk (.inl rfl)); have n2_ := Aside0.mk (hb); have n3_ := Aside0.mk (hi); clear HO_3 HK HB HI0; have HO_3 := n0_; have HK := n1_; have HB := n2_; have HI0 := n3_; clear n0_ n1_ n2_ n3_; (try clear hb); (try clear hb2); (try clear hk); (try clear hi); obtain ⟨Ao13, co13, eo13⟩ := Kd.S_slice HO_3.out; subst eo13) | ((with_reducible refine gate_callee (f := 49) rfl ?_); refine goesL_ (some 18) rfl rfl Tryd.func49 (by kernel_rfl) rfl #[.slice Ao13 x3_1.length co13, .string t295] rfl (by (try simp only [List.map_toArray, List.map_cons, List.map_nil]); first | done | rfl | (simp only [List.length_drop, List.length_take]; rfl)) ?_; (with_reducible refine (spec_l2Find.calls k1 _ _ x3_1 t295 t297 _ ?side1 ?side2 A8.out).mono ?_); (case side1 => repeat (first | exact (Kd.S_reads' HO_3.out).2.2 | (with_reducible refine Kd.C_alloc ?_ _) | (with_reducible refine Kd.C_drewN ?_ _) | (with_reducible refine Kd.C_drew ?_))); (case side2 => exact (Kd.S_reads' HO_3.out).2.1); rintro e w' ⟨rfl, ⟨nd, rfl⟩⟩; refine ⟨_, rfl, ?_⟩) | ((with_reducible refine gate_callee (f := 77) rfl ?_); refine goesL_ (some 23) rfl rfl Tryd.func77 (by kernel_rfl) rfl #[.pointer (some ⟨g, 0, none⟩), .string t295] rfl (by (try simp only [List.map_toArray, List.map_cons, List.map_nil]); first | done | rfl | (simp only [List.length_drop, List.length_take]; rfl)) ?_; (with_reducible refine (spec_l2Fun.calls k1 g s0_0 t296 t295 t298 t299 t300 t303 w0 _ ?side1 ?side2 A10.out).mono ?_); (case side1 => repeat (first | (with_reducible first | exact HI0.out | apply IsS87.alloc | apply IsS87.drewN | apply IsS87.drew | apply IsS87.set_1) | exact HI0.out)); (case side2 => repeat (first | (with_reducible first | exact HB.out | apply below_alloc | apply pw_below_drewN | apply below_drew1 | refine below_set ?_ (IsS87.ge HI0.out)) | exact HB.out)); rintro e w14 ⟨v301, rfl, ho0, hi, hb, hk⟩; refine ⟨_, rfl, ?_⟩; have n0_ := Aside0.mk (Kd.S_mono (Kd.S_told (Kd.S_oldK (IsS87.apartS (show IsS87 w0 _ g s0_0 t296 from by repeat (first | (with_reducible first | exact HI0.out | apply IsS87.alloc | apply IsS87.drewN | apply IsS87.drew | apply IsS87.set_1) | exact HI0.out)) (by (with_reducible repeat (first | apply Kd.S_alloc | apply Kd.S_drewN | apply Kd.S_drew)); exact HO_3.out) (by decide)) hk) (Kd.R_base ho0)) (fun _ h_ => h_.1)); have n1_ := Aside0.mk (Kd.R_lower ho0 (keep_size (w := w) (g := g) (row := none) (by repeat (first | (with_reducible first | exact HK.out | apply KeepBut.set_ | apply keep_drewN | apply keep_drew | apply keep_alloc) | exact HK.out)))); have n2_ := Aside0.mk (KeepBut.trans (by repeat (first | (with_reducible first | exact HK.out | apply KeepBut.set_ | apply keep_drewN | apply keep_drew | apply keep_alloc) | exact HK.out)) hk (.inl rfl)); have n3_ := Aside0.mk (hb); have n4_ := Aside0.mk (hi); clear HO_3 HK HB HI0; have HO_3 := n0_; have HO302 := n1_; have HK := n2_; have HB := n3_; have HI0 := n4_; clear n0_ n1_ n2_ n3_ n4_; (try clear hb); (try clear hb2); (try clear hk); (try clear hi); (try clear ho0); obtain ⟨Ao16, co16, eo16⟩ := Kd.R_slice HO302.out; subst eo16) | ((with_reducible refine gate_builtin (b := .append) (xs := #[.tmp 20, .tmp 24]) rfl ?_); at_builtin; refine Kd.S_append k41 w.heap.size rfl (.tmp 20) (.tmp 24) 35 41 (.agg #[(.string ⟨#[]⟩), (.bool false), (.slice none 0 0)]) 48 rfl Tryd.underlying35 info41 rfl (by decide) (by omega) (.slice Ao13 x3_1.length co13) x3_1 (⟨t298, t299, t300⟩ : S41) [.string t298, .bool t299, .slice Ao16 t300.length co16] (fun _ => True) (fun k_ => some k_ = (.slice Ao16 t300.length co16 : Value).ownBlock) rfl rfl ?aP (fun k_ hk_ => ((Kd.R_mono (ok' := fun k_ => ((fun _ => True)) k_ ∧ some k_ ≠ (.slice Ao13 x3_1.length co13 : Value).ownBlock) (Kd.R_apart' (HO302.out) (Kd.S_typed HO_3.out) (by decide)) (fun k_ hk => ⟨trivial, hk.2⟩))).1 k_ hk_.symm) ?aF ?aO (Below.refl _ _) ?aS ?aL ?_; (case aP => exact k41_mkM _ _ _ (⟨t298, t299, t300⟩ : S41) (Kd.R_mono (Kd.R_tight rfl (Kd.R_mono (ok' := fun k_ => ((fun _ => True)) k_ ∧ some k_ ≠ (.slice Ao13 x3_1.length co13 : Value).ownBlock) (Kd.R_apart' (HO302.out) (Kd.S_typed HO_3.out) (by decide)) (fun k_ hk => ⟨trivial, hk.2⟩))) (fun _ h_ => h_))); (case aF => exact (fun _ _ => trivial)); (case aO => exact (by (with_reducible repeat (first | apply Kd.S_alloc | apply Kd.S_drewN | apply Kd.S_drew)); exact Kd.S_mono HO_3.out (fun k_ hk => ⟨trivial, fun e_ => hk.2 e_⟩))); (case aS => exact (keep_size (w := w) (g := g) (row := none) (by repeat (first | (with_reducible first | exact HK.out | apply KeepBut.set_ | apply keep_drewN | apply keep_drew | apply keep_alloc) | exact HK.out)))); (case aL => have := LMc11.out; omega); intro v305 w15 ho hb hg hat; rw [← Ny304.out] at ho; have n0_ := Aside0.mk (IsS87.grown (by repeat (first | (with_reducible first | exact HI0.out | apply IsS87.alloc | apply IsS87.drewN | apply IsS87.drew | apply IsS87.set_1) | exact HI0.out)) hg (IsS87.own_neS HI0.out HO_3.out (by decide))); have n1_ := Aside0.mk (below_weaken (by repeat (first | (with_reducible first | exact HB.out | apply below_alloc | apply pw_below_drewN | apply below_drew1 | refine below_set ?_ (IsS87.ge HI0.out)) | exact HB.out)) HL.out hb); have n2_ := Aside0.mk (KeepBut.trans (by repeat (first | (with_reducible first | exact HK.out | apply KeepBut.set_ | apply keep_drewN | apply keep_drew | apply keep_alloc) | exact HK.out)) (KeepBut.of_grown hg g) (Kd.S_base2 HO_3.out)); have n3_ := Aside0.mk (ho); clear HI0 HB HK HO_3 HO302; have HI0 := n0_; have HB := n1_; have HK := n2_; have HO306 := n3_; clear n0_ n1_ n2_ n3_ ho hb hg hat))
       go_roundg k1
       case measure => have := HK1.out; omega
       case rel => exact ⟨(y304), (wrap64 (x4_1 - 1)), (t303), (by first | rfl | (simp; done) | (simp [*]; done)), H', ⟨by have := HK1.out; omega⟩, ⟨by (with_reducible repeat (first | apply Kd.S_alloc | apply Kd.S_drewN | apply Kd.S_drew)); exact HO306.out⟩, ⟨by repeat (first | (with_reducible first | exact HI0.out | apply IsS87.alloc | apply IsS87.drewN | apply IsS87.drew | apply IsS87.set_1) | exact HI0.out)⟩, ⟨by repeat (first | (with_reducible first | exact HK.out | apply KeepBut.set_ | apply keep_drewN | apply keep_drew | apply keep_alloc) | exact HK.out)⟩, ⟨by repeat (first | (with_reducible first | exact HB.out | apply below_alloc | apply pw_below_drewN | apply below_drew1 | refine below_set ?_ (IsS87.ge HI0.out)) | exact HB.out)⟩⟩
     rw [if_neg c11] at H
     exact absurd H (by simp)
   rw [if_neg c9] at H
   have c9b0 : decide (t297 < 0) = false := decide_eq_false c9
   clear c9
   have H' := Aside0.mk H
   clear H
   go_wp2_with (first | ((with_reducible refine gate_callee (f := 76) rfl ?_); refine goesL_ (some 15) rfl rfl Tryd.func76 (by kernel_rfl) rfl #[.pointer (some ⟨g, 0, none⟩)] rfl (by (try simp only [List.map_toArray, List.map_cons, List.map_nil]); first | done | rfl | (simp only [List.length_drop, List.length_take]; rfl)) ?_; (with_reducible refine (spec_l1Name.calls k1 g s0_0 x1001_1 t295 t296 w0 _ ?side1 ?side2 A7.out).mono ?_); (case side1 => repeat (first | (with_reducible first | exact HI0.out | apply IsS87.alloc | apply IsS87.drewN | apply IsS87.drew | apply IsS87.set_1) | exact HI0.out)); (case side2 => repeat (first | (with_reducible first | exact HB.out | apply below_alloc | apply pw_below_drewN | apply below_drew1 | refine below_set ?_ (IsS87.ge HI0.out)) | exact HB.out)); rintro e w17 ⟨rfl, hi, hb, hk⟩; refine ⟨_, rfl, ?_⟩; have n0_ := Aside0.mk (Kd.S_mono (Kd.S_keep (IsS87.apartS (show IsS87 w0 _ g s0_0 x1001_1 from by repeat (first | (with_reducible first | exact HI0.out | apply IsS87.alloc | apply IsS87.drewN | apply IsS87.drew | apply IsS87.set_1) | exact HI0.out)) (by (with_reducible repeat (first | apply Kd.S_alloc | apply Kd.S_drewN | apply Kd.S_drew)); exact HO_3.out) (by decide)) hk (fun _ h => h.2)) (fun _ h => h.1)); have n1_ := Aside0.mk (KeepBut.trans (by repeat (first | (with_reducible first | exact HK.out | apply KeepBut.set_ | apply keep_drewN | apply keep_drew | apply keep_alloc) | exact HK.out)) hk (.inl rfl)); have n2_ := Aside0.mk (hb); have n3_ := Aside0.mk (hi); clear HO_3 HK HB HI0; have HO_3 := n0_; have HK := n1_; have HB := n2_; have HI0 := n3_; clear n0_ n1_ n2_ n3_; (try clear hb); (try clear hb2); (try clear hk); (try clear hi); obtain ⟨Ao18, co18, eo18⟩ := Kd.S_slice HO_3.out; subst eo18) | ((with_reducible refine gate_callee (f := 49) rfl ?_); refine goesL_ (some 18) rfl rfl Tryd.func49 (by kernel_rfl) rfl #[.slice Ao18 x3_1.length co18, .string t295] rfl (by (try simp only [List.map_toArray, List.map_cons, List.map_nil]); first | done | rfl | (simp only [List.length_drop, List.length_take]; rfl)) ?_; (with_reducible refine (spec_l2Find.calls k1 _ _ x3_1 t295 t297 _ ?side1 ?side2 A8.out).mono ?_); (case side1 => repeat (first | exact (Kd.S_reads' HO_3.out).2.2 | (with_reducible refine Kd.C_alloc ?_ _) | (with_reducible refine Kd.C_drewN ?_ _) | (with_reducible refine Kd.C_drew ?_))); (case side2 => exact (Kd.S_reads' HO_3.out).2.1); rintro e w' ⟨rfl, ⟨nd, rfl⟩⟩; refine ⟨_, rfl, ?_⟩))
   go_roundg k1
   case measure => have := HK1.out; omega
   case rel => exact ⟨(x3_1), (wrap64 (x4_1 - 1)), (t296), (by first | rfl | (simp; done) | (simp [*]; done)), H', ⟨by have := HK1.out; omega⟩, ⟨by (with_reducible repeat (first | apply Kd.S_alloc | apply Kd.S_drewN | apply Kd.S_drew)); exact HO_3.out⟩, ⟨by repeat (first | (with_reducible first | exact HI0.out | apply IsS87.alloc | apply IsS87.drewN | apply IsS87.drew | apply IsS87.set_1) | exact HI0.out)⟩, ⟨by repeat (first | (with_reducible first | exact HK.out | apply KeepBut.set_ | apply keep_drewN | apply keep_drew | apply keep_alloc) | exact HK.out)⟩, ⟨by repeat (first | (with_reducible first | exact HB.out | apply below_alloc | apply pw_below_drewN | apply below_drew1 | refine below_set ?_ (IsS87.ge HI0.out)) | exact HB.out)⟩⟩
 rw [if_neg c6] at H
 have c6b0 : decide (0 < x4_1) = false := decide_eq_false c6
 clear c6
 simp only [Option.some.injEq, Prod.mk.injEq] at H
 obtain ⟨rfl, rfl⟩ := H
 go_wp2
 go_ret
 exact ⟨_, by first | rfl | (simp [errW_none, errW_some] <;> rfl) | (simp [*, errW_none, errW_some] <;> rfl), by (with_reducible repeat (first | apply Kd.S_alloc | apply Kd.S_drewN | apply Kd.S_drew)); exact HO_3.out, by repeat (first | (with_reducible first | exact HI0.out | apply IsS87.alloc | apply IsS87.drewN | apply IsS87.drew | apply IsS87.set_1) | exact HI0.out), by repeat (first | (with_reducible first | exact HB.out | apply below_alloc | apply pw_below_drewN | apply below_drew1 | refine below_set ?_ (IsS87.ge HI0.out)) | exact HB.out), by repeat (first | (with_reducible first | exact HK.out | apply KeepBut.set_ | apply keep_drewN | apply keep_drew | apply keep_alloc) | exact HK.out)⟩

end Go.Proofs.YtajhjdhkeahlpaaDoor.P

-- made by printx.py (own driver over the kit's print); Lean checks it
namespace Go.Proofs.YtajhjdhkeahlpaaDoor.P
open Go.RowKit Go.Proofs.YtajhjdhkeahlpaaDoorW.PrintWords Go.Proofs.YtajhjdhkeahlpaaDoorW.PrintLast Go.Proofs.YtajhjdhkeahlpaaDoorW.PrintMore
attribute [local go_sem] max2_int min2_int max_two min_two max_three min_three max_four min_four   -- for this text's walks alone
set_option linter.unusedVariables false
set_option linter.unusedSimpArgs false

/-! ### spec_l2Bent: function 46 -/
-- IMPORT Derived.Test.YtajhjdhkeahlpaaDoorLSeq
-- IMPORT Derived.Test.YtajhjdhkeahlpaaDoorPxUnitS
/-- A unit, one in ten bent. -/
def spec_l2Bent.f (k : Nat) (s0_0 : List Int) (s0_1 : Int) : Option (List S41 × Int) :=
  (spec_l2Unit.f k s0_0 s0_1).bind fun u => (spec_l13Rd_pick.f k s0_0 u.2 (u.1.length : Int)).bind fun a => (spec_l13Rd_pick.f k s0_0 a.2 40).bind fun c =>
    if 0 ≤ a.1 ∧ a.1 < (u.1.length : Int) ∧ u.1.length ≤ 1000 ∧ (rd_T41 u.1 a.1).f2.length ≤ 1000 then
      if c.1 = 0 then (spec_l13Rd_of.f k s0_0 c.2 ([(⟨#[]⟩ : ByteArray), (⟨#[65]⟩ : ByteArray), (⟨#[109, 97, 105, 110]⟩ : ByteArray)] : List ByteArray)).bind fun m => some (u.1.set a.1.toNat ⟨m.1, (rd_T41 u.1 a.1).f1, (rd_T41 u.1 a.1).f2⟩, m.2)
      else if c.1 = 1 then some (u.1.set a.1.toNat ⟨(rd_T41 u.1 a.1).f0, (rd_T41 u.1 a.1).f1, []⟩, c.2)
      else if c.1 = 2 then (spec_l1Bent.f k s0_0 c.2).bind fun b => some (u.1.set a.1.toNat ⟨(rd_T41 u.1 a.1).f0, (rd_T41 u.1 a.1).f1, (rd_T41 u.1 a.1).f2 ++ [⟨b.1, b.2.1, b.2.2.1⟩]⟩, b.2.2.2)
      else if c.1 = 3 then some (u.1 ++ [rd_T41 u.1 a.1], c.2)
      else some (u.1, c.2)
    else none
/-- A row of the call's own stays where the state alone was turned. -/
theorem bent_step {w0 W W1 : World} {g base : Nat} {s : List Int} {p : Int} {v : Value} {xs : List S41} (hI : IsS87 w0 W g s p) (ho : Kd.R k41 41 W base (fun _ => True) v xs) (hk : KeepBut W W1 g none) : Kd.R k41 41 W1 base (fun _ => True) v xs :=
  Kd.R_mono (Kd.R_keep (IsS87.apart hI ho (by decide)) hk (fun _ h => h.2)) (fun _ _ => trivial)
/-- The cells of an element, and what is so behind a store into it. -/
theorem bent_at {W : World} {base gu n cap : Nat} {X : List S41} (h : Kd.R k41 41 W base (fun _ => True) (.slice (some ⟨gu, 0, none⟩) n cap) X) (i : Int) (h0 : 0 ≤ i) (h1 : i < n) :
    ∃ ve : Value, W.cell? ⟨gu, i.toNat * 3, none⟩ = some (.string (rd_T41 X i).f0) ∧ W.cell? ⟨gu, i.toNat * 3 + 1, none⟩ = some (.bool (rd_T41 X i).f1) ∧ W.cell? ⟨gu, i.toNat * 3 + 2, none⟩ = some ve ∧ W.frozen? ⟨gu, i.toNat * 3, none⟩ = false ∧ W.frozen? ⟨gu, i.toNat * 3 + 1, none⟩ = false ∧ W.frozen? ⟨gu, i.toNat * 3 + 2, none⟩ = false ∧ Kd.R k26 26 W base (fun _ => True) ve (rd_T41 X i).f2 ∧
      (∀ s : ByteArray, Kd.R k41 41 (W.setCell ⟨gu, i.toNat * 3, none⟩ (.string s)) base (fun _ => True) (.slice (some ⟨gu, 0, none⟩) n cap) (X.set i.toNat ⟨s, (rd_T41 X i).f1, (rd_T41 X i).f2⟩) ∧ W.grownBy (W.setCell ⟨gu, i.toNat * 3, none⟩ (.string s)) (some gu)) ∧
      (∀ (vb : Value) (l : List S26), Kd.R k26 26 W base (fun k => True ∧ some k ≠ (Value.slice (some ⟨gu, 0, none⟩) n cap).ownBlock) vb l → Kd.R k41 41 (W.setCell ⟨gu, i.toNat * 3 + 2, none⟩ vb) base (fun _ => True) (.slice (some ⟨gu, 0, none⟩) n cap) (X.set i.toNat ⟨(rd_T41 X i).f0, (rd_T41 X i).f1, l⟩) ∧ W.grownBy (W.setCell ⟨gu, i.toNat * 3 + 2, none⟩ vb) (some gu)) := by
  have hap := fun (ve : Value) (ge : Kd.R k26 26 W base (fun _ => True) ve (rd_T41 X i).f2) => Kd.R_apart' ge (Kd.R_typed h) (by decide)
  obtain ⟨c, hcl, hM, hcc, hfr⟩ := Kd.R_elem h z41 i h0 h1
  obtain ⟨ve, rfl, ge0⟩ := k41_openM hM
  have ge : Kd.R k26 26 W base (fun _ => True) ve (rd_T41 X i).f2 := Kd.R_mono ge0 (fun _ _ => trivial)
  refine ⟨ve, hcc 0 _ rfl, hcc 1 _ rfl, hcc 2 _ rfl, hfr 0, hfr 1, hfr 2, ge, fun s => ?_, fun vb l hl => ?_⟩
  · exact Kd.R_seg h i h0 h1 (seg := [.string s]) (j := 0) hcl hcc (show 1 ≤ 3 from by decide) (x' := (⟨s, (rd_T41 X i).f1, (rd_T41 X i).f2⟩ : S41)) (okp := fun k => True ∧ some k ≠ (Value.slice (some ⟨gu, 0, none⟩) n cap).ownBlock) (k41_mkM _ _ _ (⟨s, (rd_T41 X i).f1, (rd_T41 X i).f2⟩ : S41) (hap ve ge)) (fun k hk => ⟨trivial, fun e => hk.2 (by rw [e]; rfl)⟩)
  · exact Kd.R_seg h i h0 h1 (seg := [vb]) (j := 2) hcl hcc (show 3 ≤ 3 from by decide) (x' := (⟨(rd_T41 X i).f0, (rd_T41 X i).f1, l⟩ : S41)) (okp := fun k => True ∧ some k ≠ (Value.slice (some ⟨gu, 0, none⟩) n cap).ownBlock) (k41_mkM _ _ _ (⟨(rd_T41 X i).f0, (rd_T41 X i).f1, l⟩ : S41) hl) (fun k hk => ⟨trivial, fun e => hk.2 (by rw [e]; rfl)⟩)
/-- The elements are apart: one's row may be lent, grown and put back. -/
theorem bent_keepS {w0 W W1 : World} {g base : Nat} {s : List Int} {p : Int} {v : Value} {xs : List S41} (hI : IsS87 w0 W g s p) (ho : Kd.S k41 41 W base (fun _ => True) v xs) (hk : KeepBut W W1 g none) : Kd.S k41 41 W1 base (fun k => k ≠ g) v xs := by
  obtain ⟨A0, c0, hb, _⟩ := hI
  exact Kd.S_mono (Kd.S_keep (Kd.S_types ho hb (by decide)) hk (fun _ h => h.2)) (fun _ h => h.2)
theorem bent_lend {W : World} {base g gu n cap : Nat} {X : List S41} (h : Kd.S k41 41 W base (fun k => k ≠ g) (.slice (some ⟨gu, 0, none⟩) n cap) X) (i : Int) (h0 : 0 ≤ i) (h1 : i < n) :
    ∃ (oki : Nat → Prop) (ve : Value), W.cell? ⟨gu, i.toNat * 3, none⟩ = some (.string (rd_T41 X i).f0) ∧ W.cell? ⟨gu, i.toNat * 3 + 1, none⟩ = some (.bool (rd_T41 X i).f1) ∧ W.cell? ⟨gu, i.toNat * 3 + 2, none⟩ = some ve ∧ gu ≠ g ∧ base ≤ gu ∧
      ∀ W4 : World, KeepBut W W4 g none → g < W4.heap.size → W4.cell? ⟨gu, i.toNat * 3 + 2, none⟩ = some ve ∧ Kd.R k26 26 W4 base (fun k => oki k ∨ k ≠ g ∧ W4.heap.size ≤ k) ve (rd_T41 X i).f2 ∧
        ∀ (W5 : World) (v5 : Value) (l : List S26), W4.grownBy W5 ve.ownBlock → Kd.R k26 26 W5 base (fun k => oki k ∨ k ≠ g ∧ W4.heap.size ≤ k) v5 l → W5.cell? ⟨gu, i.toNat * 3 + 2, none⟩ = some ve ∧ W5.frozen? ⟨gu, i.toNat * 3 + 2, none⟩ = false ∧
          Kd.R k41 41 (W5.setCell ⟨gu, i.toNat * 3 + 2, none⟩ v5) base (fun _ => True) (.slice (some ⟨gu, 0, none⟩) n cap) (X.set i.toNat ⟨(rd_T41 X i).f0, (rd_T41 X i).f1, l⟩) ∧ W5.grownBy (W5.setCell ⟨gu, i.toNat * 3 + 2, none⟩ v5) (some gu) := by
  have hgu : gu ≠ g := (Kd.S_R h).1 gu rfl
  have hbs : base ≤ gu := Kd.S_base h gu rfl
  obtain ⟨oki, c, hcl, hM, hcc, hfr, hoki, hH⟩ := Kd.S_elem h z41 i h0 h1
  obtain ⟨ve, rfl, ge⟩ := k41_openM hM
  refine ⟨oki, ve, hcc 0 _ rfl, hcc 1 _ rfl, hcc 2 _ rfl, hgu, hbs, fun W4 hk hlt => ⟨keep_cell hk (hcc 2 _ rfl) hgu, Kd.R_mono (Kd.R_keep ge hk (fun k hk2 => (hoki k hk2).1)) (fun k hk2 => .inl hk2), fun W5 v5 l hg hr => ?_⟩⟩
  have hH5 := Kd.H_grown (Kd.H_widen (Kd.H_keep hH hk (fun _ h => h))) hg (fun k hk2 => .inl (ge.1 k hk2))
  have hat := Kd.H_at hH5 h0 h1
  refine ⟨hat.1 2 _ rfl, hat.2 2, ?_⟩
  have hs := Kd.S_seg0 hH5 h0 h1 (seg := [v5]) (j := 2) (show 3 ≤ 3 from by decide) (x' := (⟨(rd_T41 X i).f0, (rd_T41 X i).f1, l⟩ : S41)) (k41_mkM _ _ _ (⟨(rd_T41 X i).f0, (rd_T41 X i).f1, l⟩ : S41) hr) (fun k hk2 => hk2)
  exact ⟨Kd.R_mono (Kd.S_R hs.1) (fun _ _ => trivial), hs.2⟩
set_option maxHeartbeats 8000000 in
set_option maxRecDepth 100000 in
theorem spec_l2Bent.calls (k : Nat) (g : Nat) (s0_0 : List Int) (s0_1 : Int) (r1 : List S41) (r2 : Int) (w0 w : World) (hI : IsS87 w0 w g s0_0 s0_1) (hB : Below w0.heap.size w0 w) (h : spec_l2Bent.f k s0_0 s0_1 = some (r1, r2)) :
    Calls Tryd.prog 46 #[.pointer (some ⟨g, 0, none⟩)] w fun e w' => ∃ v0_ : Value, e = .returned (v0_) ∧ Kd.R k41 41 w' w.heap.size (fun _ => True) v0_ r1 ∧ IsS87 w0 w' g s0_0 r2 ∧ Below w0.heap.size w0 w' ∧ KeepBut w w' g none := by
 have hu41 := Tryd.underlying41
 unfold spec_l2Bent.f at h
 obtain ⟨⟨u, p1⟩, a1, h⟩ := Option.bind_eq_some_iff.mp h
 obtain ⟨⟨ix, p2⟩, a2, h⟩ := Option.bind_eq_some_iff.mp h
 obtain ⟨⟨c, p3⟩, a3, h⟩ := Option.bind_eq_some_iff.mp h
 simp only at a2 a3 h
 by_cases hc : 0 ≤ ix ∧ ix < (u.length : Int) ∧ u.length ≤ 1000 ∧ (rd_T41 u ix).f2.length ≤ 1000
 case neg => rw [if_neg hc] at h; exact absurd h (by simp)
 rw [if_pos hc] at h
 have HI := Aside0.mk hI; have HB := Aside0.mk hB; have A1 := Aside0.mk a1; have A2 := Aside0.mk a2; have A3 := Aside0.mk a3; have HC := Aside0.mk hc; clear hI hB a1 a2 a3
 have hli : decide (ix < (u.length : Int)) = true := decide_eq_true hc.2.1
 have hl0 : decide (0 ≤ ix) = true := decide_eq_true hc.1
 have p5 := eq_true hc.1
 have q5 := eq_true hc.2.1
 clear hc
 by_cases h0 : c = 0
 · subst h0
   rw [if_pos rfl] at h
   obtain ⟨⟨m, p4⟩, a4, h⟩ := Option.bind_eq_some_iff.mp h
   simp only [Option.some.injEq, Prod.mk.injEq] at h
   obtain ⟨e1, rfl⟩ := h
   have E1 := Aside0.mk e1
   obtain ⟨L3, hL3⟩ : ∃ L3 : List ByteArray, L3 = ([(⟨#[]⟩ : ByteArray), (⟨#[65]⟩ : ByteArray), (⟨#[109, 97, 105, 110]⟩ : ByteArray)] : List ByteArray) := ⟨_, rfl⟩
   rw [← hL3] at a4
   have A4 := Aside0.mk a4; have NL := Aside0.mk hL3; clear e1 a4 hL3
   go_enter Tryd.func46, Tryd.ntmps46
   go_wp2_with (first
   | (go_at_call 64; refine (spec_l2Unit.calls k g s0_0 s0_1 u p1 w0 w HI.out HB.out A1.out).mono ?_; rintro e w1 ⟨v1, rfl, ho, hi, hb, hk⟩; have HO1 := Aside0.mk ho; have HI1 := Aside0.mk hi; have HB1 := Aside0.mk hb; have HK1 := Aside0.mk hk; clear ho hi hb hk A1; obtain ⟨Au, cu, eu⟩ := Kd.R_slice HO1.out; subst eu)
   | (go_at_call 60; refine (spec_l13Rd_pick.calls k g s0_0 p1 (u.length : Int) ix p2 w0 w1 HI1.out HB1.out A2.out).mono ?_; rintro e w2 ⟨rfl, hi, hb, hk⟩; have HO2 := Aside0.mk (bent_step HI1.out HO1.out hk); have HI2 := Aside0.mk hi; have HB2 := Aside0.mk hb; have HK2 := Aside0.mk (KeepBut.trans HK1.out hk (.inl rfl)); clear hi hb hk A2 HO1 HI1 HB1 HK1)
   | (go_at_call 60; refine (spec_l13Rd_pick.calls k g s0_0 p2 40 0 p3 w0 w2 HI2.out HB2.out A3.out).mono ?_; rintro e w3 ⟨rfl, hi, hb, hk⟩; have HO3 := Aside0.mk (bent_step HI2.out HO2.out hk); have HI3 := Aside0.mk hi; have HB3 := Aside0.mk hb; have HK3 := Aside0.mk (KeepBut.trans HK2.out hk (.inl rfl)); clear hi hb hk A3 HO2 HI2 HB2 HK2)
   | ((with_reducible refine gate_dst (N := 18) rfl ?_); refine Kd.R_lit Kd.string _ 9 ?hg (N := 18) ?hd (xs := ([(⟨#[]⟩ : ByteArray), (⟨#[65]⟩ : ByteArray), (⟨#[109, 97, 105, 110]⟩ : ByteArray)] : List ByteArray)) (inner := [.string (⟨#[]⟩ : ByteArray), .string (⟨#[65]⟩ : ByteArray), .string (⟨#[109, 97, 105, 110]⟩ : ByteArray)]) (ok := fun _ => True) (okp := fun _ => True) ?hr ?hp (fun _ hk => hk) trivial (Below.refl _ _) (Nat.le_refl _) (by simp) ?_; (case hd => rfl); (case hg => rfl); (case hr => first | (go_simp; done) | (go_simp; rfl)); (case hp => exact (Reps.one (show Kd.M Kd.string _ _ _ (⟨#[]⟩ : ByteArray) [.string (⟨#[]⟩ : ByteArray)] from rfl) (Reps.one (show Kd.M Kd.string _ _ _ (⟨#[65]⟩ : ByteArray) [.string (⟨#[65]⟩ : ByteArray)] from rfl) (Reps.one (show Kd.M Kd.string _ _ _ (⟨#[109, 97, 105, 110]⟩ : ByteArray) [.string (⟨#[109, 97, 105, 110]⟩ : ByteArray)] from rfl) (Reps.none _ _))))); intro v5 w5 ho4 hb hg_ hnew_; rw [← NL.out] at ho4; have HL5 := Aside0.mk ho4; have HO5 := Aside0.mk (Kd.R_below HO3.out hb); have HI5 := Aside0.mk (IsS87.below HI3.out hb); have HB5 := Aside0.mk (below_step HB3.out hb); have HK5 := Aside0.mk (KeepBut.trans HK3.out (KeepBut.of_below hb g none) (.inl rfl)); clear ho4 hb hg_ hnew_ HO3 HI3 HB3 HK3; obtain ⟨A5, c5, e5⟩ := Kd.R_slice HL5.out; subst e5)
   | (go_at_call 43; refine (spec_l13Rd_of.calls k g s0_0 p3 A5 c5 L3 m p4 w0 w5 HI5.out HB5.out (Kd.R_reads' HL5.out).2.2 (Kd.R_reads' HL5.out).2.1 (far_slice (IsS87.own_ne HI5.out HL5.out (by decide))) A4.out).mono ?_; rintro e w6 ⟨rfl, hi, hb, hk⟩; have HO6 := Aside0.mk (bent_step HI5.out HO5.out hk); have HI6 := Aside0.mk hi; have HB6 := Aside0.mk hb; have HK6 := Aside0.mk (KeepBut.trans HK5.out hk (.inl rfl)); clear hi hb hk A4 HO5 HI5 HB5 HK5 HL5; obtain ⟨gu, cap, eu, hbg, hgl, _⟩ := Kd.R_form HO6.out (by have := HC.out; omega); have eu1 : Au = some ⟨gu, 0, none⟩ := (by injection eu); clear eu hgl cap; subst eu1; have HGB := Aside0.mk hbg; clear hbg; obtain ⟨ve, hx0, hx1, hx2, hf0, hf1, hf2, hve, hput, hputv⟩ := bent_at HO6.out ix HC.out.1 HC.out.2.1; have HVE := Aside0.mk hve; have HPS := Aside0.mk hput; have HPV := Aside0.mk hputv; clear hve hput hputv)
   | ((with_reducible refine gate_store (t := 9) (p := 21) rfl ?_); refine store_event (t := 9) (p := 21) (v := ?vo_w7) (w1 := (w6.setCell ⟨gu, ix.toNat * 3, none⟩ (.string m))) ?hg ?ho ?hn ?hr ?_; (case ho => rfl); (case hg => rfl); (case hn => rfl); (case hr => first | (go_simp; done) | (go_simp; rfl)); intro w7 hw; have HP := Aside0.mk (HPS.out m); have HO7 := Aside0.mk (show Kd.R k41 41 w7 w.heap.size (fun _ => True) (.slice (some ⟨gu, 0, none⟩) u.length cu) r1 from by rw [hw, ← E1.out]; exact HP.out.1); have hg4 : w6.grownBy w7 (some gu) := (by rw [hw]; exact HP.out.2); have HI7 := Aside0.mk (IsS87.grown HI6.out hg4 (IsS87.own_ne HI6.out HO6.out (by decide))); have HB7 := Aside0.mk (show Below w0.heap.size w0 w7 from by rw [hw]; exact below_set HB6.out (Nat.le_trans (below_size HB.out) HGB.out)); have HK7 := Aside0.mk (KeepBut.trans HK6.out (KeepBut.of_grown hg4 g) (.inr ⟨gu, rfl, HGB.out⟩)); clear hw hg4 hx0 hx1 hx2 hf0 hf1 hf2))
   go_ret
   exact ⟨_, rfl, HO7.out, HI7.out, HB7.out, HK7.out⟩
 by_cases h1 : c = 1
 · subst h1
   rw [if_neg h0, if_pos rfl] at h
   simp only [Option.some.injEq, Prod.mk.injEq] at h
   obtain ⟨e1, rfl⟩ := h
   have E1 := Aside0.mk e1; clear e1 h0
   go_enter Tryd.func46, Tryd.ntmps46
   go_wp2_with (first
   | (go_at_call 64; refine (spec_l2Unit.calls k g s0_0 s0_1 u p1 w0 w HI.out HB.out A1.out).mono ?_; rintro e w1 ⟨v1, rfl, ho, hi, hb, hk⟩; have HO1 := Aside0.mk ho; have HI1 := Aside0.mk hi; have HB1 := Aside0.mk hb; have HK1 := Aside0.mk hk; clear ho hi hb hk A1; obtain ⟨Au, cu, eu⟩ := Kd.R_slice HO1.out; subst eu)
   | (go_at_call 60; refine (spec_l13Rd_pick.calls k g s0_0 p1 (u.length : Int) ix p2 w0 w1 HI1.out HB1.out A2.out).mono ?_; rintro e w2 ⟨rfl, hi, hb, hk⟩; have HO2 := Aside0.mk (bent_step HI1.out HO1.out hk); have HI2 := Aside0.mk hi; have HB2 := Aside0.mk hb; have HK2 := Aside0.mk (KeepBut.trans HK1.out hk (.inl rfl)); clear hi hb hk A2 HO1 HI1 HB1 HK1)
   | (go_at_call 60; refine (spec_l13Rd_pick.calls k g s0_0 p2 40 1 p3 w0 w2 HI2.out HB2.out A3.out).mono ?_; rintro e w3 ⟨rfl, hi, hb, hk⟩; have HO3 := Aside0.mk (bent_step HI2.out HO2.out hk); have HI3 := Aside0.mk hi; have HB3 := Aside0.mk hb; have HK3 := Aside0.mk (KeepBut.trans HK2.out hk (.inl rfl)); clear hi hb hk A3 HO2 HI2 HB2 HK2; obtain ⟨gu, cap, eu, hbg, hgl, _⟩ := Kd.R_form HO3.out (by have := HC.out; omega); have eu1 : Au = some ⟨gu, 0, none⟩ := (by injection eu); clear eu hgl cap; subst eu1; have HGB := Aside0.mk hbg; clear hbg; obtain ⟨ve, hx0, hx1, hx2, hf0, hf1, hf2, hve, hput, hputv⟩ := bent_at HO3.out ix HC.out.1 HC.out.2.1; have HVE := Aside0.mk hve; have HPS := Aside0.mk hput; have HPV := Aside0.mk hputv; clear hve hput hputv)
   | ((with_reducible refine gate_store (t := 39) (p := 27) rfl ?_); refine store_event (t := 39) (p := 27) (v := ?vo_w4) (w1 := (w3.setCell ⟨gu, ix.toNat * 3 + 2, none⟩ (.slice none 0 0))) ?hg ?ho ?hn ?hr ?_; (case ho => rfl); (case hg => rfl); (case hn => rfl); (case hr => first | (go_simp; done) | (go_simp; rfl)); intro w4 hw; have HP := Aside0.mk (HPV.out (.slice none 0 0) [] (Kd.R_nil _ _ _ _ _)); have HO4 := Aside0.mk (show Kd.R k41 41 w4 w.heap.size (fun _ => True) (.slice (some ⟨gu, 0, none⟩) u.length cu) r1 from by rw [hw, ← E1.out]; exact HP.out.1); have hg4 : w3.grownBy w4 (some gu) := (by rw [hw]; exact HP.out.2); have HI4 := Aside0.mk (IsS87.grown HI3.out hg4 (IsS87.own_ne HI3.out HO3.out (by decide))); have HB4 := Aside0.mk (show Below w0.heap.size w0 w4 from by rw [hw]; exact below_set HB3.out (Nat.le_trans (below_size HB.out) HGB.out)); have HK4 := Aside0.mk (KeepBut.trans HK3.out (KeepBut.of_grown hg4 g) (.inr ⟨gu, rfl, HGB.out⟩)); clear hw hg4 hx0 hx1 hx2 hf0 hf1 hf2))
   go_ret
   exact ⟨_, rfl, HO4.out, HI4.out, HB4.out, HK4.out⟩
 by_cases h2 : c = 2
 · subst h2
   rw [if_neg h0, if_neg h1, if_pos rfl] at h
   obtain ⟨⟨b0, b1, b2, p4⟩, a4, h⟩ := Option.bind_eq_some_iff.mp h
   simp only [Option.some.injEq, Prod.mk.injEq] at h
   obtain ⟨e1, rfl⟩ := h
   have E1 := Aside0.mk e1; have A4 := Aside0.mk a4; clear e1 a4 h0 h1
   go_enter Tryd.func46, Tryd.ntmps46
   go_wp2_with (first
   | (go_at_call 64; refine (spec_l2Unit.callsS k g s0_0 s0_1 u p1 w0 w HI.out HB.out A1.out).mono ?_; rintro e w1 ⟨v1, rfl, ho, hi, hb, hk⟩; have HO1 := Aside0.mk ho; have HI1 := Aside0.mk hi; have HB1 := Aside0.mk hb; have HK1 := Aside0.mk hk; clear ho hi hb hk A1; obtain ⟨Au, cu, eu⟩ := Kd.S_slice HO1.out; subst eu)
   | (go_at_call 60; refine (spec_l13Rd_pick.calls k g s0_0 p1 (u.length : Int) ix p2 w0 w1 HI1.out HB1.out A2.out).mono ?_; rintro e w2 ⟨rfl, hi, hb, hk⟩; have HO2 := Aside0.mk (Kd.S_mono (bent_keepS HI1.out HO1.out hk) (fun _ _ => trivial) : Kd.S k41 41 w2 w.heap.size (fun _ => True) (.slice Au u.length cu) u); have HI2 := Aside0.mk hi; have HB2 := Aside0.mk hb; have HK2 := Aside0.mk (KeepBut.trans HK1.out hk (.inl rfl)); clear hi hb hk A2 HO1 HI1 HB1 HK1)
   | (go_at_call 60; refine (spec_l13Rd_pick.calls k g s0_0 p2 40 2 p3 w0 w2 HI2.out HB2.out A3.out).mono ?_; rintro e w3 ⟨rfl, hi, hb, hk⟩; have HO3 := Aside0.mk (bent_keepS HI2.out HO2.out hk); have HI3 := Aside0.mk hi; have HB3 := Aside0.mk hb; have HK3 := Aside0.mk (KeepBut.trans HK2.out hk (.inl rfl)); clear hi hb hk A3 HO2 HI2 HB2 HK2; obtain ⟨gu, cap, eu, _, _, _⟩ := Kd.S_form HO3.out (by have := HC.out; omega); have eu1 : Au = some ⟨gu, 0, none⟩ := (by injection eu); clear eu cap; subst eu1; obtain ⟨oki, ve, hx0, hx1, hx2, hgu, hbs, hld⟩ := bent_lend HO3.out ix HC.out.1 HC.out.2.1; have HGU := Aside0.mk (And.intro hgu hbs); have HLD := Aside0.mk hld; have HLB := Aside0.mk HC.out.2.2.2; clear hgu hbs hld; generalize hbody : (rd_T41 u ix).f2 = body at HLD HLB; have HBD := Aside0.mk hbody; clear hbody))
   refine start_ (n := 14) (S := fun w' => w'.cell? ⟨gu, ix.toNat * 3 + 2, none⟩ = some ve) (ds := [13]) #[false, false, false, false, false, false, false, false, false, false, false, false, false, false] (by kernel_rfl) rfl rfl (hx2) (fun hHeld => ?_)
   refine pure_ (i := 0) (N := some 30) (v := ?_) (a' := ?_) #[true, false, false, false, false, false, false, false, false, false, false, false, false, false] rfl rfl (by kernel_rfl) (fun _ _ _ h => h) (Or.inl ⟨by rfl, ?_⟩) ?_ ?_
   rotate_left
   · intro w'
     go_simp
     with_reducible rfl
   rotate_left
   · simp only [Act.put, List.setIfInBounds_toArray, List.set_cons_zero, List.set_cons_succ, i64_w, i32_w]
     rfl
   refine pure_ (i := 1) (N := some 31) (v := ?_) (a' := ?_) #[true, true, false, false, false, false, false, false, false, false, false, false, false, false] rfl rfl (by kernel_rfl) (fun _ _ _ h => h) (Or.inl ⟨by rfl, ?_⟩) ?_ ?_
   rotate_left
   · intro w'
     go_simp
     with_reducible rfl
   rotate_left
   · simp only [Act.put, List.setIfInBounds_toArray, List.set_cons_zero, List.set_cons_succ, i64_w, i32_w]
     rfl
   refine pure_ (i := 2) (N := some 32) (v := ?_) (a' := ?_) #[true, true, true, false, false, false, false, false, false, false, false, false, false, false] rfl rfl (by kernel_rfl) (fun _ _ _ h => h) (Or.inl ⟨by rfl, ?_⟩) ?_ ?_
   rotate_left
   · intro w'
     go_simp
     with_reducible rfl
   rotate_left
   · simp only [Act.put, List.setIfInBounds_toArray, List.set_cons_zero, List.set_cons_succ, i64_w, i32_w]
     rfl
   refine pure_ (i := 3) (N := some 33) (v := ?_) (a' := ?_) #[true, true, true, true, false, false, false, false, false, false, false, false, false, false] rfl rfl (by kernel_rfl) (fun _ _ _ h => h) (Or.inl ⟨by rfl, ?_⟩) ?_ ?_
   rotate_left
   · intro w'
     go_simp
     with_reducible rfl
   rotate_left
   · simp only [Act.put, List.setIfInBounds_toArray, List.set_cons_zero, List.set_cons_succ, i64_w, i32_w]
     rfl
   refine pure_ (i := 4) (N := some 34) (v := ?_) (a' := ?_) #[true, true, true, true, true, false, false, false, false, false, false, false, false, false] rfl rfl (by kernel_rfl) (fun _ _ _ h => h) (Or.inl ⟨by rfl, ?_⟩) ?_ ?_
   rotate_left
   · intro w'
     go_simp
     with_reducible rfl
   rotate_left
   · simp only [Act.put, List.setIfInBounds_toArray, List.set_cons_zero, List.set_cons_succ, i64_w, i32_w]
     rfl
   refine pure_ (i := 5) (N := some 35) (v := ?_) (a' := ?_) #[true, true, true, true, true, true, false, false, false, false, false, false, false, false] rfl rfl (by kernel_rfl) (fun _ _ _ h => h) (Or.inl ⟨by rfl, ?_⟩) ?_ ?_
   rotate_left
   · intro w'
     go_simp
     with_reducible rfl
   rotate_left
   · simp only [Act.put, List.setIfInBounds_toArray, List.set_cons_zero, List.set_cons_succ, i64_w, i32_w]
     rfl
   refine pure_ (i := 7) (N := some 37) (v := ?_) (a' := ?_) #[true, true, true, true, true, true, false, true, false, false, false, false, false, false] rfl rfl (by kernel_rfl) (fun _ _ _ h => h) (Or.inl ⟨by rfl, ?_⟩) ?_ ?_
   rotate_left
   · intro w'
     go_simp
     with_reducible rfl
   rotate_left
   · simp only [Act.put, List.setIfInBounds_toArray, List.set_cons_zero, List.set_cons_succ, i64_w, i32_w]
     rfl
   refine take_ (i := 6) (N := some 36) (v := ?_) (a' := ?_) #[true, true, true, true, true, true, true, true, false, false, false, false, false, false] rfl rfl (by kernel_rfl) (fun _ _ _ h => h) (Or.inl ⟨by rfl, ?_⟩) hHeld ?_ ?_
   rotate_left
   · intro w' s0
     go_simp
     with_reducible rfl
   rotate_left
   · simp only [Act.put, List.setIfInBounds_toArray, List.set_cons_zero, List.set_cons_succ, i64_w, i32_w]
     rfl
   refine one_ (i := 8) (N := some 38) #[true, true, true, true, true, true, true, true, true, false, false, false, false, false] rfl rfl (by kernel_rfl) (by decide) (fun K hK => ?_)
   refine goes_ Tryd.func41 (by kernel_rfl) rfl #[.pointer (some ⟨g, 0, none⟩)] (by rfl) rfl rfl (by simp only [List.map_toArray, List.map_cons, List.map_nil]; rfl) ?_
   with_reducible refine (spec_l1Bent.calls k g s0_0 p3 b0 b1 b2 p4 w0 _ (IsS87.drew HI3.out) (below_drew HB3.out) A4.out).mono ?_
   rintro e w4 ⟨rfl, hi, hb, hk⟩
   refine ⟨_, rfl, ?_⟩
   have HK4 := Aside0.mk (KeepBut.trans HK3.out (show KeepBut w3 w4 g none from hk) (.inl rfl))
   have HL4 := Aside0.mk (HLD.out w4 (show KeepBut w3 w4 g none from hk) (IsS87.lt hi))
   have HI4 := Aside0.mk hi; have HB4 := Aside0.mk hb
   have hx4 := HL4.out.1
   clear hi hb hk
   refine hK.out _ _ (hx4) (fun hHeld => ?_)
   clear hK K
   refine norm_ (a' := ?_) ?_ ?_
   rotate_left
   · show Act.put _ (some 38) _ = _
     simp only [Act.put, List.setIfInBounds_toArray, List.set_cons_zero, List.set_cons_succ, i64_w, i32_w]
     rfl
   refine one_ (i := 9) (N := some 39) #[true, true, true, true, true, true, true, true, true, true, false, false, false, false] rfl rfl (by kernel_rfl) (by decide) (fun K hK => ?_)
   refine value_ (w1 := ?_) (v := ?_) (by rfl) rfl ?_ ?_
   rotate_left 2
   · go_simp
     constructor
     · rfl
     rfl
   refine hK.out _ _ ((((below_alloc (Below.refl w4.heap.size w4) _).cell (World.block_lt_of_cell? w4 _ hx4)).trans hx4)) (fun hHeld => ?_)
   clear hK K
   refine norm_ (a' := ?_) ?_ ?_
   rotate_left
   · show Act.put _ (some 39) _ = _
     simp only [Act.put, List.setIfInBounds_toArray, List.set_cons_zero, List.set_cons_succ, i64_w, i32_w]
     rfl
   refine one_ (i := 10) (N := some 40) #[true, true, true, true, true, true, true, true, true, true, true, false, false, false] rfl rfl (by kernel_rfl) (by decide) (fun K hK => ?_)
   refine Kd.R_append_step k26 w.heap.size (by rfl) (.tmp 36) (.tmp 39) 39 26 (.agg #[(.int .i64 0), (.int .i64 0), (.string ⟨#[]⟩)]) 32 rfl Tryd.underlying39 info26 rfl (by decide) (by omega) ve body (⟨b0, b1, b2⟩ : S26) [.int .i64 b0, .int .i64 b1, .string b2] (fun k_ => oki k_ ∨ k_ ≠ g ∧ w4.heap.size ≤ k_) (fun _ => False) rfl rfl ?aP (fun _ hk => hk.elim) ?aF ?aO (Below.refl _ _) ?aS ?aL ?_
   (case aP => exact k26_mkM _ _ _ (⟨b0, b1, b2⟩ : S26))
   (case aF => exact fun k_ hk_ => .inr ⟨fun e_ => by have := IsS87.lt HI4.out; omega, hk_⟩)
   (case aO => exact HL4.out.2.1)
   (case aS => exact (keep_size (w := w) (g := g) (row := none) HK4.out))
   (case aL => have := HLB.out; omega)
   intro v5 w5 ho hb hg hat
   obtain ⟨l5, hl5⟩ : ∃ l5, l5 = body ++ [(⟨b0, b1, b2⟩ : S26)] := ⟨_, rfl⟩
   rw [← hl5] at ho
   have HLE := Aside0.mk hl5; clear hl5
   obtain ⟨A5, c5, e5⟩ := Kd.R_slice ho
   subst e5
   have HI5 := Aside0.mk (IsS87.grown HI4.out hg (IsS87.own_ne HI4.out HL4.out.2.1 (by decide)))
   have HB5 := Aside0.mk (below_weaken HB4.out (below_size HB.out) hb)
   have HK5 := Aside0.mk (KeepBut.trans HK4.out (KeepBut.of_grown hg g) (Kd.R_base2 HL4.out.2.1))
   have HL5 := Aside0.mk (HL4.out.2.2 w5 (.slice A5 l5.length c5) l5 hg ho)
   have hx5 := HL5.out.1
   have hf5 := HL5.out.2.1
   clear ho hb hg hat
   refine hK.out _ _ (hx5) (fun hHeld => ?_)
   clear hK K
   refine norm_ (a' := ?_) ?_ ?_
   rotate_left
   · show Act.put _ (some 40) _ = _
     simp only [Act.put, List.setIfInBounds_toArray, List.set_cons_zero, List.set_cons_succ, i64_w, i32_w]
     rfl
   refine pure_ (i := 11) (N := some 41) (v := ?_) (a' := ?_) #[true, true, true, true, true, true, true, true, true, true, true, true, false, false] rfl rfl (by kernel_rfl) (fun _ _ _ h => h) (Or.inl ⟨by rfl, ?_⟩) ?_ ?_
   rotate_left
   · intro w'
     go_simp
     with_reducible rfl
   rotate_left
   · simp only [Act.put, List.setIfInBounds_toArray, List.set_cons_zero, List.set_cons_succ, i64_w, i32_w]
     rfl
   refine pure_ (i := 12) (N := some 42) (v := ?_) (a' := ?_) #[true, true, true, true, true, true, true, true, true, true, true, true, true, false] rfl rfl (by kernel_rfl) (fun _ _ _ h => h) (Or.inl ⟨by rfl, ?_⟩) ?_ ?_
   rotate_left
   · intro w'
     go_simp
     with_reducible rfl
   rotate_left
   · simp only [Act.put, List.setIfInBounds_toArray, List.set_cons_zero, List.set_cons_succ, i64_w, i32_w]
     rfl
   refine last_ (i := 13) (N := none) #[true, true, true, true, true, true, true, true, true, true, true, true, true, true] rfl rfl (by kernel_rfl) (by decide) (fun K hK => ?_)
   refine skip_ (w1 := ?_) (by rfl) rfl ?_ ?_
   rotate_left
   · go_simp
     rfl
   refine hK.out _ _ ?_
   clear hK K
   refine done_ (by kernel_rfl) ?_

   go_wp2
   go_ret
   refine ⟨_, rfl, ?_, IsS87.grown HI5.out HL5.out.2.2.2 (fun e_ => HGU.out.1 (by injection e_ with e_; exact e_.symm)), below_set HB5.out (Nat.le_trans (below_size HB.out) HGU.out.2), KeepBut.trans HK5.out (KeepBut.of_grown HL5.out.2.2.2 g) (.inr ⟨gu, rfl, HGU.out.2⟩)⟩
   have h9 := HL5.out.2.2.1
   have hr9 : u.set ix.toNat ⟨(rd_T41 u ix).f0, (rd_T41 u ix).f1, l5⟩ = r1 := by rw [HLE.out, ← HBD.out]; exact E1.out
   rw [hr9] at h9
   exact h9
 by_cases h3 : c = 3
 · subst h3
   rw [if_neg h0, if_neg h1, if_neg h2, if_pos rfl] at h
   simp only [Option.some.injEq, Prod.mk.injEq] at h
   obtain ⟨e1, rfl⟩ := h
   have E1 := Aside0.mk e1; clear e1 h0 h1 h2
   go_enter Tryd.func46, Tryd.ntmps46
   go_wp2_with (first
   | (go_at_call 64; refine (spec_l2Unit.calls k g s0_0 s0_1 u p1 w0 w HI.out HB.out A1.out).mono ?_; rintro e w1 ⟨v1, rfl, ho, hi, hb, hk⟩; have HO1 := Aside0.mk ho; have HI1 := Aside0.mk hi; have HB1 := Aside0.mk hb; have HK1 := Aside0.mk hk; clear ho hi hb hk A1; obtain ⟨Au, cu, eu⟩ := Kd.R_slice HO1.out; subst eu)
   | (go_at_call 60; refine (spec_l13Rd_pick.calls k g s0_0 p1 (u.length : Int) ix p2 w0 w1 HI1.out HB1.out A2.out).mono ?_; rintro e w2 ⟨rfl, hi, hb, hk⟩; have HO2 := Aside0.mk (bent_step HI1.out HO1.out hk); have HI2 := Aside0.mk hi; have HB2 := Aside0.mk hb; have HK2 := Aside0.mk (KeepBut.trans HK1.out hk (.inl rfl)); clear hi hb hk A2 HO1 HI1 HB1 HK1)
   | (go_at_call 60; refine (spec_l13Rd_pick.calls k g s0_0 p2 40 3 p3 w0 w2 HI2.out HB2.out A3.out).mono ?_; rintro e w3 ⟨rfl, hi, hb, hk⟩; have HO3 := Aside0.mk (bent_step HI2.out HO2.out hk); have HI3 := Aside0.mk hi; have HB3 := Aside0.mk hb; have HK3 := Aside0.mk (KeepBut.trans HK2.out hk (.inl rfl)); clear hi hb hk A3 HO2 HI2 HB2 HK2; obtain ⟨gu, cap, eu, hbg, hgl, _⟩ := Kd.R_form HO3.out (by have := HC.out; omega); have eu1 : Au = some ⟨gu, 0, none⟩ := (by injection eu); clear eu hgl cap; subst eu1; have HGB := Aside0.mk hbg; clear hbg; obtain ⟨ve, hx0, hx1, hx2, hf0, hf1, hf2, hve, hput, hputv⟩ := bent_at HO3.out ix HC.out.1 HC.out.2.1; have HVE := Aside0.mk hve; have HPS := Aside0.mk hput; have HPV := Aside0.mk hputv; clear hve hput hputv)
   | ((with_reducible refine gate_builtin (b := .append) (xs := #[.tmp 45, .tmp 50]) rfl ?_); at_builtin; refine Kd.R_append k41 w.heap.size rfl (.tmp 45) (.tmp 50) 35 41 (.agg #[(.string ⟨#[]⟩), (.bool false), (.slice none 0 0)]) 48 rfl Tryd.underlying35 info41 rfl (by decide) (by omega) (.slice (some ⟨gu, 0, none⟩) u.length cu) u (rd_T41 u ix) [.string (rd_T41 u ix).f0, .bool (rd_T41 u ix).f1, ve] (fun _ => True) (fun k_ => ((fun _ => True)) k_ ∧ some k_ ≠ (.slice (some ⟨gu, 0, none⟩) u.length cu : Value).ownBlock) rfl rfl ?aP (fun _ hk => hk) ?aF ?aO (Below.refl _ _) ?aS ?aL ?_; (case aP => exact k41_mkM _ _ _ (rd_T41 u ix) (Kd.R_mono (Kd.R_apart' HVE.out (Kd.R_typed HO3.out) (by decide)) (fun k_ hk => ⟨trivial, hk.2⟩))); (case aF => exact (fun _ _ => trivial)); (case aO => exact HO3.out); (case aS => exact (keep_size (w := w) (g := g) (row := none) HK3.out)); (case aL => have := HC.out; omega); intro v4 w4 ho hb hg hat; rw [E1.out] at ho; have HI4 := Aside0.mk (IsS87.grown HI3.out hg (IsS87.own_ne HI3.out HO3.out (by decide))); have HB4 := Aside0.mk (below_weaken HB3.out (below_size HB.out) hb); have HK4 := Aside0.mk (KeepBut.trans HK3.out (KeepBut.of_grown hg g) (Kd.R_base2 HO3.out)); have HO4 := Aside0.mk ho; clear ho hb hg hat))
   go_ret
   exact ⟨_, rfl, HO4.out, HI4.out, HB4.out, HK4.out⟩
 rw [if_neg h0, if_neg h1, if_neg h2, if_neg h3] at h
 simp only [Option.some.injEq, Prod.mk.injEq] at h
 obtain ⟨rfl, rfl⟩ := h
 have h0' : (c == 0) = false := beq_eq_false_iff_ne.mpr h0
 have h1' : (c == 1) = false := beq_eq_false_iff_ne.mpr h1
 have h2' : (c == 2) = false := beq_eq_false_iff_ne.mpr h2
 have h3' : (c == 3) = false := beq_eq_false_iff_ne.mpr h3
 clear h0 h1 h2 h3
 go_enter Tryd.func46, Tryd.ntmps46
 go_wp2_with (first
 | (go_at_call 64; refine (spec_l2Unit.calls k g s0_0 s0_1 u p1 w0 w HI.out HB.out A1.out).mono ?_; rintro e w1 ⟨v1, rfl, ho, hi, hb, hk⟩; have HO1 := Aside0.mk ho; have HI1 := Aside0.mk hi; have HB1 := Aside0.mk hb; have HK1 := Aside0.mk hk; clear ho hi hb hk A1; obtain ⟨Au, cu, eu⟩ := Kd.R_slice HO1.out; subst eu)
 | (go_at_call 60; refine (spec_l13Rd_pick.calls k g s0_0 p1 (u.length : Int) ix p2 w0 w1 HI1.out HB1.out A2.out).mono ?_; rintro e w2 ⟨rfl, hi, hb, hk⟩; have HO2 := Aside0.mk (bent_step HI1.out HO1.out hk); have HI2 := Aside0.mk hi; have HB2 := Aside0.mk hb; have HK2 := Aside0.mk (KeepBut.trans HK1.out hk (.inl rfl)); clear hi hb hk A2 HO1 HI1 HB1 HK1)
 | (go_at_call 60; refine (spec_l13Rd_pick.calls k g s0_0 p2 40 c p3 w0 w2 HI2.out HB2.out A3.out).mono ?_; rintro e w3 ⟨rfl, hi, hb, hk⟩; have HO3 := Aside0.mk (bent_step HI2.out HO2.out hk); have HI3 := Aside0.mk hi; have HB3 := Aside0.mk hb; have HK3 := Aside0.mk (KeepBut.trans HK2.out hk (.inl rfl)); clear hi hb hk A3 HO2 HI2 HB2 HK2))
 go_ret
 exact ⟨_, rfl, HO3.out, HI3.out, HB3.out, HK3.out⟩

end Go.Proofs.YtajhjdhkeahlpaaDoor.P

-- made by printx.py (own driver over the kit's print); Lean checks it
namespace Go.Proofs.YtajhjdhkeahlpaaDoor.P
open Go.RowKit Go.Proofs.YtajhjdhkeahlpaaDoorW.PrintWords Go.Proofs.YtajhjdhkeahlpaaDoorW.PrintLast Go.Proofs.YtajhjdhkeahlpaaDoorW.PrintMore
attribute [local go_sem] max2_int min2_int max_two min_two max_three min_three max_four min_four   -- for this text's walks alone
set_option linter.unusedVariables false
set_option linter.unusedSimpArgs false

/-! ### spec_DrawUnitOk: function 23 -/
def spec_DrawUnitOk.f (k : Nat) (l0 : List Int) : Option ((List (S41))) := (spec_l13Open.f l0).bind fun bt307 => ((spec_l2Bent.f k bt307.1 bt307.2).bind fun bt310 => (some bt310.1))
set_option maxHeartbeats 8000000 in
set_option maxRecDepth 100000 in
theorem spec_DrawUnitOk.calls (k : Nat) (A0 : Option Addr) (c0 : Nat) (l0 : List Int) (r : List (S41)) (w : World) (hr0 : Kd.C (Kd.int .u8) w A0 l0.length l0) (hc0 : l0.length ≤ c0) (h : spec_DrawUnitOk.f k l0 = some r) :
    Calls Tryd.prog 23 #[.slice A0 l0.length c0] w fun e w' => ∃ v0_ : Value, e = .returned (v0_) ∧ Kd.R k41 41 w' w.heap.size (fun _ => True) v0_ r ∧ Below w.heap.size w w' := by
 have HR0 := Aside0.mk hr0; have HC0 := Aside0.mk hc0; clear hr0 hc0
 have HB := Aside0.mk (Below.refl w.heap.size w)
 have H : ((spec_l13Open.f l0).bind fun bt307 => ((spec_l2Bent.f k bt307.1 bt307.2).bind fun bt310 => (some bt310.1))) = some r := h
 clear h
 replace H := Option.bind_eq_some_iff.mp H
 obtain ⟨⟨t307, t308⟩, A20, H⟩ := H
 replace H : ((spec_l2Bent.f k t307 t308).bind fun bt310 => (some bt310.1)) = some r := H
 have A2 := Aside0.mk A20; clear A20
 replace H := Option.bind_eq_some_iff.mp H
 obtain ⟨⟨t310, t313⟩, A30, H⟩ := H
 replace H : (some t310) = some r := H
 have A3 := Aside0.mk A30; clear A30
 obtain rfl := Option.some.inj H
 go_enter Tryd.func23, Tryd.ntmps23
 go_wp2_with (first | ((with_reducible refine gate_callee (f := 42) rfl ?_); refine goesL_ (some 4) rfl rfl Tryd.func42 (by kernel_rfl) rfl #[.slice A0 l0.length c0] rfl (by (try simp only [List.map_toArray, List.map_cons, List.map_nil]); first | done | rfl | (simp only [List.length_drop, List.length_take]; rfl)) ?_; (with_reducible refine (spec_l13Open.calls _ _ l0 t307 t308 w _ ?side1 ?side2 ?side3 A2.out).mono ?_); (case side1 => repeat (first | (with_reducible first | exact HB.out | apply below_alloc | apply pw_below_drewN | apply below_drew1) | exact HB.out)); (case side2 => exact HR0.out); (case side3 => exact HC0.out); rintro e w4 ⟨g309, rfl, hi, hb, hb2⟩; refine ⟨_, rfl, ?_⟩; have n0_ := Aside0.mk (hb); have n1_ := Aside0.mk (hi); clear HB; have HB := n0_; have HI309 := n1_; clear n0_ n1_; (try clear hb); (try clear hb2); (try clear hk); (try clear hi)) | ((with_reducible refine gate_callee (f := 46) rfl ?_); refine goesL_ (some 5) rfl rfl Tryd.func46 (by kernel_rfl) rfl #[.pointer (some ⟨g309, 0, none⟩)] rfl (by (try simp only [List.map_toArray, List.map_cons, List.map_nil]); first | done | rfl | (simp only [List.length_drop, List.length_take]; rfl)) ?_; (with_reducible refine (spec_l2Bent.calls k g309 t307 t308 t310 t313 w _ ?side1 ?side2 A3.out).mono ?_); (case side1 => repeat (first | (with_reducible first | exact HI309.out | apply IsS87.alloc | apply IsS87.drewN | apply IsS87.drew | apply IsS87.set_1) | exact HI309.out)); (case side2 => repeat (first | (with_reducible first | exact HB.out | apply below_alloc | apply pw_below_drewN | apply below_drew1 | refine below_set ?_ (IsS87.ge HI309.out)) | exact HB.out)); rintro e w5 ⟨v311, rfl, ho0, hi, hb, hk⟩; refine ⟨_, rfl, ?_⟩; have n0_ := Aside0.mk (Kd.R_lower ho0 (below_size (by repeat (first | (with_reducible first | exact HB.out | apply below_alloc | apply pw_below_drewN | apply below_drew1 | refine below_set ?_ (IsS87.ge HI309.out)) | exact HB.out)))); have n1_ := Aside0.mk (hb); have n2_ := Aside0.mk (hi); clear HB HI309; have HO312 := n0_; have HB := n1_; have HI309 := n2_; clear n0_ n1_ n2_; (try clear hb); (try clear hb2); (try clear hk); (try clear hi); (try clear ho0)))
 go_ret
 exact ⟨_, by first | rfl | (simp [errW_none, errW_some] <;> rfl) | (simp [*, errW_none, errW_some] <;> rfl), by (with_reducible repeat (first | apply Kd.R_alloc | apply Kd.R_drewN | apply Kd.R_drew)); exact HO312.out, by repeat (first | (with_reducible first | exact HB.out | apply below_alloc | apply pw_below_drewN | apply below_drew1 | refine below_set ?_ (IsS87.ge HI309.out)) | exact HB.out)⟩

end Go.Proofs.YtajhjdhkeahlpaaDoor.P

-- made by printx.py (own driver over the kit's print); Lean checks it
namespace Go.Proofs.YtajhjdhkeahlpaaDoor.P
open Go.RowKit Go.Proofs.YtajhjdhkeahlpaaDoorW.PrintWords Go.Proofs.YtajhjdhkeahlpaaDoorW.PrintLast Go.Proofs.YtajhjdhkeahlpaaDoorW.PrintMore
attribute [local go_sem] max2_int min2_int max_two min_two max_three min_three max_four min_four   -- for this text's walks alone
set_option linter.unusedVariables false
set_option linter.unusedSimpArgs false

/-! ### impl_InsOk: function 15 -/
def impl_InsOk.f (k : Nat) (a0_0 : Int) (a0_1 : Int) (a0_2 : ByteArray) : Option (Bool) := (impl_in.f a0_0 1 7).bind fun t130 => (if t130 = true then (if a0_1 = 0 then ((impl_NameOk.f k a0_2).bind fun t131 => (if t131 = true then ((impl_refers.f a0_0).bind fun t132 => (if t132 = true then (some true) else (if a0_2.toList = ([] : List UInt8) then (some (!t132)) else (some false)))) else (if a0_2.toList = ([] : List UInt8) then ((impl_refers.f a0_0).bind fun t133 => (some (!t133))) else (some false)))) else (if a0_0 = 2 then ((impl_isNumber.f a0_1).bind fun t134 => (if t134 = true then ((impl_NameOk.f k a0_2).bind fun t135 => (if t135 = true then ((impl_refers.f a0_0).bind fun t136 => (if t136 = true then (some true) else (if a0_2.toList = ([] : List UInt8) then (some (!t136)) else (some false)))) else (if a0_2.toList = ([] : List UInt8) then ((impl_refers.f a0_0).bind fun t137 => (some (!t137))) else (some false)))) else (some false))) else (some false))) else (some false))
set_option maxHeartbeats 8000000 in
set_option maxRecDepth 100000 in
theorem impl_InsOk.calls (k : Nat) (a0_0 : Int) (a0_1 : Int) (a0_2 : ByteArray) (r : Bool) (w : World) (h : impl_InsOk.f k a0_0 a0_1 a0_2 = some r) :
    Calls Tryd.prog 15 #[.agg #[.int .i64 a0_0, .int .i64 a0_1, .string a0_2]] w fun e w' => e = .returned (.bool r) ∧ Below w.heap.size w w' := by
 have hu26 := Tryd.underlying26
 have HB := Aside0.mk (Below.refl w.heap.size w)
 have H : ((impl_in.f a0_0 1 7).bind fun t130 => (if t130 = true then (if a0_1 = 0 then ((impl_NameOk.f k a0_2).bind fun t131 => (if t131 = true then ((impl_refers.f a0_0).bind fun t132 => (if t132 = true then (some true) else (if a0_2.toList = ([] : List UInt8) then (some (!t132)) else (some false)))) else (if a0_2.toList = ([] : List UInt8) then ((impl_refers.f a0_0).bind fun t133 => (some (!t133))) else (some false)))) else (if a0_0 = 2 then ((impl_isNumber.f a0_1).bind fun t134 => (if t134 = true then ((impl_NameOk.f k a0_2).bind fun t135 => (if t135 = true then ((impl_refers.f a0_0).bind fun t136 => (if t136 = true then (some true) else (if a0_2.toList = ([] : List UInt8) then (some (!t136)) else (some false)))) else (if a0_2.toList = ([] : List UInt8) then ((impl_refers.f a0_0).bind fun t137 => (some (!t137))) else (some false)))) else (some false))) else (some false))) else (some false))) = some r := h
 clear h
 replace H := Option.bind_eq_some_iff.mp H
 obtain ⟨t130, A20, H⟩ := H
 replace H : (if t130 = true then (if a0_1 = 0 then ((impl_NameOk.f k a0_2).bind fun t131 => (if t131 = true then ((impl_refers.f a0_0).bind fun t132 => (if t132 = true then (some true) else (if a0_2.toList = ([] : List UInt8) then (some (!t132)) else (some false)))) else (if a0_2.toList = ([] : List UInt8) then ((impl_refers.f a0_0).bind fun t133 => (some (!t133))) else (some false)))) else (if a0_0 = 2 then ((impl_isNumber.f a0_1).bind fun t134 => (if t134 = true then ((impl_NameOk.f k a0_2).bind fun t135 => (if t135 = true then ((impl_refers.f a0_0).bind fun t136 => (if t136 = true then (some true) else (if a0_2.toList = ([] : List UInt8) then (some (!t136)) else (some false)))) else (if a0_2.toList = ([] : List UInt8) then ((impl_refers.f a0_0).bind fun t137 => (some (!t137))) else (some false)))) else (some false))) else (some false))) else (some false)) = some r := H
 have A2 := Aside0.mk A20; clear A20
 by_cases c3 : t130 = true
 · subst c3
   have H1 : (if a0_1 = 0 then ((impl_NameOk.f k a0_2).bind fun t131 => (if t131 = true then ((impl_refers.f a0_0).bind fun t132 => (if t132 = true then (some true) else (if a0_2.toList = ([] : List UInt8) then (some (!t132)) else (some false)))) else (if a0_2.toList = ([] : List UInt8) then ((impl_refers.f a0_0).bind fun t133 => (some (!t133))) else (some false)))) else (if a0_0 = 2 then ((impl_isNumber.f a0_1).bind fun t134 => (if t134 = true then ((impl_NameOk.f k a0_2).bind fun t135 => (if t135 = true then ((impl_refers.f a0_0).bind fun t136 => (if t136 = true then (some true) else (if a0_2.toList = ([] : List UInt8) then (some (!t136)) else (some false)))) else (if a0_2.toList = ([] : List UInt8) then ((impl_refers.f a0_0).bind fun t137 => (some (!t137))) else (some false)))) else (some false))) else (some false))) = some r := by rw [if_pos rfl] at H; exact H
   clear H
   have H := H1
   clear H1
   by_cases c4 : a0_1 = 0
   · rw [if_pos c4] at H
     have c4b0 : (a0_1 == 0) = true := beq_iff_eq.mpr c4
     have c4b1 : (a0_1 != 0) = false := bne_eq_false_iff_eq.mpr c4
     clear c4
     replace H := Option.bind_eq_some_iff.mp H
     obtain ⟨t131, A50, H⟩ := H
     replace H : (if t131 = true then ((impl_refers.f a0_0).bind fun t132 => (if t132 = true then (some true) else (if a0_2.toList = ([] : List UInt8) then (some (!t132)) else (some false)))) else (if a0_2.toList = ([] : List UInt8) then ((impl_refers.f a0_0).bind fun t133 => (some (!t133))) else (some false))) = some r := H
     have A5 := Aside0.mk A50; clear A50
     by_cases c6 : t131 = true
     · subst c6
       have H1 : ((impl_refers.f a0_0).bind fun t132 => (if t132 = true then (some true) else (if a0_2.toList = ([] : List UInt8) then (some (!t132)) else (some false)))) = some r := by rw [if_pos rfl] at H; exact H
       clear H
       have H := H1
       clear H1
       replace H := Option.bind_eq_some_iff.mp H
       obtain ⟨t132, A70, H⟩ := H
       replace H : (if t132 = true then (some true) else (if a0_2.toList = ([] : List UInt8) then (some (!t132)) else (some false))) = some r := H
       have A7 := Aside0.mk A70; clear A70
       by_cases c8 : t132 = true
       · subst c8
         have H1 : (some true) = some r := by rw [if_pos rfl] at H; exact H
         clear H
         have H := H1
         clear H1
         obtain rfl := Option.some.inj H
         go_enter Tryd.func15, Tryd.ntmps15
         go_wp2_with (first | ((with_reducible refine gate_dst (N := 1) rfl ?_); refine box_event ?hg (N := 1) ?hd (cs := #[.int .i64 a0_0, .int .i64 a0_1, .string a0_2]) (t := 26) ?hr ?_; (case hd => rfl); (case hg => rfl); (case hr => first | (go_simp; done) | (go_simp; rfl)); intro gb129 hg w9 hbox hb; have n0_ := Aside0.mk (below_step (by repeat (first | (with_reducible first | exact HB.out | apply below_alloc | apply pw_below_drewN | apply below_drew1) | exact HB.out)) hb); have n1_ := Aside0.mk (hbox); have n2_ := Aside0.mk ((by rw [hg]; exact (below_size (by repeat (first | (with_reducible first | exact HB.out | apply below_alloc | apply pw_below_drewN | apply below_drew1) | exact HB.out))) : w.heap.size ≤ gb129)); have n3_ := Aside0.mk ((by rw [hg]; exact (below_size (by repeat (first | (with_reducible first | exact HB.out | apply below_alloc | apply pw_below_drewN | apply below_drew1) | exact HB.out))) : w.heap.size ≤ gb129)); clear HB; have HB := n0_; have BK129 := n1_; have GW129 := n2_; have GE129 := n3_; clear n0_ n1_ n2_ n3_ hb hbox hg; have hcz10_0 : w9.cell? ⟨gb129, 0, none⟩ = some (.int .i64 a0_0) := (blk_cell BK129.out 0).trans rfl; have hcz10_1 : w9.cell? ⟨gb129, 1, none⟩ = some (.int .i64 a0_1) := (blk_cell BK129.out 1).trans rfl; have hcz10_2 : w9.cell? ⟨gb129, 2, none⟩ = some (.string a0_2) := (blk_cell BK129.out 2).trans rfl; have hfz10_0 := blk_frozen BK129.out 0; have hfz10_1 := blk_frozen BK129.out 1; have hfz10_2 := blk_frozen BK129.out 2) | ((with_reducible refine gate_callee (f := 44) rfl ?_); refine goesL_ (some 5) rfl rfl Tryd.func44 (by kernel_rfl) rfl #[.int .i64 a0_0, .int .i64 1, .int .i64 7] rfl (by (try simp only [List.map_toArray, List.map_cons, List.map_nil]); first | done | rfl | (simp only [List.length_drop, List.length_take]; rfl)) ?_; (with_reducible refine (impl_in.calls a0_0 1 7 true _ A2.out).mono ?_); rintro e w' ⟨rfl, ⟨nd, rfl⟩⟩; refine ⟨_, rfl, ?_⟩) | (go_at_call 21; (with_reducible refine (impl_NameOk.calls k a0_2 true _ A5.out).mono ?_); rintro e w' ⟨rfl, ⟨nd, rfl⟩⟩) | (go_at_call 40; (with_reducible refine (impl_refers.calls a0_0 true _ A7.out).mono ?_); rintro e w' ⟨rfl, ⟨nd, rfl⟩⟩))
         go_ret
         exact ⟨by first | rfl | (simp [errW_none, errW_some] <;> rfl) | (simp [*, errW_none, errW_some] <;> rfl), by repeat (first | (with_reducible first | exact HB.out | apply below_alloc | apply pw_below_drewN | apply below_drew1 | refine below_set ?_ GE129.out) | exact HB.out)⟩
       replace c8 := Bool.eq_false_iff.mpr c8
       subst c8
       have H1 : (if a0_2.toList = ([] : List UInt8) then (some (!false)) else (some false)) = some r := by rw [if_neg (show ¬ (false = true) by decide)] at H; exact H
       clear H
       have H := H1
       clear H1
       by_cases c11 : a0_2.toList = ([] : List UInt8)
       · rw [if_pos c11] at H
         have c11b0 : (a0_2.toList == ([] : List UInt8)) = true := beq_iff_eq.mpr c11
         have c11b1 : (a0_2.toList != ([] : List UInt8)) = false := bne_eq_false_iff_eq.mpr c11
         clear c11
         obtain rfl := Option.some.inj H
         go_enter Tryd.func15, Tryd.ntmps15
         go_wp2_with (first | ((with_reducible refine gate_dst (N := 1) rfl ?_); refine box_event ?hg (N := 1) ?hd (cs := #[.int .i64 a0_0, .int .i64 a0_1, .string a0_2]) (t := 26) ?hr ?_; (case hd => rfl); (case hg => rfl); (case hr => first | (go_simp; done) | (go_simp; rfl)); intro gb129 hg w12 hbox hb; have n0_ := Aside0.mk (below_step (by repeat (first | (with_reducible first | exact HB.out | apply below_alloc | apply pw_below_drewN | apply below_drew1) | exact HB.out)) hb); have n1_ := Aside0.mk (hbox); have n2_ := Aside0.mk ((by rw [hg]; exact (below_size (by repeat (first | (with_reducible first | exact HB.out | apply below_alloc | apply pw_below_drewN | apply below_drew1) | exact HB.out))) : w.heap.size ≤ gb129)); have n3_ := Aside0.mk ((by rw [hg]; exact (below_size (by repeat (first | (with_reducible first | exact HB.out | apply below_alloc | apply pw_below_drewN | apply below_drew1) | exact HB.out))) : w.heap.size ≤ gb129)); clear HB; have HB := n0_; have BK129 := n1_; have GW129 := n2_; have GE129 := n3_; clear n0_ n1_ n2_ n3_ hb hbox hg; have hcz13_0 : w12.cell? ⟨gb129, 0, none⟩ = some (.int .i64 a0_0) := (blk_cell BK129.out 0).trans rfl; have hcz13_1 : w12.cell? ⟨gb129, 1, none⟩ = some (.int .i64 a0_1) := (blk_cell BK129.out 1).trans rfl; have hcz13_2 : w12.cell? ⟨gb129, 2, none⟩ = some (.string a0_2) := (blk_cell BK129.out 2).trans rfl; have hfz13_0 := blk_frozen BK129.out 0; have hfz13_1 := blk_frozen BK129.out 1; have hfz13_2 := blk_frozen BK129.out 2) | ((with_reducible refine gate_callee (f := 44) rfl ?_); refine goesL_ (some 5) rfl rfl Tryd.func44 (by kernel_rfl) rfl #[.int .i64 a0_0, .int .i64 1, .int .i64 7] rfl (by (try simp only [List.map_toArray, List.map_cons, List.map_nil]); first | done | rfl | (simp only [List.length_drop, List.length_take]; rfl)) ?_; (with_reducible refine (impl_in.calls a0_0 1 7 true _ A2.out).mono ?_); rintro e w' ⟨rfl, ⟨nd, rfl⟩⟩; refine ⟨_, rfl, ?_⟩) | (go_at_call 21; (with_reducible refine (impl_NameOk.calls k a0_2 true _ A5.out).mono ?_); rintro e w' ⟨rfl, ⟨nd, rfl⟩⟩) | (go_at_call 40; (with_reducible refine (impl_refers.calls a0_0 false _ A7.out).mono ?_); rintro e w' ⟨rfl, ⟨nd, rfl⟩⟩))
         go_ret
         exact ⟨by first | rfl | (simp [errW_none, errW_some] <;> rfl) | (simp [*, errW_none, errW_some] <;> rfl), by repeat (first | (with_reducible first | exact HB.out | apply below_alloc | apply pw_below_drewN | apply below_drew1 | refine below_set ?_ GE129.out) | exact HB.out)⟩
       rw [if_neg c11] at H
       have c11b0 : (a0_2.toList == ([] : List UInt8)) = false := beq_eq_false_iff_ne.mpr c11
       have c11b1 : (a0_2.toList != ([] : List UInt8)) = true := bne_iff_ne.mpr c11
       obtain rfl := Option.some.inj H
       go_enter Tryd.func15, Tryd.ntmps15
       go_wp2_with (first | ((with_reducible refine gate_dst (N := 1) rfl ?_); refine box_event ?hg (N := 1) ?hd (cs := #[.int .i64 a0_0, .int .i64 a0_1, .string a0_2]) (t := 26) ?hr ?_; (case hd => rfl); (case hg => rfl); (case hr => first | (go_simp; done) | (go_simp; rfl)); intro gb129 hg w14 hbox hb; have n0_ := Aside0.mk (below_step (by repeat (first | (with_reducible first | exact HB.out | apply below_alloc | apply pw_below_drewN | apply below_drew1) | exact HB.out)) hb); have n1_ := Aside0.mk (hbox); have n2_ := Aside0.mk ((by rw [hg]; exact (below_size (by repeat (first | (with_reducible first | exact HB.out | apply below_alloc | apply pw_below_drewN | apply below_drew1) | exact HB.out))) : w.heap.size ≤ gb129)); have n3_ := Aside0.mk ((by rw [hg]; exact (below_size (by repeat (first | (with_reducible first | exact HB.out | apply below_alloc | apply pw_below_drewN | apply below_drew1) | exact HB.out))) : w.heap.size ≤ gb129)); clear HB; have HB := n0_; have BK129 := n1_; have GW129 := n2_; have GE129 := n3_; clear n0_ n1_ n2_ n3_ hb hbox hg; have hcz15_0 : w14.cell? ⟨gb129, 0, none⟩ = some (.int .i64 a0_0) := (blk_cell BK129.out 0).trans rfl; have hcz15_1 : w14.cell? ⟨gb129, 1, none⟩ = some (.int .i64 a0_1) := (blk_cell BK129.out 1).trans rfl; have hcz15_2 : w14.cell? ⟨gb129, 2, none⟩ = some (.string a0_2) := (blk_cell BK129.out 2).trans rfl; have hfz15_0 := blk_frozen BK129.out 0; have hfz15_1 := blk_frozen BK129.out 1; have hfz15_2 := blk_frozen BK129.out 2) | ((with_reducible refine gate_callee (f := 44) rfl ?_); refine goesL_ (some 5) rfl rfl Tryd.func44 (by kernel_rfl) rfl #[.int .i64 a0_0, .int .i64 1, .int .i64 7] rfl (by (try simp only [List.map_toArray, List.map_cons, List.map_nil]); first | done | rfl | (simp only [List.length_drop, List.length_take]; rfl)) ?_; (with_reducible refine (impl_in.calls a0_0 1 7 true _ A2.out).mono ?_); rintro e w' ⟨rfl, ⟨nd, rfl⟩⟩; refine ⟨_, rfl, ?_⟩) | (go_at_call 21; (with_reducible refine (impl_NameOk.calls k a0_2 true _ A5.out).mono ?_); rintro e w' ⟨rfl, ⟨nd, rfl⟩⟩) | (go_at_call 40; (with_reducible refine (impl_refers.calls a0_0 false _ A7.out).mono ?_); rintro e w' ⟨rfl, ⟨nd, rfl⟩⟩))
       go_ret
       exact ⟨by first | rfl | (simp [errW_none, errW_some] <;> rfl) | (simp [*, errW_none, errW_some] <;> rfl), by repeat (first | (with_reducible first | exact HB.out | apply below_alloc | apply pw_below_drewN | apply below_drew1 | refine below_set ?_ GE129.out) | exact HB.out)⟩
     replace c6 := Bool.eq_false_iff.mpr c6
     subst c6
     have H1 : (if a0_2.toList = ([] : List UInt8) then ((impl_refers.f a0_0).bind fun t133 => (some (!t133))) else (some false)) = some r := by rw [if_neg (show ¬ (false = true) by decide)] at H; exact H
     clear H
     have H := H1
     clear H1
     by_cases c16 : a0_2.toList = ([] : List UInt8)
     · rw [if_pos c16] at H
       have c16b0 : (a0_2.toList == ([] : List UInt8)) = true := beq_iff_eq.mpr c16
       have c16b1 : (a0_2.toList != ([] : List UInt8)) = false := bne_eq_false_iff_eq.mpr c16
       clear c16
       replace H := Option.bind_eq_some_iff.mp H
       obtain ⟨t133, A170, H⟩ := H
       replace H : (some (!t133)) = some r := H
       have A17 := Aside0.mk A170; clear A170
       obtain rfl := Option.some.inj H
       go_enter Tryd.func15, Tryd.ntmps15
       go_wp2_with (first | ((with_reducible refine gate_dst (N := 1) rfl ?_); refine box_event ?hg (N := 1) ?hd (cs := #[.int .i64 a0_0, .int .i64 a0_1, .string a0_2]) (t := 26) ?hr ?_; (case hd => rfl); (case hg => rfl); (case hr => first | (go_simp; done) | (go_simp; rfl)); intro gb129 hg w18 hbox hb; have n0_ := Aside0.mk (below_step (by repeat (first | (with_reducible first | exact HB.out | apply below_alloc | apply pw_below_drewN | apply below_drew1) | exact HB.out)) hb); have n1_ := Aside0.mk (hbox); have n2_ := Aside0.mk ((by rw [hg]; exact (below_size (by repeat (first | (with_reducible first | exact HB.out | apply below_alloc | apply pw_below_drewN | apply below_drew1) | exact HB.out))) : w.heap.size ≤ gb129)); have n3_ := Aside0.mk ((by rw [hg]; exact (below_size (by repeat (first | (with_reducible first | exact HB.out | apply below_alloc | apply pw_below_drewN | apply below_drew1) | exact HB.out))) : w.heap.size ≤ gb129)); clear HB; have HB := n0_; have BK129 := n1_; have GW129 := n2_; have GE129 := n3_; clear n0_ n1_ n2_ n3_ hb hbox hg; have hcz19_0 : w18.cell? ⟨gb129, 0, none⟩ = some (.int .i64 a0_0) := (blk_cell BK129.out 0).trans rfl; have hcz19_1 : w18.cell? ⟨gb129, 1, none⟩ = some (.int .i64 a0_1) := (blk_cell BK129.out 1).trans rfl; have hcz19_2 : w18.cell? ⟨gb129, 2, none⟩ = some (.string a0_2) := (blk_cell BK129.out 2).trans rfl; have hfz19_0 := blk_frozen BK129.out 0; have hfz19_1 := blk_frozen BK129.out 1; have hfz19_2 := blk_frozen BK129.out 2) | ((with_reducible refine gate_callee (f := 44) rfl ?_); refine goesL_ (some 5) rfl rfl Tryd.func44 (by kernel_rfl) rfl #[.int .i64 a0_0, .int .i64 1, .int .i64 7] rfl (by (try simp only [List.map_toArray, List.map_cons, List.map_nil]); first | done | rfl | (simp only [List.length_drop, List.length_take]; rfl)) ?_; (with_reducible refine (impl_in.calls a0_0 1 7 true _ A2.out).mono ?_); rintro e w' ⟨rfl, ⟨nd, rfl⟩⟩; refine ⟨_, rfl, ?_⟩) | (go_at_call 21; (with_reducible refine (impl_NameOk.calls k a0_2 false _ A5.out).mono ?_); rintro e w' ⟨rfl, ⟨nd, rfl⟩⟩) | (go_at_call 40; (with_reducible refine (impl_refers.calls a0_0 t133 _ A17.out).mono ?_); rintro e w' ⟨rfl, ⟨nd, rfl⟩⟩))
       go_ret
       exact ⟨by first | rfl | (simp [errW_none, errW_some] <;> rfl) | (simp [*, errW_none, errW_some] <;> rfl), by repeat (first | (with_reducible first | exact HB.out | apply below_alloc | apply pw_below_drewN | apply below_drew1 | refine below_set ?_ GE129.out) | exact HB.out)⟩
     rw [if_neg c16] at H
     have c16b0 : (a0_2.toList == ([] : List UInt8)) = false := beq_eq_false_iff_ne.mpr c16
     have c16b1 : (a0_2.toList != ([] : List UInt8)) = true := bne_iff_ne.mpr c16
     obtain rfl := Option.some.inj H
     go_enter Tryd.func15, Tryd.ntmps15
     go_wp2_with (first | ((with_reducible refine gate_dst (N := 1) rfl ?_); refine box_event ?hg (N := 1) ?hd (cs := #[.int .i64 a0_0, .int .i64 a0_1, .string a0_2]) (t := 26) ?hr ?_; (case hd => rfl); (case hg => rfl); (case hr => first | (go_simp; done) | (go_simp; rfl)); intro gb129 hg w20 hbox hb; have n0_ := Aside0.mk (below_step (by repeat (first | (with_reducible first | exact HB.out | apply below_alloc | apply pw_below_drewN | apply below_drew1) | exact HB.out)) hb); have n1_ := Aside0.mk (hbox); have n2_ := Aside0.mk ((by rw [hg]; exact (below_size (by repeat (first | (with_reducible first | exact HB.out | apply below_alloc | apply pw_below_drewN | apply below_drew1) | exact HB.out))) : w.heap.size ≤ gb129)); have n3_ := Aside0.mk ((by rw [hg]; exact (below_size (by repeat (first | (with_reducible first | exact HB.out | apply below_alloc | apply pw_below_drewN | apply below_drew1) | exact HB.out))) : w.heap.size ≤ gb129)); clear HB; have HB := n0_; have BK129 := n1_; have GW129 := n2_; have GE129 := n3_; clear n0_ n1_ n2_ n3_ hb hbox hg; have hcz21_0 : w20.cell? ⟨gb129, 0, none⟩ = some (.int .i64 a0_0) := (blk_cell BK129.out 0).trans rfl; have hcz21_1 : w20.cell? ⟨gb129, 1, none⟩ = some (.int .i64 a0_1) := (blk_cell BK129.out 1).trans rfl; have hcz21_2 : w20.cell? ⟨gb129, 2, none⟩ = some (.string a0_2) := (blk_cell BK129.out 2).trans rfl; have hfz21_0 := blk_frozen BK129.out 0; have hfz21_1 := blk_frozen BK129.out 1; have hfz21_2 := blk_frozen BK129.out 2) | ((with_reducible refine gate_callee (f := 44) rfl ?_); refine goesL_ (some 5) rfl rfl Tryd.func44 (by kernel_rfl) rfl #[.int .i64 a0_0, .int .i64 1, .int .i64 7] rfl (by (try simp only [List.map_toArray, List.map_cons, List.map_nil]); first | done | rfl | (simp only [List.length_drop, List.length_take]; rfl)) ?_; (with_reducible refine (impl_in.calls a0_0 1 7 true _ A2.out).mono ?_); rintro e w' ⟨rfl, ⟨nd, rfl⟩⟩; refine ⟨_, rfl, ?_⟩) | (go_at_call 21; (with_reducible refine (impl_NameOk.calls k a0_2 false _ A5.out).mono ?_); rintro e w' ⟨rfl, ⟨nd, rfl⟩⟩))
     go_ret
     exact ⟨by first | rfl | (simp [errW_none, errW_some] <;> rfl) | (simp [*, errW_none, errW_some] <;> rfl), by repeat (first | (with_reducible first | exact HB.out | apply below_alloc | apply pw_below_drewN | apply below_drew1 | refine below_set ?_ GE129.out) | exact HB.out)⟩
   rw [if_neg c4] at H
   have c4b0 : (a0_1 == 0) = false := beq_eq_false_iff_ne.mpr c4
   have c4b1 : (a0_1 != 0) = true := bne_iff_ne.mpr c4
   by_cases c22 : a0_0 = 2
   · rw [if_pos c22] at H
     have c22b0 : (a0_0 == 2) = true := beq_iff_eq.mpr c22
     have c22b1 : (a0_0 != 2) = false := bne_eq_false_iff_eq.mpr c22
     clear c22
     replace H := Option.bind_eq_some_iff.mp H
     obtain ⟨t134, A230, H⟩ := H
     replace H : (if t134 = true then ((impl_NameOk.f k a0_2).bind fun t135 => (if t135 = true then ((impl_refers.f a0_0).bind fun t136 => (if t136 = true then (some true) else (if a0_2.toList = ([] : List UInt8) then (some (!t136)) else (some false)))) else (if a0_2.toList = ([] : List UInt8) then ((impl_refers.f a0_0).bind fun t137 => (some (!t137))) else (some false)))) else (some false)) = some r := H
     have A23 := Aside0.mk A230; clear A230
     by_cases c24 : t134 = true
     · subst c24
       have H1 : ((impl_NameOk.f k a0_2).bind fun t135 => (if t135 = true then ((impl_refers.f a0_0).bind fun t136 => (if t136 = true then (some true) else (if a0_2.toList = ([] : List UInt8) then (some (!t136)) else (some false)))) else (if a0_2.toList = ([] : List UInt8) then ((impl_refers.f a0_0).bind fun t137 => (some (!t137))) else (some false)))) = some r := by rw [if_pos rfl] at H; exact H
       clear H
       have H := H1
       clear H1
       replace H := Option.bind_eq_some_iff.mp H
       obtain ⟨t135, A250, H⟩ := H
       replace H : (if t135 = true then ((impl_refers.f a0_0).bind fun t136 => (if t136 = true then (some true) else (if a0_2.toList = ([] : List UInt8) then (some (!t136)) else (some false)))) else (if a0_2.toList = ([] : List UInt8) then ((impl_refers.f a0_0).bind fun t137 => (some (!t137))) else (some false))) = some r := H
       have A25 := Aside0.mk A250; clear A250
       by_cases c26 : t135 = true
       · subst c26
         have H1 : ((impl_refers.f a0_0).bind fun t136 => (if t136 = true then (some true) else (if a0_2.toList = ([] : List UInt8) then (some (!t136)) else (some false)))) = some r := by rw [if_pos rfl] at H; exact H
         clear H
         have H := H1
         clear H1
         replace H := Option.bind_eq_some_iff.mp H
         obtain ⟨t136, A270, H⟩ := H
         replace H : (if t136 = true then (some true) else (if a0_2.toList = ([] : List UInt8) then (some (!t136)) else (some false))) = some r := H
         have A27 := Aside0.mk A270; clear A270
         by_cases c28 : t136 = true
         · subst c28
           have H1 : (some true) = some r := by rw [if_pos rfl] at H; exact H
           clear H
           have H := H1
           clear H1
           obtain rfl := Option.some.inj H
           go_enter Tryd.func15, Tryd.ntmps15
           go_wp2_with (first | ((with_reducible refine gate_dst (N := 1) rfl ?_); refine box_event ?hg (N := 1) ?hd (cs := #[.int .i64 a0_0, .int .i64 a0_1, .string a0_2]) (t := 26) ?hr ?_; (case hd => rfl); (case hg => rfl); (case hr => first | (go_simp; done) | (go_simp; rfl)); intro gb129 hg w29 hbox hb; have n0_ := Aside0.mk (below_step (by repeat (first | (with_reducible first | exact HB.out | apply below_alloc | apply pw_below_drewN | apply below_drew1) | exact HB.out)) hb); have n1_ := Aside0.mk (hbox); have n2_ := Aside0.mk ((by rw [hg]; exact (below_size (by repeat (first | (with_reducible first | exact HB.out | apply below_alloc | apply pw_below_drewN | apply below_drew1) | exact HB.out))) : w.heap.size ≤ gb129)); have n3_ := Aside0.mk ((by rw [hg]; exact (below_size (by repeat (first | (with_reducible first | exact HB.out | apply below_alloc | apply pw_below_drewN | apply below_drew1) | exact HB.out))) : w.heap.size ≤ gb129)); clear HB; have HB := n0_; have BK129 := n1_; have GW129 := n2_; have GE129 := n3_; clear n0_ n1_ n2_ n3_ hb hbox hg; have hcz30_0 : w29.cell? ⟨gb129, 0, none⟩ = some (.int .i64 a0_0) := (blk_cell BK129.out 0).trans rfl; have hcz30_1 : w29.cell? ⟨gb129, 1, none⟩ = some (.int .i64 a0_1) := (blk_cell BK129.out 1).trans rfl; have hcz30_2 : w29.cell? ⟨gb129, 2, none⟩ = some (.string a0_2) := (blk_cell BK129.out 2).trans rfl; have hfz30_0 := blk_frozen BK129.out 0; have hfz30_1 := blk_frozen BK129.out 1; have hfz30_2 := blk_frozen BK129.out 2) | ((with_reducible refine gate_callee (f := 44) rfl ?_); refine goesL_ (some 5) rfl rfl Tryd.func44 (by kernel_rfl) rfl #[.int .i64 a0_0, .int .i64 1, .int .i64 7] rfl (by (try simp only [List.map_toArray, List.map_cons, List.map_nil]); first | done | rfl | (simp only [List.length_drop, List.length_take]; rfl)) ?_; (with_reducible refine (impl_in.calls a0_0 1 7 true _ A2.out).mono ?_); rintro e w' ⟨rfl, ⟨nd, rfl⟩⟩; refine ⟨_, rfl, ?_⟩) | (go_at_call 45; (with_reducible refine (impl_isNumber.calls a0_1 true _ A23.out).mono ?_); rintro e w' ⟨rfl, ⟨nd, rfl⟩⟩) | (go_at_call 21; (with_reducible refine (impl_NameOk.calls k a0_2 true _ A25.out).mono ?_); rintro e w' ⟨rfl, ⟨nd, rfl⟩⟩) | (go_at_call 40; (with_reducible refine (impl_refers.calls a0_0 true _ A27.out).mono ?_); rintro e w' ⟨rfl, ⟨nd, rfl⟩⟩))
           go_ret
           exact ⟨by first | rfl | (simp [errW_none, errW_some] <;> rfl) | (simp [*, errW_none, errW_some] <;> rfl), by repeat (first | (with_reducible first | exact HB.out | apply below_alloc | apply pw_below_drewN | apply below_drew1 | refine below_set ?_ GE129.out) | exact HB.out)⟩
         replace c28 := Bool.eq_false_iff.mpr c28
         subst c28
         have H1 : (if a0_2.toList = ([] : List UInt8) then (some (!false)) else (some false)) = some r := by rw [if_neg (show ¬ (false = true) by decide)] at H; exact H
         clear H
         have H := H1
         clear H1
         by_cases c31 : a0_2.toList = ([] : List UInt8)
         · rw [if_pos c31] at H
           have c31b0 : (a0_2.toList == ([] : List UInt8)) = true := beq_iff_eq.mpr c31
           have c31b1 : (a0_2.toList != ([] : List UInt8)) = false := bne_eq_false_iff_eq.mpr c31
           clear c31
           obtain rfl := Option.some.inj H
           go_enter Tryd.func15, Tryd.ntmps15
           go_wp2_with (first | ((with_reducible refine gate_dst (N := 1) rfl ?_); refine box_event ?hg (N := 1) ?hd (cs := #[.int .i64 a0_0, .int .i64 a0_1, .string a0_2]) (t := 26) ?hr ?_; (case hd => rfl); (case hg => rfl); (case hr => first | (go_simp; done) | (go_simp; rfl)); intro gb129 hg w32 hbox hb; have n0_ := Aside0.mk (below_step (by repeat (first | (with_reducible first | exact HB.out | apply below_alloc | apply pw_below_drewN | apply below_drew1) | exact HB.out)) hb); have n1_ := Aside0.mk (hbox); have n2_ := Aside0.mk ((by rw [hg]; exact (below_size (by repeat (first | (with_reducible first | exact HB.out | apply below_alloc | apply pw_below_drewN | apply below_drew1) | exact HB.out))) : w.heap.size ≤ gb129)); have n3_ := Aside0.mk ((by rw [hg]; exact (below_size (by repeat (first | (with_reducible first | exact HB.out | apply below_alloc | apply pw_below_drewN | apply below_drew1) | exact HB.out))) : w.heap.size ≤ gb129)); clear HB; have HB := n0_; have BK129 := n1_; have GW129 := n2_; have GE129 := n3_; clear n0_ n1_ n2_ n3_ hb hbox hg; have hcz33_0 : w32.cell? ⟨gb129, 0, none⟩ = some (.int .i64 a0_0) := (blk_cell BK129.out 0).trans rfl; have hcz33_1 : w32.cell? ⟨gb129, 1, none⟩ = some (.int .i64 a0_1) := (blk_cell BK129.out 1).trans rfl; have hcz33_2 : w32.cell? ⟨gb129, 2, none⟩ = some (.string a0_2) := (blk_cell BK129.out 2).trans rfl; have hfz33_0 := blk_frozen BK129.out 0; have hfz33_1 := blk_frozen BK129.out 1; have hfz33_2 := blk_frozen BK129.out 2) | ((with_reducible refine gate_callee (f := 44) rfl ?_); refine goesL_ (some 5) rfl rfl Tryd.func44 (by kernel_rfl) rfl #[.int .i64 a0_0, .int .i64 1, .int .i64 7] rfl (by (try simp only [List.map_toArray, List.map_cons, List.map_nil]); first | done | rfl | (simp only [List.length_drop, List.length_take]; rfl)) ?_; (with_reducible refine (impl_in.calls a0_0 1 7 true _ A2.out).mono ?_); rintro e w' ⟨rfl, ⟨nd, rfl⟩⟩; refine ⟨_, rfl, ?_⟩) | (go_at_call 45; (with_reducible refine (impl_isNumber.calls a0_1 true _ A23.out).mono ?_); rintro e w' ⟨rfl, ⟨nd, rfl⟩⟩) | (go_at_call 21; (with_reducible refine (impl_NameOk.calls k a0_2 true _ A25.out).mono ?_); rintro e w' ⟨rfl, ⟨nd, rfl⟩⟩) | (go_at_call 40; (with_reducible refine (impl_refers.calls a0_0 false _ A27.out).mono ?_); rintro e w' ⟨rfl, ⟨nd, rfl⟩⟩))
           go_ret
           exact ⟨by first | rfl | (simp [errW_none, errW_some] <;> rfl) | (simp [*, errW_none, errW_some] <;> rfl), by repeat (first | (with_reducible first | exact HB.out | apply below_alloc | apply pw_below_drewN | apply below_drew1 | refine below_set ?_ GE129.out) | exact HB.out)⟩
         rw [if_neg c31] at H
         have c31b0 : (a0_2.toList == ([] : List UInt8)) = false := beq_eq_false_iff_ne.mpr c31
         have c31b1 : (a0_2.toList != ([] : List UInt8)) = true := bne_iff_ne.mpr c31
         obtain rfl := Option.some.inj H
         go_enter Tryd.func15, Tryd.ntmps15
         go_wp2_with (first | ((with_reducible refine gate_dst (N := 1) rfl ?_); refine box_event ?hg (N := 1) ?hd (cs := #[.int .i64 a0_0, .int .i64 a0_1, .string a0_2]) (t := 26) ?hr ?_; (case hd => rfl); (case hg => rfl); (case hr => first | (go_simp; done) | (go_simp; rfl)); intro gb129 hg w34 hbox hb; have n0_ := Aside0.mk (below_step (by repeat (first | (with_reducible first | exact HB.out | apply below_alloc | apply pw_below_drewN | apply below_drew1) | exact HB.out)) hb); have n1_ := Aside0.mk (hbox); have n2_ := Aside0.mk ((by rw [hg]; exact (below_size (by repeat (first | (with_reducible first | exact HB.out | apply below_alloc | apply pw_below_drewN | apply below_drew1) | exact HB.out))) : w.heap.size ≤ gb129)); have n3_ := Aside0.mk ((by rw [hg]; exact (below_size (by repeat (first | (with_reducible first | exact HB.out | apply below_alloc | apply pw_below_drewN | apply below_drew1) | exact HB.out))) : w.heap.size ≤ gb129)); clear HB; have HB := n0_; have BK129 := n1_; have GW129 := n2_; have GE129 := n3_; clear n0_ n1_ n2_ n3_ hb hbox hg; have hcz35_0 : w34.cell? ⟨gb129, 0, none⟩ = some (.int .i64 a0_0) := (blk_cell BK129.out 0).trans rfl; have hcz35_1 : w34.cell? ⟨gb129, 1, none⟩ = some (.int .i64 a0_1) := (blk_cell BK129.out 1).trans rfl; have hcz35_2 : w34.cell? ⟨gb129, 2, none⟩ = some (.string a0_2) := (blk_cell BK129.out 2).trans rfl; have hfz35_0 := blk_frozen BK129.out 0; have hfz35_1 := blk_frozen BK129.out 1; have hfz35_2 := blk_frozen BK129.out 2) | ((with_reducible refine gate_callee (f := 44) rfl ?_); refine goesL_ (some 5) rfl rfl Tryd.func44 (by kernel_rfl) rfl #[.int .i64 a0_0, .int .i64 1, .int .i64 7] rfl (by (try simp only [List.map_toArray, List.map_cons, List.map_nil]); first | done | rfl | (simp only [List.length_drop, List.length_take]; rfl)) ?_; (with_reducible refine (impl_in.calls a0_0 1 7 true _ A2.out).mono ?_); rintro e w' ⟨rfl, ⟨nd, rfl⟩⟩; refine ⟨_, rfl, ?_⟩) | (go_at_call 45; (with_reducible refine (impl_isNumber.calls a0_1 true _ A23.out).mono ?_); rintro e w' ⟨rfl, ⟨nd, rfl⟩⟩) | (go_at_call 21; (with_reducible refine (impl_NameOk.calls k a0_2 true _ A25.out).mono ?_); rintro e w' ⟨rfl, ⟨nd, rfl⟩⟩) | (go_at_call 40; (with_reducible refine (impl_refers.calls a0_0 false _ A27.out).mono ?_); rintro e w' ⟨rfl, ⟨nd, rfl⟩⟩))
         go_ret
         exact ⟨by first | rfl | (simp [errW_none, errW_some] <;> rfl) | (simp [*, errW_none, errW_some] <;> rfl), by repeat (first | (with_reducible first | exact HB.out | apply below_alloc | apply pw_below_drewN | apply below_drew1 | refine below_set ?_ GE129.out) | exact HB.out)⟩
       replace c26 := Bool.eq_false_iff.mpr c26
       subst c26
       have H1 : (if a0_2.toList = ([] : List UInt8) then ((impl_refers.f a0_0).bind fun t137 => (some (!t137))) else (some false)) = some r := by rw [if_neg (show ¬ (false = true) by decide)] at H; exact H
       clear H
       have H := H1
       clear H1
       by_cases c36 : a0_2.toList = ([] : List UInt8)
       · rw [if_pos c36] at H
         have c36b0 : (a0_2.toList == ([] : List UInt8)) = true := beq_iff_eq.mpr c36
         have c36b1 : (a0_2.toList != ([] : List UInt8)) = false := bne_eq_false_iff_eq.mpr c36
         clear c36
         replace H := Option.bind_eq_some_iff.mp H
         obtain ⟨t137, A370, H⟩ := H
         replace H : (some (!t137)) = some r := H
         have A37 := Aside0.mk A370; clear A370
         obtain rfl := Option.some.inj H
         go_enter Tryd.func15, Tryd.ntmps15
         go_wp2_with (first | ((with_reducible refine gate_dst (N := 1) rfl ?_); refine box_event ?hg (N := 1) ?hd (cs := #[.int .i64 a0_0, .int .i64 a0_1, .string a0_2]) (t := 26) ?hr ?_; (case hd => rfl); (case hg => rfl); (case hr => first | (go_simp; done) | (go_simp; rfl)); intro gb129 hg w38 hbox hb; have n0_ := Aside0.mk (below_step (by repeat (first | (with_reducible first | exact HB.out | apply below_alloc | apply pw_below_drewN | apply below_drew1) | exact HB.out)) hb); have n1_ := Aside0.mk (hbox); have n2_ := Aside0.mk ((by rw [hg]; exact (below_size (by repeat (first | (with_reducible first | exact HB.out | apply below_alloc | apply pw_below_drewN | apply below_drew1) | exact HB.out))) : w.heap.size ≤ gb129)); have n3_ := Aside0.mk ((by rw [hg]; exact (below_size (by repeat (first | (with_reducible first | exact HB.out | apply below_alloc | apply pw_below_drewN | apply below_drew1) | exact HB.out))) : w.heap.size ≤ gb129)); clear HB; have HB := n0_; have BK129 := n1_; have GW129 := n2_; have GE129 := n3_; clear n0_ n1_ n2_ n3_ hb hbox hg; have hcz39_0 : w38.cell? ⟨gb129, 0, none⟩ = some (.int .i64 a0_0) := (blk_cell BK129.out 0).trans rfl; have hcz39_1 : w38.cell? ⟨gb129, 1, none⟩ = some (.int .i64 a0_1) := (blk_cell BK129.out 1).trans rfl; have hcz39_2 : w38.cell? ⟨gb129, 2, none⟩ = some (.string a0_2) := (blk_cell BK129.out 2).trans rfl; have hfz39_0 := blk_frozen BK129.out 0; have hfz39_1 := blk_frozen BK129.out 1; have hfz39_2 := blk_frozen BK129.out 2) | ((with_reducible refine gate_callee (f := 44) rfl ?_); refine goesL_ (some 5) rfl rfl Tryd.func44 (by kernel_rfl) rfl #[.int .i64 a0_0, .int .i64 1, .int .i64 7] rfl (by (try simp only [List.map_toArray, List.map_cons, List.map_nil]); first | done | rfl | (simp only [List.length_drop, List.length_take]; rfl)) ?_; (with_reducible refine (impl_in.calls a0_0 1 7 true _ A2.out).mono ?_); rintro e w' ⟨rfl, ⟨nd, rfl⟩⟩; refine ⟨_, rfl, ?_⟩) | (go_at_call 45; (with_reducible refine (impl_isNumber.calls a0_1 true _ A23.out).mono ?_); rintro e w' ⟨rfl, ⟨nd, rfl⟩⟩) | (go_at_call 21; (with_reducible refine (impl_NameOk.calls k a0_2 false _ A25.out).mono ?_); rintro e w' ⟨rfl, ⟨nd, rfl⟩⟩) | (go_at_call 40; (with_reducible refine (impl_refers.calls a0_0 t137 _ A37.out).mono ?_); rintro e w' ⟨rfl, ⟨nd, rfl⟩⟩))
         go_ret
         exact ⟨by first | rfl | (simp [errW_none, errW_some] <;> rfl) | (simp [*, errW_none, errW_some] <;> rfl), by repeat (first | (with_reducible first | exact HB.out | apply below_alloc | apply pw_below_drewN | apply below_drew1 | refine below_set ?_ GE129.out) | exact HB.out)⟩
       rw [if_neg c36] at H
       have c36b0 : (a0_2.toList == ([] : List UInt8)) = false := beq_eq_false_iff_ne.mpr c36
       have c36b1 : (a0_2.toList != ([] : List UInt8)) = true := bne_iff_ne.mpr c36
       obtain rfl := Option.some.inj H
       go_enter Tryd.func15, Tryd.ntmps15
       go_wp2_with (first | ((with_reducible refine gate_dst (N := 1) rfl ?_); refine box_event ?hg (N := 1) ?hd (cs := #[.int .i64 a0_0, .int .i64 a0_1, .string a0_2]) (t := 26) ?hr ?_; (case hd => rfl); (case hg => rfl); (case hr => first | (go_simp; done) | (go_simp; rfl)); intro gb129 hg w40 hbox hb; have n0_ := Aside0.mk (below_step (by repeat (first | (with_reducible first | exact HB.out | apply below_alloc | apply pw_below_drewN | apply below_drew1) | exact HB.out)) hb); have n1_ := Aside0.mk (hbox); have n2_ := Aside0.mk ((by rw [hg]; exact (below_size (by repeat (first | (with_reducible first | exact HB.out | apply below_alloc | apply pw_below_drewN | apply below_drew1) | exact HB.out))) : w.heap.size ≤ gb129)); have n3_ := Aside0.mk ((by rw [hg]; exact (below_size (by repeat (first | (with_reducible first | exact HB.out | apply below_alloc | apply pw_below_drewN | apply below_drew1) | exact HB.out))) : w.heap.size ≤ gb129)); clear HB; have HB := n0_; have BK129 := n1_; have GW129 := n2_; have GE129 := n3_; clear n0_ n1_ n2_ n3_ hb hbox hg; have hcz41_0 : w40.cell? ⟨gb129, 0, none⟩ = some (.int .i64 a0_0) := (blk_cell BK129.out 0).trans rfl; have hcz41_1 : w40.cell? ⟨gb129, 1, none⟩ = some (.int .i64 a0_1) := (blk_cell BK129.out 1).trans rfl; have hcz41_2 : w40.cell? ⟨gb129, 2, none⟩ = some (.string a0_2) := (blk_cell BK129.out 2).trans rfl; have hfz41_0 := blk_frozen BK129.out 0; have hfz41_1 := blk_frozen BK129.out 1; have hfz41_2 := blk_frozen BK129.out 2) | ((with_reducible refine gate_callee (f := 44) rfl ?_); refine goesL_ (some 5) rfl rfl Tryd.func44 (by kernel_rfl) rfl #[.int .i64 a0_0, .int .i64 1, .int .i64 7] rfl (by (try simp only [List.map_toArray, List.map_cons, List.map_nil]); first | done | rfl | (simp only [List.length_drop, List.length_take]; rfl)) ?_; (with_reducible refine (impl_in.calls a0_0 1 7 true _ A2.out).mono ?_); rintro e w' ⟨rfl, ⟨nd, rfl⟩⟩; refine ⟨_, rfl, ?_⟩) | (go_at_call 45; (with_reducible refine (impl_isNumber.calls a0_1 true _ A23.out).mono ?_); rintro e w' ⟨rfl, ⟨nd, rfl⟩⟩) | (go_at_call 21; (with_reducible refine (impl_NameOk.calls k a0_2 false _ A25.out).mono ?_); rintro e w' ⟨rfl, ⟨nd, rfl⟩⟩))
       go_ret
       exact ⟨by first | rfl | (simp [errW_none, errW_some] <;> rfl) | (simp [*, errW_none, errW_some] <;> rfl), by repeat (first | (with_reducible first | exact HB.out | apply below_alloc | apply pw_below_drewN | apply below_drew1 | refine below_set ?_ GE129.out) | exact HB.out)⟩
     replace c24 := Bool.eq_false_iff.mpr c24
     subst c24
     have H1 : (some false) = some r := by rw [if_neg (show ¬ (false = true) by decide)] at H; exact H
     clear H
     have H := H1
     clear H1
     obtain rfl := Option.some.inj H
     go_enter Tryd.func15, Tryd.ntmps15
     go_wp2_with (first | ((with_reducible refine gate_dst (N := 1) rfl ?_); refine box_event ?hg (N := 1) ?hd (cs := #[.int .i64 a0_0, .int .i64 a0_1, .string a0_2]) (t := 26) ?hr ?_; (case hd => rfl); (case hg => rfl); (case hr => first | (go_simp; done) | (go_simp; rfl)); intro gb129 hg w42 hbox hb; have n0_ := Aside0.mk (below_step (by repeat (first | (with_reducible first | exact HB.out | apply below_alloc | apply pw_below_drewN | apply below_drew1) | exact HB.out)) hb); have n1_ := Aside0.mk (hbox); have n2_ := Aside0.mk ((by rw [hg]; exact (below_size (by repeat (first | (with_reducible first | exact HB.out | apply below_alloc | apply pw_below_drewN | apply below_drew1) | exact HB.out))) : w.heap.size ≤ gb129)); have n3_ := Aside0.mk ((by rw [hg]; exact (below_size (by repeat (first | (with_reducible first | exact HB.out | apply below_alloc | apply pw_below_drewN | apply below_drew1) | exact HB.out))) : w.heap.size ≤ gb129)); clear HB; have HB := n0_; have BK129 := n1_; have GW129 := n2_; have GE129 := n3_; clear n0_ n1_ n2_ n3_ hb hbox hg; have hcz43_0 : w42.cell? ⟨gb129, 0, none⟩ = some (.int .i64 a0_0) := (blk_cell BK129.out 0).trans rfl; have hcz43_1 : w42.cell? ⟨gb129, 1, none⟩ = some (.int .i64 a0_1) := (blk_cell BK129.out 1).trans rfl; have hcz43_2 : w42.cell? ⟨gb129, 2, none⟩ = some (.string a0_2) := (blk_cell BK129.out 2).trans rfl; have hfz43_0 := blk_frozen BK129.out 0; have hfz43_1 := blk_frozen BK129.out 1; have hfz43_2 := blk_frozen BK129.out 2) | ((with_reducible refine gate_callee (f := 44) rfl ?_); refine goesL_ (some 5) rfl rfl Tryd.func44 (by kernel_rfl) rfl #[.int .i64 a0_0, .int .i64 1, .int .i64 7] rfl (by (try simp only [List.map_toArray, List.map_cons, List.map_nil]); first | done | rfl | (simp only [List.length_drop, List.length_take]; rfl)) ?_; (with_reducible refine (impl_in.calls a0_0 1 7 true _ A2.out).mono ?_); rintro e w' ⟨rfl, ⟨nd, rfl⟩⟩; refine ⟨_, rfl, ?_⟩) | (go_at_call 45; (with_reducible refine (impl_isNumber.calls a0_1 false _ A23.out).mono ?_); rintro e w' ⟨rfl, ⟨nd, rfl⟩⟩))
     go_ret
     exact ⟨by first | rfl | (simp [errW_none, errW_some] <;> rfl) | (simp [*, errW_none, errW_some] <;> rfl), by repeat (first | (with_reducible first | exact HB.out | apply below_alloc | apply pw_below_drewN | apply below_drew1 | refine below_set ?_ GE129.out) | exact HB.out)⟩
   rw [if_neg c22] at H
   have c22b0 : (a0_0 == 2) = false := beq_eq_false_iff_ne.mpr c22
   have c22b1 : (a0_0 != 2) = true := bne_iff_ne.mpr c22
   obtain rfl := Option.some.inj H
   go_enter Tryd.func15, Tryd.ntmps15
   go_wp2_with (first | ((with_reducible refine gate_dst (N := 1) rfl ?_); refine box_event ?hg (N := 1) ?hd (cs := #[.int .i64 a0_0, .int .i64 a0_1, .string a0_2]) (t := 26) ?hr ?_; (case hd => rfl); (case hg => rfl); (case hr => first | (go_simp; done) | (go_simp; rfl)); intro gb129 hg w44 hbox hb; have n0_ := Aside0.mk (below_step (by repeat (first | (with_reducible first | exact HB.out | apply below_alloc | apply pw_below_drewN | apply below_drew1) | exact HB.out)) hb); have n1_ := Aside0.mk (hbox); have n2_ := Aside0.mk ((by rw [hg]; exact (below_size (by repeat (first | (with_reducible first | exact HB.out | apply below_alloc | apply pw_below_drewN | apply below_drew1) | exact HB.out))) : w.heap.size ≤ gb129)); have n3_ := Aside0.mk ((by rw [hg]; exact (below_size (by repeat (first | (with_reducible first | exact HB.out | apply below_alloc | apply pw_below_drewN | apply below_drew1) | exact HB.out))) : w.heap.size ≤ gb129)); clear HB; have HB := n0_; have BK129 := n1_; have GW129 := n2_; have GE129 := n3_; clear n0_ n1_ n2_ n3_ hb hbox hg; have hcz45_0 : w44.cell? ⟨gb129, 0, none⟩ = some (.int .i64 a0_0) := (blk_cell BK129.out 0).trans rfl; have hcz45_1 : w44.cell? ⟨gb129, 1, none⟩ = some (.int .i64 a0_1) := (blk_cell BK129.out 1).trans rfl; have hcz45_2 : w44.cell? ⟨gb129, 2, none⟩ = some (.string a0_2) := (blk_cell BK129.out 2).trans rfl; have hfz45_0 := blk_frozen BK129.out 0; have hfz45_1 := blk_frozen BK129.out 1; have hfz45_2 := blk_frozen BK129.out 2) | ((with_reducible refine gate_callee (f := 44) rfl ?_); refine goesL_ (some 5) rfl rfl Tryd.func44 (by kernel_rfl) rfl #[.int .i64 a0_0, .int .i64 1, .int .i64 7] rfl (by (try simp only [List.map_toArray, List.map_cons, List.map_nil]); first | done | rfl | (simp only [List.length_drop, List.length_take]; rfl)) ?_; (with_reducible refine (impl_in.calls a0_0 1 7 true _ A2.out).mono ?_); rintro e w' ⟨rfl, ⟨nd, rfl⟩⟩; refine ⟨_, rfl, ?_⟩))
   go_ret
   exact ⟨by first | rfl | (simp [errW_none, errW_some] <;> rfl) | (simp [*, errW_none, errW_some] <;> rfl), by repeat (first | (with_reducible first | exact HB.out | apply below_alloc | apply pw_below_drewN | apply below_drew1 | refine below_set ?_ GE129.out) | exact HB.out)⟩
 replace c3 := Bool.eq_false_iff.mpr c3
 subst c3
 have H1 : (some false) = some r := by rw [if_neg (show ¬ (false = true) by decide)] at H; exact H
 clear H
 have H := H1
 clear H1
 obtain rfl := Option.some.inj H
 go_enter Tryd.func15, Tryd.ntmps15
 go_wp2_with (first | ((with_reducible refine gate_dst (N := 1) rfl ?_); refine box_event ?hg (N := 1) ?hd (cs := #[.int .i64 a0_0, .int .i64 a0_1, .string a0_2]) (t := 26) ?hr ?_; (case hd => rfl); (case hg => rfl); (case hr => first | (go_simp; done) | (go_simp; rfl)); intro gb129 hg w46 hbox hb; have n0_ := Aside0.mk (below_step (by repeat (first | (with_reducible first | exact HB.out | apply below_alloc | apply pw_below_drewN | apply below_drew1) | exact HB.out)) hb); have n1_ := Aside0.mk (hbox); have n2_ := Aside0.mk ((by rw [hg]; exact (below_size (by repeat (first | (with_reducible first | exact HB.out | apply below_alloc | apply pw_below_drewN | apply below_drew1) | exact HB.out))) : w.heap.size ≤ gb129)); have n3_ := Aside0.mk ((by rw [hg]; exact (below_size (by repeat (first | (with_reducible first | exact HB.out | apply below_alloc | apply pw_below_drewN | apply below_drew1) | exact HB.out))) : w.heap.size ≤ gb129)); clear HB; have HB := n0_; have BK129 := n1_; have GW129 := n2_; have GE129 := n3_; clear n0_ n1_ n2_ n3_ hb hbox hg; have hcz47_0 : w46.cell? ⟨gb129, 0, none⟩ = some (.int .i64 a0_0) := (blk_cell BK129.out 0).trans rfl; have hcz47_1 : w46.cell? ⟨gb129, 1, none⟩ = some (.int .i64 a0_1) := (blk_cell BK129.out 1).trans rfl; have hcz47_2 : w46.cell? ⟨gb129, 2, none⟩ = some (.string a0_2) := (blk_cell BK129.out 2).trans rfl; have hfz47_0 := blk_frozen BK129.out 0; have hfz47_1 := blk_frozen BK129.out 1; have hfz47_2 := blk_frozen BK129.out 2) | ((with_reducible refine gate_callee (f := 44) rfl ?_); refine goesL_ (some 5) rfl rfl Tryd.func44 (by kernel_rfl) rfl #[.int .i64 a0_0, .int .i64 1, .int .i64 7] rfl (by (try simp only [List.map_toArray, List.map_cons, List.map_nil]); first | done | rfl | (simp only [List.length_drop, List.length_take]; rfl)) ?_; (with_reducible refine (impl_in.calls a0_0 1 7 false _ A2.out).mono ?_); rintro e w' ⟨rfl, ⟨nd, rfl⟩⟩; refine ⟨_, rfl, ?_⟩))
 go_ret
 exact ⟨by first | rfl | (simp [errW_none, errW_some] <;> rfl) | (simp [*, errW_none, errW_some] <;> rfl), by repeat (first | (with_reducible first | exact HB.out | apply below_alloc | apply pw_below_drewN | apply below_drew1 | refine below_set ?_ GE129.out) | exact HB.out)⟩

/-! ### impl_word: function 38 -/
def impl_word.f (a0 : Int) : Option (ByteArray) := (some (([(⟨#[]⟩ : ByteArray), (⟨#[115, 97, 121]⟩ : ByteArray), (⟨#[97, 100, 100]⟩ : ByteArray), (⟨#[99, 97, 108, 108]⟩ : ByteArray), (⟨#[103, 111]⟩ : ByteArray), (⟨#[105, 102]⟩ : ByteArray), (⟨#[114, 101, 116]⟩ : ByteArray), (⟨#[101, 110, 100]⟩ : ByteArray), (⟨#[102, 97, 114]⟩ : ByteArray)] : List ByteArray) : List ByteArray)).bind fun y138 => (if 0 ≤ a0 then (if a0 < (y138.length : Int) then (some (rdOf ByteArray.empty y138 a0)) else (none)) else (none))
end Go.Proofs.YtajhjdhkeahlpaaDoor.P

-- made by printx.py (own driver over the kit's print); Lean checks it
namespace Go.Proofs.YtajhjdhkeahlpaaDoor.P
open Go.RowKit Go.Proofs.YtajhjdhkeahlpaaDoorW.PrintWords Go.Proofs.YtajhjdhkeahlpaaDoorW.PrintLast Go.Proofs.YtajhjdhkeahlpaaDoorW.PrintMore
attribute [local go_sem] max2_int min2_int max_two min_two max_three min_three max_four min_four   -- for this text's walks alone
set_option linter.unusedVariables false
set_option linter.unusedSimpArgs false

/-! ### slices_IndexFunc_simpl_Ins_impl_Ins: function 90 -/
-- IMPORT Derived.Test.YtajhjdhkeahlpaaDoorLSeq
open Go.Proofs.YtajhjdhkeahlpaaDoor.L in
set_option maxHeartbeats 4000000 in
set_option maxRecDepth 100000 in
theorem idxIns_calls (A0 : Option Addr) (c0 : Nat) (l0 : List S26) (lb : Array Value) (p : S26 → Bool) (w : World) (hr0 : Kd.C k26 w A0 l0.length l0) (hc0 : l0.length ≤ c0)
    (hp : ∀ (W : World) (x : S26) , Below w.heap.size w W → x ∈ l0 → Calls Tryd.prog 79 ((#[.agg #[.int .i64 x.f0, .int .i64 x.f1, .string x.f2]] : Array Value) ++ lb) W fun e w' => e = .returned (.bool (p x)) ∧ Below W.heap.size W w') :
    Calls Tryd.prog 90 #[.slice A0 l0.length c0, .func (.func 79) #[] lb] w fun e w' => e = .returned (.int .i64 (idxFrom p l0 0)) ∧ Below w.heap.size w w' := by
  have HR0 := Aside0.mk hr0
  have HN : l0.length ≤ 9223372036854775807 := hr0.2.1
  have HPP := Aside0.mk hp
  clear hr0 hp
  go_enter Tryd.func90, Tryd.ntmps90
  go_wp2
  go_loopg [5, 8] l0.length (fun gg _ s8 wr => ∃ kk : Nat, s8 = .int .i64 kk ∧ Aside0 (kk ≤ l0.length) ∧ Aside0 (l0.length - kk ≤ gg) ∧ Aside0 (Below w.heap.size w wr) ∧ Aside0 (∀ i, i < kk → p (l0.getD i z26) = false))
  case atStart => exact ⟨0, rfl, ⟨Nat.zero_le _⟩, ⟨by omega⟩, ⟨Below.refl _ w⟩, ⟨fun i hi => absurd hi (Nat.not_lt_zero _)⟩⟩
  case round =>
    obtain ⟨kk, rfl, HK, HG, HB, HP⟩ := hrel
    by_cases hlt : kk < l0.length
    · obtain ⟨ad, e, hx0, hx1, hx2⟩ := at_T26 HR0.out kk (by omega) (by omega)
      cases e
      have hy0 := pw_cell_below HB.out hx0
      have hy1 := pw_cell_below HB.out hx1
      have hy2 := pw_cell_below HB.out hx2
      simp only [Int.toNat_natCast] at hy0 hy1 hy2
      have hcall := HPP.out wr (rd_T26 l0 (kk : Int)) HB.out (by show l0.getD (kk : Int).toNat z26 ∈ l0; rw [Int.toNat_natCast]; exact getD_mem hlt)
      clear hx0 hx1 hx2
      have hlb : decide (kk < l0.length) = true := decide_eq_true hlt
      have hli : decide ((kk : Int) < (l0.length : Int)) = true := decide_eq_true (by omega)
      have hq2 : p (rd_T26 l0 (kk : Int)) = p (l0.getD kk z26) := by show p (l0.getD (kk : Int).toNat z26) = _; rw [Int.toNat_natCast]
      rw [hq2] at hcall
      clear hq2
      cases hq : p (l0.getD kk z26) with
      | true =>
        rw [hq] at hcall
        have HQ := Aside0.mk hq
        clear hq
        go_wp2_with (go_at_call 79; refine hcall.mono ?_; rintro e w' ⟨rfl, hb'⟩)
        go_ret
        refine ⟨?_, below_then HB.out HB.out.size hb'⟩
        rw [idxFrom_hit _ z26 l0 0 kk hlt HP.out HQ.out]
        simp
      | false =>
        rw [hq] at hcall
        have HQ := Aside0.mk hq
        clear hq
        go_wp2_with (go_at_call 79; refine hcall.mono ?_; rintro e w' ⟨rfl, hb'⟩)
        go_roundg (l0.length - (kk + 1))
        case measure => have := HG.out; omega
        case rel =>
          refine ⟨kk + 1, by go_num, ⟨by omega⟩, ⟨Nat.le_refl _⟩, ⟨below_then HB.out HB.out.size hb'⟩, ⟨fun i hi => ?_⟩⟩
          by_cases e : i = kk
          · subst e
            exact HQ.out
          · exact HP.out i (by omega)
    · have hlb : decide (kk < l0.length) = false := decide_eq_false hlt
      have hli : decide ((kk : Int) < (l0.length : Int)) = false := decide_eq_false (by omega)
      go_wp2
      go_ret
      refine ⟨?_, HB.out⟩
      rw [idxFrom_miss _ z26 l0 0 (fun i hi => HP.out i (by have := HK.out; omega))]
      rfl

end Go.Proofs.YtajhjdhkeahlpaaDoor.P

-- made by printx.py (own driver over the kit's print); Lean checks it
namespace Go.Proofs.YtajhjdhkeahlpaaDoor.P
open Go.RowKit Go.Proofs.YtajhjdhkeahlpaaDoorW.PrintWords Go.Proofs.YtajhjdhkeahlpaaDoorW.PrintLast Go.Proofs.YtajhjdhkeahlpaaDoorW.PrintMore
attribute [local go_sem] max2_int min2_int max_two min_two max_three min_three max_four min_four   -- for this text's walks alone
set_option linter.unusedVariables false
set_option linter.unusedSimpArgs false

/-! ### slices_ContainsFunc_simpl_Ins_impl_Ins: function 78 -/
open Go.Proofs.YtajhjdhkeahlpaaDoor.L in
set_option maxHeartbeats 4000000 in
set_option maxRecDepth 100000 in
theorem anyIns_calls (A0 : Option Addr) (c0 : Nat) (l0 : List S26) (lb : Array Value) (p : S26 → Bool) (w : World) (hr0 : Kd.C k26 w A0 l0.length l0) (hc0 : l0.length ≤ c0)
    (hp : ∀ (W : World) (x : S26) , Below w.heap.size w W → x ∈ l0 → Calls Tryd.prog 79 ((#[.agg #[.int .i64 x.f0, .int .i64 x.f1, .string x.f2]] : Array Value) ++ lb) W fun e w' => e = .returned (.bool (p x)) ∧ Below W.heap.size W w') :
    Calls Tryd.prog 78 #[.slice A0 l0.length c0, .func (.func 79) #[] lb] w fun e w' => e = .returned (.bool (l0.any p)) ∧ Below w.heap.size w w' := by
  rw [← idxFrom_any p l0 0 (by decide)]
  have HC := Aside0.mk (idxIns_calls A0 c0 l0 lb p w hr0 hc0 hp)
  clear hr0 hp
  go_enter Tryd.func78, Tryd.ntmps78
  go_wp2_with (go_at_call 90; refine HC.out.mono ?_; rintro e w' ⟨rfl, hb'⟩)
  go_ret
  exact ⟨rfl, hb'⟩

end Go.Proofs.YtajhjdhkeahlpaaDoor.P

-- made by printx.py (own driver over the kit's print); Lean checks it
namespace Go.Proofs.YtajhjdhkeahlpaaDoor.P
open Go.RowKit Go.Proofs.YtajhjdhkeahlpaaDoorW.PrintWords Go.Proofs.YtajhjdhkeahlpaaDoorW.PrintLast Go.Proofs.YtajhjdhkeahlpaaDoorW.PrintMore
attribute [local go_sem] max2_int min2_int max_two min_two max_three min_three max_four min_four   -- for this text's walks alone
set_option linter.unusedVariables false
set_option linter.unusedSimpArgs false

/-! ### laws_szIns: function 9 -/
def laws_szIns.f (a0_0 : Int) (a0_1 : Int) (a0_2 : ByteArray) (a1 : Int) : Option (Int) := if (wrap64 (a1 - (a0_2.size : Int))) < 0 then (some (-1)) else (some (wrap64 (a1 - (a0_2.size : Int))))
/-! ### laws_toIns: function 11 -/
def laws_toIns.f (a0_0 : Int) (a0_1 : Int) (a0_2 : ByteArray) : Option (Int × Int × ByteArray) := some (a0_0, a0_1, a0_2)
end Go.Proofs.YtajhjdhkeahlpaaDoor.P

-- made by printx.py (own driver over the kit's print); Lean checks it
namespace Go.Proofs.YtajhjdhkeahlpaaDoor.P
open Go.RowKit Go.Proofs.YtajhjdhkeahlpaaDoorW.PrintWords Go.Proofs.YtajhjdhkeahlpaaDoorW.PrintLast Go.Proofs.YtajhjdhkeahlpaaDoorW.PrintMore
attribute [local go_sem] max2_int min2_int max_two min_two max_three min_three max_four min_four   -- for this text's walks alone
set_option linter.unusedVariables false
set_option linter.unusedSimpArgs false

/-! ### spec_DrawInsOk: function 13 -/
def spec_DrawInsOk.f (k : Nat) (l0 : List Int) : Option (Int × Int × ByteArray) := (spec_l13Open.f l0).bind fun bt218 => ((spec_l1Bent.f k bt218.1 bt218.2).bind fun bt221 => (some (bt221.1, bt221.2.1, bt221.2.2.1)))
/-! ### spec_DrawNameOk: function 14 -/
def spec_DrawNameOk.f (k : Nat) (l0 : List Int) : Option (ByteArray) := (spec_l13Open.f l0).bind fun bt225 => ((spec_l13Rd_of.f k bt225.1 bt225.2 (([(⟨#[97]⟩ : ByteArray), (⟨#[109, 97, 105, 110]⟩ : ByteArray), (⟨#[]⟩ : ByteArray), (⟨#[97, 98, 99, 100, 101, 102]⟩ : ByteArray), (⟨#[97, 98, 99, 100, 101, 102, 103]⟩ : ByteArray), (⟨#[65]⟩ : ByteArray), (⟨#[97, 49]⟩ : ByteArray), (⟨#[122, 122]⟩ : ByteArray)] : List ByteArray))).bind fun bt231 => (some bt231.1))
/-! ### impl_InsRefs: function 17 -/
def impl_InsRefs.f (a0_0 : Int) (a0_1 : Int) (a0_2 : ByteArray) : Option (Bool) := (impl_refers.f a0_0).bind fun t234 => (some t234)
end Go.Proofs.YtajhjdhkeahlpaaDoor.P

-- made by printx.py (own driver over the kit's print); Lean checks it
namespace Go.Proofs.YtajhjdhkeahlpaaDoor.P
open Go.RowKit Go.Proofs.YtajhjdhkeahlpaaDoorW.PrintWords Go.Proofs.YtajhjdhkeahlpaaDoorW.PrintLast Go.Proofs.YtajhjdhkeahlpaaDoorW.PrintMore
attribute [local go_sem] max2_int min2_int max_two min_two max_three min_three max_four min_four   -- for this text's walks alone
set_option linter.unusedVariables false
set_option linter.unusedSimpArgs false

/-! ### spec_InsRefs: function 18 -/
def spec_InsRefs.f (a0_0 : Int) (a0_1 : Int) (a0_2 : ByteArray) : Option (Bool) := if a0_0 = 3 then (some true) else (if a0_0 = 4 then (some true) else (some (a0_0 == 5)))
end Go.Proofs.YtajhjdhkeahlpaaDoor.P

/- What the printed functions on instructions compute: names, classes, sums. -/
namespace Go.Proofs.YtajhjdhkeahlpaaDoor.L
open Go.RowKit Go.Proofs.YtajhjdhkeahlpaaDoorW.PrintWords Go.Proofs.YtajhjdhkeahlpaaDoorW.PrintLast Go.Proofs.YtajhjdhkeahlpaaDoorW.PrintMore Go.Proofs.YtajhjdhkeahlpaaDoor.P
set_option linter.unusedVariables false
set_option linter.unusedSimpArgs false

/-- Are the bytes from place i on, d of them, letters from a to z? -/
def okFrom (s : ByteArray) : Nat → Int → Bool
  | 0, _ => true
  | d + 1, i => (decide (97 ≤ bt s i) && decide (bt s i ≤ 122)) && okFrom s d (i + 1)
def nameOk (s : ByteArray) : Bool := okFrom s s.size 0 && (decide (1 ≤ s.size) && decide (s.size ≤ 6))
theorem okFrom_lo (s : ByteArray) (d : Nat) (i : Int) (h : bt s i < 97) : okFrom s (d + 1) i = false := by
  have : ¬ 97 ≤ bt s i := by omega
  simp [okFrom, this]
theorem okFrom_hi (s : ByteArray) (d : Nat) (i : Int) (h : bt s i > 122) : okFrom s (d + 1) i = false := by
  have : ¬ bt s i ≤ 122 := by omega
  simp [okFrom, this]
theorem okFrom_in (s : ByteArray) (d : Nat) (i : Int) (h : ¬ bt s i < 97) (h' : ¬ bt s i > 122) : okFrom s (d + 1) i = okFrom s d (i + 1) := by
  have : 97 ≤ bt s i := by omega
  have : bt s i ≤ 122 := by omega
  simp [okFrom, *]

def refersB (a : Int) : Bool := decide (3 ≤ a) && decide (a ≤ 5)
def lastB (a : Int) : Bool := if a = 4 then true else if a = 6 then true else a == 7
/-- Is it ok? -/
def insOkB (op n : Int) (s : ByteArray) : Bool :=
  (decide (1 ≤ op) && decide (op ≤ 7)) && ((decide (n = 0) || decide (op = 2) && (decide (-1000 ≤ n) && decide (n ≤ 1000))) && (if refersB op = true then nameOk s else s.toList == ([] : List UInt8)))
theorem spec_NameOk_l0 (s : ByteArray) (hs : s.size ≤ 140737488351232) : ∀ (d k : Nat) (i : Int), 0 ≤ i → i + d = s.size → d < k →
    spec_NameOk.l0 k s i = some (okFrom s d i && (decide (1 ≤ s.size) && decide (s.size ≤ 6))) := by
  intro d
  induction d with
  | zero =>
    intro k i h0 h1 hk
    obtain ⟨m, rfl, _⟩ := succ_of hk
    simp only [spec_NameOk.l0]
    rw [if_neg (by omega)]
    by_cases h : (s.size : Int) ≥ 1
    · rw [if_pos h]
      have e1 : 1 ≤ s.size := by omega
      by_cases h6 : s.size ≤ 6
      · have e2 : (s.size : Int) ≤ 6 := by omega
        simp [okFrom, e1, e2, h6]
      · have e2 : ¬ (s.size : Int) ≤ 6 := by omega
        simp [okFrom, e1, e2, h6]
    · rw [if_neg h]
      have e1 : ¬ 1 ≤ s.size := by omega
      simp [okFrom, e1]
  | succ d ih =>
    intro k i h0 h1 hk
    obtain ⟨m, rfl, _⟩ := succ_of hk
    simp only [spec_NameOk.l0]
    rw [if_pos (by omega), if_pos h0]
    by_cases hl : bt s i < 97
    · rw [if_pos hl, okFrom_lo s d i hl]; rfl
    · rw [if_neg hl]
      by_cases hh : bt s i > 122
      · rw [if_pos hh, okFrom_hi s d i hh]; rfl
      · rw [if_neg hh, okFrom_in s d i hl hh, wrap_id (by omega) (by omega)]
        exact ih m (i + 1) (by omega) (by omega) (by omega)
theorem spec_NameOk_f (s : ByteArray) (hs : s.size ≤ 140737488351232) (k : Nat) (hk : s.size < k) : spec_NameOk.f k s = some (nameOk s) := by
  unfold spec_NameOk.f nameOk
  exact spec_NameOk_l0 s hs s.size k 0 (by omega) (by omega) hk
theorem impl_in_f (a b c : Int) : impl_in.f a b c = some (decide (b ≤ a) && decide (a ≤ c)) := by
  unfold impl_in.f
  by_cases h : b ≤ a <;> simp [h]
theorem impl_NameOk_l0 (s : ByteArray) (hs : s.size ≤ 140737488351232) : ∀ (d k : Nat) (i : Int), 0 ≤ i → i + d = s.size → d < k →
    impl_NameOk.l0 k s (s.size : Int) i = some (okFrom s d i && (decide (1 ≤ s.size) && decide (s.size ≤ 6))) := by
  intro d
  induction d with
  | zero =>
    intro k i h0 h1 hk
    obtain ⟨m, rfl, _⟩ := succ_of hk
    simp only [impl_NameOk.l0]
    rw [if_neg (by omega), impl_in_f]
    have e1 : decide ((1 : Int) ≤ (s.size : Int)) = decide (1 ≤ s.size) := by congr 1; exact propext ⟨fun h => by omega, fun h => by omega⟩
    have e2 : decide ((s.size : Int) ≤ 6) = decide (s.size ≤ 6) := by congr 1; exact propext ⟨fun h => by omega, fun h => by omega⟩
    simp [okFrom, e1, e2]
  | succ d ih =>
    intro k i h0 h1 hk
    obtain ⟨m, rfl, _⟩ := succ_of hk
    simp only [impl_NameOk.l0]
    rw [if_pos (by omega), if_pos h0, if_pos (by omega)]
    by_cases hl : bt s i < 97
    · rw [if_pos hl, okFrom_lo s d i hl]; rfl
    · rw [if_neg hl]
      by_cases hh : bt s i > 122
      · rw [if_pos hh, okFrom_hi s d i hh]; rfl
      · rw [if_neg hh, okFrom_in s d i hl hh, wrap_id (by omega) (by omega)]
        exact ih m (i + 1) (by omega) (by omega) (by omega)
theorem impl_NameOk_f (s : ByteArray) (hs : s.size ≤ 140737488351232) (k : Nat) (hk : s.size < k) : impl_NameOk.f k s = some (nameOk s) := by
  unfold impl_NameOk.f nameOk
  exact impl_NameOk_l0 s hs s.size k 0 (by omega) (by omega) hk
theorem impl_refers_f (a : Int) : impl_refers.f a = some (decide (3 ≤ a) && decide (a ≤ 5)) := by
  unfold impl_refers.f
  rw [impl_in_f]; rfl
theorem spec_InsLast_f (a b : Int) (s : ByteArray) : spec_InsLast.f a b s = some (lastB a) := by
  unfold spec_InsLast.f lastB
  by_cases h : a = 4
  · rw [if_pos h, if_pos h]
  · rw [if_neg h, if_neg h]
    by_cases h6 : a = 6
    · rw [if_pos h6, if_pos h6]
    · rw [if_neg h6, if_neg h6]
theorem impl_InsLast_f (a b : Int) (s : ByteArray) : impl_InsLast.f a b s = some (lastB a) := by
  unfold impl_InsLast.f lastB
  by_cases h : a = 4
  · rw [if_pos h, if_pos h]
  · rw [if_neg h, if_neg h]
    by_cases h6 : a = 6
    · rw [if_pos h6, if_pos h6]
    · rw [if_neg h6, if_neg h6]
theorem impl_isNumber_f (a : Int) : impl_isNumber.f a = some (decide (-1000 ≤ a) && decide (a ≤ 1000)) := by
  unfold impl_isNumber.f
  rw [impl_in_f]; rfl
theorem impl_refers_b (a : Int) : impl_refers.f a = some (refersB a) := impl_refers_f a
theorem ite_beq {s : ByteArray} (b : Bool) : (if s.toList = ([] : List UInt8) then some b else some false) = some ((s.toList == ([] : List UInt8)) && b) := by
  by_cases h : s.toList = ([] : List UInt8)
  · rw [if_pos h, h]; rfl
  · rw [if_neg h, beq_eq_false_iff_ne.mpr h]; rfl
theorem impl_InsOk_f (op n : Int) (s : ByteArray) (hs : s.size ≤ 140737488351232) (k : Nat) (hk : s.size < k) : impl_InsOk.f k op n s = some (insOkB op n s) := by
  unfold impl_InsOk.f insOkB
  rw [impl_in_f, impl_NameOk_f s hs k hk, impl_refers_b, impl_isNumber_f]
  simp only [Option.bind_some, ite_beq]
  by_cases h1 : (decide (1 ≤ op) && decide (op ≤ 7)) = true
  · rw [if_pos h1, h1]
    by_cases h2 : n = 0
    · rw [if_pos h2]
      cases nameOk s <;> cases refersB op <;> simp [h2]
    · rw [if_neg h2]
      by_cases h3 : op = 2
      · rw [if_pos h3]
        have h4 : refersB op = false := by rw [h3]; rfl
        rw [h4]
        cases hb : (decide (-1000 ≤ n) && decide (n ≤ 1000)) <;> cases nameOk s <;> simp [h2, h3, hb]
      · rw [if_neg h3]
        simp [h2, h3]
  · rw [if_neg h1, Bool.eq_false_iff.mpr h1]
    rfl
theorem ite_ge_le {n : Int} (b : Bool) : (if n ≥ -1000 then (if n ≤ 1000 then some b else some false) else some false) = some ((decide (-1000 ≤ n) && decide (n ≤ 1000)) && b) := by
  by_cases h : n ≥ -1000
  · have h' : decide (-1000 ≤ n) = true := decide_eq_true h
    rw [if_pos h, h']
    by_cases g : n ≤ 1000 <;> simp [g]
  · have h' : decide (-1000 ≤ n) = false := decide_eq_false h
    rw [if_neg h, h']
    rfl
theorem ite_zero {n : Int} (b : Bool) : (if n = 0 then some b else some false) = some (decide (n = 0) && b) := by
  by_cases h : n = 0 <;> simp [h]
theorem spec_InsOk_j1 (s : ByteArray) (hs : s.size ≤ 140737488351232) (k : Nat) (hk : s.size < k) (b : Bool) (op n : Int) :
    spec_InsOk.j1 (k + 1) b op n s = some (b && (decide (n = 0) && nameOk s)) := by
  simp only [spec_InsOk.j1]
  rw [spec_NameOk_f s hs k hk]
  simp only [Option.bind_some, ite_zero]
  cases b <;> rfl
theorem spec_InsOk_j0 (s : ByteArray) (hs : s.size ≤ 140737488351232) (k : Nat) (hk : s.size < k) (b : Bool) (op n o : Int) :
    spec_InsOk.j0 (k + 2) op b o n s = some (if b = true then decide (n = 0) && (s.toList == ([] : List UInt8)) else if op = 2 then (decide (-1000 ≤ n) && decide (n ≤ 1000)) && (s.toList == ([] : List UInt8)) else if op = 3 then (decide (n = 0) && nameOk s) else if op = 4 then (decide (n = 0) && nameOk s) else ((op == 5) && (decide (n = 0) && nameOk s))) := by
  simp only [spec_InsOk.j0]
  rw [spec_InsOk_j1 s hs k hk, spec_InsOk_j1 s hs k hk, spec_InsOk_j1 s hs k hk, ite_ge_le, ite_zero]
  cases b with
  | true => rfl
  | false =>
    simp only [Bool.false_eq_true, if_false]
    by_cases h2 : op = 2
    · simp only [h2, if_true]
    · simp only [h2, if_false]
      by_cases h3 : op = 3
      · subst h3; rfl
      · simp only [h3, if_false]
        by_cases h4 : op = 4
        · subst h4; rfl
        · simp only [h4, if_false]
theorem spec_InsOk_f (op n : Int) (s : ByteArray) (hs : s.size ≤ 140737488351232) (k : Nat) (hk : s.size + 2 < k) : spec_InsOk.f k op n s = some (insOkB op n s) := by
  obtain ⟨m, rfl⟩ : ∃ m, k = m + 2 := ⟨k - 2, by omega⟩
  unfold spec_InsOk.f
  rw [spec_InsOk_j0 s hs m (by omega), spec_InsOk_j0 s hs m (by omega), spec_InsOk_j0 s hs m (by omega)]
  by_cases h1 : op = 1
  · subst h1; simp [insOkB, refersB]
  by_cases h6 : op = 6
  · subst h6; simp [insOkB, refersB]
  by_cases h7 : op = 7
  · subst h7; simp [insOkB, refersB]
  by_cases h2 : op = 2
  · subst h2
    have : (decide (n = 0) || (decide (-1000 ≤ n) && decide (n ≤ 1000))) = (decide (-1000 ≤ n) && decide (n ≤ 1000)) := by
      by_cases h : n = 0
      · subst h; rfl
      · simp [h]
    simp [insOkB, refersB, this]
  by_cases h3 : op = 3
  · subst h3; simp [insOkB, refersB]
  by_cases h4 : op = 4
  · subst h4; simp [insOkB, refersB]
  by_cases h5 : op = 5
  · subst h5; simp [insOkB, refersB]
  · have e : (decide (1 ≤ op) && decide (op ≤ 7)) = false := by
      rw [Bool.and_eq_false_iff, decide_eq_false_iff_not, decide_eq_false_iff_not]; omega
    simp [h1, h2, h3, h4, h5, h6, h7, insOkB, e]
end Go.Proofs.YtajhjdhkeahlpaaDoor.L
namespace Go.Proofs.YtajhjdhkeahlpaaDoor.L
open Go.RowKit Go.Proofs.YtajhjdhkeahlpaaDoorW.PrintWords Go.Proofs.YtajhjdhkeahlpaaDoorW.PrintLast Go.Proofs.YtajhjdhkeahlpaaDoorW.PrintMore Go.Proofs.YtajhjdhkeahlpaaDoor.P
set_option linter.unusedVariables false
set_option linter.unusedSimpArgs false
def funOkB (a : ByteArray) (l : List S26) : Bool :=
  nameOk a && ((decide (1 ≤ (l.length : Int)) && decide ((l.length : Int) ≤ 10)) && (!(l.any fun x => !insOkB x.f0 x.f1 x.f2) && lastB (l.getD (l.length - 1) z26).f0))
end Go.Proofs.YtajhjdhkeahlpaaDoor.L
