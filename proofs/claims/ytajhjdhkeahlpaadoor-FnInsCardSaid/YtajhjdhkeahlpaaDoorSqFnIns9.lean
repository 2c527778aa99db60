-- LSeq, PximplInsLast, PxlawsszIns, PxspecDrawInsOk, LOk, LText, LNum, LInsRead, LDraw, PureFnIns: put together by squash.py
import Derived.Test.YtajhjdhkeahlpaaDoorSqFnIns3
import Derived.Test.YtajhjdhkeahlpaaDoorSqFnIns6
import Derived.Test.YtajhjdhkeahlpaaDoorSqFnIns7
import Derived.Test.YtajhjdhkeahlpaaDoorSqFnIns4
import Derived.Test.YtajhjdhkeahlpaaDoorSqFnIns5
import Derived.Lib.ItoaNum
import Derived.Lib.Strings
import Derived.Lib.Atoi
import Derived.Test.YtajhjdhkeahlpaaDoorSqFnIns8

/- Plain lists: the first place of which something holds; two lists alike, place by place. -/
namespace Go.Proofs.YtajhjdhkeahlpaaDoor.L
open Go.RowKit Go.Proofs.YtajhjdhkeahlpaaDoorW.PrintWords Go.Proofs.YtajhjdhkeahlpaaDoorW.PrintLast Go.Proofs.YtajhjdhkeahlpaaDoorW.PrintMore Go.Proofs.YtajhjdhkeahlpaaDoor.P
set_option linter.unusedVariables false
set_option linter.unusedSimpArgs false

end Go.Proofs.YtajhjdhkeahlpaaDoor.L

-- made by printx.py (own driver over the kit's print); Lean checks it
namespace Go.Proofs.YtajhjdhkeahlpaaDoor.P
open Go.RowKit Go.Proofs.YtajhjdhkeahlpaaDoorW.PrintWords Go.Proofs.YtajhjdhkeahlpaaDoorW.PrintLast Go.Proofs.YtajhjdhkeahlpaaDoorW.PrintMore
attribute [local go_sem] max2_int min2_int max_two min_two max_three min_three max_four min_four   -- for this text's walks alone
set_option linter.unusedVariables false
set_option linter.unusedSimpArgs false

/-! ### impl_InsLast: function 19 -/
def impl_InsLast.f (a0_0 : Int) (a0_1 : Int) (a0_2 : ByteArray) : Option (Bool) := if a0_0 = 4 then (some true) else (if a0_0 = 6 then (some true) else (some (a0_0 == 7)))
/-! ### spec_InsLast: function 20 -/
def spec_InsLast.f (a0_0 : Int) (a0_1 : Int) (a0_2 : ByteArray) : Option (Bool) := if a0_0 = 4 then (some true) else (if a0_0 = 6 then (some true) else (some (a0_0 == 7)))
end Go.Proofs.YtajhjdhkeahlpaaDoor.P

-- made by printx.py (own driver over the kit's print); Lean checks it
namespace Go.Proofs.YtajhjdhkeahlpaaDoor.P
open Go.RowKit Go.Proofs.YtajhjdhkeahlpaaDoorW.PrintWords Go.Proofs.YtajhjdhkeahlpaaDoorW.PrintLast Go.Proofs.YtajhjdhkeahlpaaDoorW.PrintMore
attribute [local go_sem] max2_int min2_int max_two min_two max_three min_three max_four min_four   -- for this text's walks alone
set_option linter.unusedVariables false
set_option linter.unusedSimpArgs false

/-! ### laws_szIns: function 9 -/
def laws_szIns.f (a0_0 : Int) (a0_1 : Int) (a0_2 : ByteArray) (a1 : Int) : Option (Int) := if (wrap64 (a1 - (a0_2.size : Int))) < 0 then (some (-1)) else (some (wrap64 (a1 - (a0_2.size : Int))))
/-! ### laws_toIns: function 11 -/
def laws_toIns.f (a0_0 : Int) (a0_1 : Int) (a0_2 : ByteArray) : Option (Int × Int × ByteArray) := some (a0_0, a0_1, a0_2)
end Go.Proofs.YtajhjdhkeahlpaaDoor.P

-- made by printx.py (own driver over the kit's print); Lean checks it
namespace Go.Proofs.YtajhjdhkeahlpaaDoor.P
open Go.RowKit Go.Proofs.YtajhjdhkeahlpaaDoorW.PrintWords Go.Proofs.YtajhjdhkeahlpaaDoorW.PrintLast Go.Proofs.YtajhjdhkeahlpaaDoorW.PrintMore
attribute [local go_sem] max2_int min2_int max_two min_two max_three min_three max_four min_four   -- for this text's walks alone
set_option linter.unusedVariables false
set_option linter.unusedSimpArgs false

/-! ### spec_DrawInsOk: function 13 -/
def spec_DrawInsOk.f (k : Nat) (l0 : List Int) : Option (Int × Int × ByteArray) := (spec_l13Open.f l0).bind fun bt218 => ((spec_l1Bent.f k bt218.1 bt218.2).bind fun bt221 => (some (bt221.1, bt221.2.1, bt221.2.2.1)))
/-! ### spec_DrawNameOk: function 14 -/
def spec_DrawNameOk.f (k : Nat) (l0 : List Int) : Option (ByteArray) := (spec_l13Open.f l0).bind fun bt225 => ((spec_l13Rd_of.f k bt225.1 bt225.2 (([(⟨#[97]⟩ : ByteArray), (⟨#[109, 97, 105, 110]⟩ : ByteArray), (⟨#[]⟩ : ByteArray), (⟨#[97, 98, 99, 100, 101, 102]⟩ : ByteArray), (⟨#[97, 98, 99, 100, 101, 102, 103]⟩ : ByteArray), (⟨#[65]⟩ : ByteArray), (⟨#[97, 49]⟩ : ByteArray), (⟨#[122, 122]⟩ : ByteArray)] : List ByteArray))).bind fun bt231 => (some bt231.1))
/-! ### impl_InsRefs: function 17 -/
def impl_InsRefs.f (a0_0 : Int) (a0_1 : Int) (a0_2 : ByteArray) : Option (Bool) := (impl_refers.f a0_0).bind fun t234 => (some t234)
end Go.Proofs.YtajhjdhkeahlpaaDoor.P

/- What the printed functions on instructions compute: names, classes, sums. -/
namespace Go.Proofs.YtajhjdhkeahlpaaDoor.L
open Go.RowKit Go.Proofs.YtajhjdhkeahlpaaDoorW.PrintWords Go.Proofs.YtajhjdhkeahlpaaDoorW.PrintLast Go.Proofs.YtajhjdhkeahlpaaDoorW.PrintMore Go.Proofs.YtajhjdhkeahlpaaDoor.P
set_option linter.unusedVariables false
set_option linter.unusedSimpArgs false

/-- Are the bytes from place i on, d of them, letters from a to z? -/
def okFrom (s : ByteArray) : Nat → Int → Bool
  | 0, _ => true
  | d + 1, i => (decide (97 ≤ bt s i) && decide (bt s i ≤ 122)) && okFrom s d (i + 1)
def nameOk (s : ByteArray) : Bool := okFrom s s.size 0 && (decide (1 ≤ s.size) && decide (s.size ≤ 6))
theorem okFrom_lo (s : ByteArray) (d : Nat) (i : Int) (h : bt s i < 97) : okFrom s (d + 1) i = false := by
  have : ¬ 97 ≤ bt s i := by omega
  simp [okFrom, this]
theorem okFrom_hi (s : ByteArray) (d : Nat) (i : Int) (h : bt s i > 122) : okFrom s (d + 1) i = false := by
  have : ¬ bt s i ≤ 122 := by omega
  simp [okFrom, this]
theorem okFrom_in (s : ByteArray) (d : Nat) (i : Int) (h : ¬ bt s i < 97) (h' : ¬ bt s i > 122) : okFrom s (d + 1) i = okFrom s d (i + 1) := by
  have : 97 ≤ bt s i := by omega
  have : bt s i ≤ 122 := by omega
  simp [okFrom, *]

def refersB (a : Int) : Bool := decide (3 ≤ a) && decide (a ≤ 5)
theorem refersB_true {a : Int} : refersB a = true ↔ a = 3 ∨ a = 4 ∨ a = 5 := by
  simp only [refersB, Bool.and_eq_true, decide_eq_true_eq]
  omega
theorem refers3 (a : Int) : (a = 3 ∧ refersB a = true) ∨ (a ≠ 3 ∧ a = 4 ∧ refersB a = true) ∨ (a ≠ 3 ∧ a ≠ 4 ∧ refersB a = (a == 5)) := by
  by_cases h3 : a = 3
  · subst h3; exact .inl ⟨rfl, rfl⟩
  · by_cases h4 : a = 4
    · subst h4; exact .inr (.inl ⟨by decide, rfl, rfl⟩)
    · refine .inr (.inr ⟨h3, h4, ?_⟩)
      by_cases h5 : a = 5
      · subst h5; rfl
      · have : ¬ (refersB a = true) := by rw [refersB_true]; omega
        rw [Bool.eq_false_iff.mpr this]
        exact (beq_eq_false_iff_ne.mpr h5).symm
def lastB (a : Int) : Bool := if a = 4 then true else if a = 6 then true else a == 7
/-- Is it ok? -/
def insOkB (op n : Int) (s : ByteArray) : Bool :=
  (decide (1 ≤ op) && decide (op ≤ 7)) && ((decide (n = 0) || decide (op = 2) && (decide (-1000 ≤ n) && decide (n ≤ 1000))) && (if refersB op = true then nameOk s else s.toList == ([] : List UInt8)))
theorem spec_NameOk_l0 (s : ByteArray) (hs : s.size ≤ 140737488351232) : ∀ (d k : Nat) (i : Int), 0 ≤ i → i + d = s.size → d < k →
    spec_NameOk.l0 k s i = some (okFrom s d i && (decide (1 ≤ s.size) && decide (s.size ≤ 6))) := by
  intro d
  induction d with
  | zero =>
    intro k i h0 h1 hk
    obtain ⟨m, rfl, _⟩ := succ_of hk
    simp only [spec_NameOk.l0]
    rw [if_neg (by omega)]
    by_cases h : (s.size : Int) ≥ 1
    · rw [if_pos h]
      have e1 : 1 ≤ s.size := by omega
      by_cases h6 : s.size ≤ 6
      · have e2 : (s.size : Int) ≤ 6 := by omega
        simp [okFrom, e1, e2, h6]
      · have e2 : ¬ (s.size : Int) ≤ 6 := by omega
        simp [okFrom, e1, e2, h6]
    · rw [if_neg h]
      have e1 : ¬ 1 ≤ s.size := by omega
      simp [okFrom, e1]
  | succ d ih =>
    intro k i h0 h1 hk
    obtain ⟨m, rfl, _⟩ := succ_of hk
    simp only [spec_NameOk.l0]
    rw [if_pos (by omega), if_pos h0]
    by_cases hl : bt s i < 97
    · rw [if_pos hl, okFrom_lo s d i hl]; rfl
    · rw [if_neg hl]
      by_cases hh : bt s i > 122
      · rw [if_pos hh, okFrom_hi s d i hh]; rfl
      · rw [if_neg hh, okFrom_in s d i hl hh, wrap_id (by omega) (by omega)]
        exact ih m (i + 1) (by omega) (by omega) (by omega)
theorem spec_NameOk_f (s : ByteArray) (hs : s.size ≤ 140737488351232) (k : Nat) (hk : s.size < k) : spec_NameOk.f k s = some (nameOk s) := by
  unfold spec_NameOk.f nameOk
  exact spec_NameOk_l0 s hs s.size k 0 (by omega) (by omega) hk
theorem impl_in_f (a b c : Int) : impl_in.f a b c = some (decide (b ≤ a) && decide (a ≤ c)) := by
  unfold impl_in.f
  by_cases h : b ≤ a <;> simp [h]
theorem impl_NameOk_l0 (s : ByteArray) (hs : s.size ≤ 140737488351232) : ∀ (d k : Nat) (i : Int), 0 ≤ i → i + d = s.size → d < k →
    impl_NameOk.l0 k s (s.size : Int) i = some (okFrom s d i && (decide (1 ≤ s.size) && decide (s.size ≤ 6))) := by
  intro d
  induction d with
  | zero =>
    intro k i h0 h1 hk
    obtain ⟨m, rfl, _⟩ := succ_of hk
    simp only [impl_NameOk.l0]
    rw [if_neg (by omega), impl_in_f]
    have e1 : decide ((1 : Int) ≤ (s.size : Int)) = decide (1 ≤ s.size) := by congr 1; exact propext ⟨fun h => by omega, fun h => by omega⟩
    have e2 : decide ((s.size : Int) ≤ 6) = decide (s.size ≤ 6) := by congr 1; exact propext ⟨fun h => by omega, fun h => by omega⟩
    simp [okFrom, e1, e2]
  | succ d ih =>
    intro k i h0 h1 hk
    obtain ⟨m, rfl, _⟩ := succ_of hk
    simp only [impl_NameOk.l0]
    rw [if_pos (by omega), if_pos h0, if_pos (by omega)]
    by_cases hl : bt s i < 97
    · rw [if_pos hl, okFrom_lo s d i hl]; rfl
    · rw [if_neg hl]
      by_cases hh : bt s i > 122
      · rw [if_pos hh, okFrom_hi s d i hh]; rfl
      · rw [if_neg hh, okFrom_in s d i hl hh, wrap_id (by omega) (by omega)]
        exact ih m (i + 1) (by omega) (by omega) (by omega)
theorem impl_NameOk_f (s : ByteArray) (hs : s.size ≤ 140737488351232) (k : Nat) (hk : s.size < k) : impl_NameOk.f k s = some (nameOk s) := by
  unfold impl_NameOk.f nameOk
  exact impl_NameOk_l0 s hs s.size k 0 (by omega) (by omega) hk
theorem impl_refers_f (a : Int) : impl_refers.f a = some (decide (3 ≤ a) && decide (a ≤ 5)) := by
  unfold impl_refers.f
  rw [impl_in_f]; rfl
theorem spec_InsRefs_f (a b : Int) (s : ByteArray) : spec_InsRefs.f a b s = some (refersB a) := by
  unfold spec_InsRefs.f
  rcases refers3 a with ⟨rfl, h⟩ | ⟨h3, rfl, h⟩ | ⟨h3, h4, h⟩
  · rw [if_pos rfl, h]
  · rw [if_neg h3, if_pos rfl, h]
  · rw [if_neg h3, if_neg h4, h]
theorem impl_isNumber_f (a : Int) : impl_isNumber.f a = some (decide (-1000 ≤ a) && decide (a ≤ 1000)) := by
  unfold impl_isNumber.f
  rw [impl_in_f]; rfl
theorem impl_refers_b (a : Int) : impl_refers.f a = some (refersB a) := impl_refers_f a
theorem ite_beq {s : ByteArray} (b : Bool) : (if s.toList = ([] : List UInt8) then some b else some false) = some ((s.toList == ([] : List UInt8)) && b) := by
  by_cases h : s.toList = ([] : List UInt8)
  · rw [if_pos h, h]; rfl
  · rw [if_neg h, beq_eq_false_iff_ne.mpr h]; rfl
theorem impl_InsOk_f (op n : Int) (s : ByteArray) (hs : s.size ≤ 140737488351232) (k : Nat) (hk : s.size < k) : impl_InsOk.f k op n s = some (insOkB op n s) := by
  unfold impl_InsOk.f insOkB
  rw [impl_in_f, impl_NameOk_f s hs k hk, impl_refers_b, impl_isNumber_f]
  simp only [Option.bind_some, ite_beq]
  by_cases h1 : (decide (1 ≤ op) && decide (op ≤ 7)) = true
  · rw [if_pos h1, h1]
    by_cases h2 : n = 0
    · rw [if_pos h2]
      cases nameOk s <;> cases refersB op <;> simp [h2]
    · rw [if_neg h2]
      by_cases h3 : op = 2
      · rw [if_pos h3]
        have h4 : refersB op = false := by rw [h3]; rfl
        rw [h4]
        cases hb : (decide (-1000 ≤ n) && decide (n ≤ 1000)) <;> cases nameOk s <;> simp [h2, h3, hb]
      · rw [if_neg h3]
        simp [h2, h3]
  · rw [if_neg h1, Bool.eq_false_iff.mpr h1]
    rfl
theorem ite_ge_le {n : Int} (b : Bool) : (if n ≥ -1000 then (if n ≤ 1000 then some b else some false) else some false) = some ((decide (-1000 ≤ n) && decide (n ≤ 1000)) && b) := by
  by_cases h : n ≥ -1000
  · have h' : decide (-1000 ≤ n) = true := decide_eq_true h
    rw [if_pos h, h']
    by_cases g : n ≤ 1000 <;> simp [g]
  · have h' : decide (-1000 ≤ n) = false := decide_eq_false h
    rw [if_neg h, h']
    rfl
theorem ite_zero {n : Int} (b : Bool) : (if n = 0 then some b else some false) = some (decide (n = 0) && b) := by
  by_cases h : n = 0 <;> simp [h]
theorem spec_InsOk_j1 (s : ByteArray) (hs : s.size ≤ 140737488351232) (k : Nat) (hk : s.size < k) (b : Bool) (op n : Int) :
    spec_InsOk.j1 (k + 1) b op n s = some (b && (decide (n = 0) && nameOk s)) := by
  simp only [spec_InsOk.j1]
  rw [spec_NameOk_f s hs k hk]
  simp only [Option.bind_some, ite_zero]
  cases b <;> rfl
theorem spec_InsOk_j0 (s : ByteArray) (hs : s.size ≤ 140737488351232) (k : Nat) (hk : s.size < k) (b : Bool) (op n o : Int) :
    spec_InsOk.j0 (k + 2) op b o n s = some (if b = true then decide (n = 0) && (s.toList == ([] : List UInt8)) else if op = 2 then (decide (-1000 ≤ n) && decide (n ≤ 1000)) && (s.toList == ([] : List UInt8)) else if op = 3 then (decide (n = 0) && nameOk s) else if op = 4 then (decide (n = 0) && nameOk s) else ((op == 5) && (decide (n = 0) && nameOk s))) := by
  simp only [spec_InsOk.j0]
  rw [spec_InsOk_j1 s hs k hk, spec_InsOk_j1 s hs k hk, spec_InsOk_j1 s hs k hk, ite_ge_le, ite_zero]
  cases b with
  | true => rfl
  | false =>
    simp only [Bool.false_eq_true, if_false]
    by_cases h2 : op = 2
    · simp only [h2, if_true]
    · simp only [h2, if_false]
      by_cases h3 : op = 3
      · subst h3; rfl
      · simp only [h3, if_false]
        by_cases h4 : op = 4
        · subst h4; rfl
        · simp only [h4, if_false]
theorem spec_InsOk_f (op n : Int) (s : ByteArray) (hs : s.size ≤ 140737488351232) (k : Nat) (hk : s.size + 2 < k) : spec_InsOk.f k op n s = some (insOkB op n s) := by
  obtain ⟨m, rfl⟩ : ∃ m, k = m + 2 := ⟨k - 2, by omega⟩
  unfold spec_InsOk.f
  rw [spec_InsOk_j0 s hs m (by omega), spec_InsOk_j0 s hs m (by omega), spec_InsOk_j0 s hs m (by omega)]
  by_cases h1 : op = 1
  · subst h1; simp [insOkB, refersB]
  by_cases h6 : op = 6
  · subst h6; simp [insOkB, refersB]
  by_cases h7 : op = 7
  · subst h7; simp [insOkB, refersB]
  by_cases h2 : op = 2
  · subst h2
    have : (decide (n = 0) || (decide (-1000 ≤ n) && decide (n ≤ 1000))) = (decide (-1000 ≤ n) && decide (n ≤ 1000)) := by
      by_cases h : n = 0
      · subst h; rfl
      · simp [h]
    simp [insOkB, refersB, this]
  by_cases h3 : op = 3
  · subst h3; simp [insOkB, refersB]
  by_cases h4 : op = 4
  · subst h4; simp [insOkB, refersB]
  by_cases h5 : op = 5
  · subst h5; simp [insOkB, refersB]
  · have e : (decide (1 ≤ op) && decide (op ≤ 7)) = false := by
      rw [Bool.and_eq_false_iff, decide_eq_false_iff_not, decide_eq_false_iff_not]; omega
    simp [h1, h2, h3, h4, h5, h6, h7, insOkB, e]
end Go.Proofs.YtajhjdhkeahlpaaDoor.L
namespace Go.Proofs.YtajhjdhkeahlpaaDoor.L
open Go.RowKit Go.Proofs.YtajhjdhkeahlpaaDoorW.PrintWords Go.Proofs.YtajhjdhkeahlpaaDoorW.PrintLast Go.Proofs.YtajhjdhkeahlpaaDoorW.PrintMore Go.Proofs.YtajhjdhkeahlpaaDoor.P
set_option linter.unusedVariables false
set_option linter.unusedSimpArgs false
end Go.Proofs.YtajhjdhkeahlpaaDoor.L

/- What InsText computes, both sides. -/
namespace Go.Proofs.YtajhjdhkeahlpaaDoor.L
open Go.RowKit Go.Proofs.YtajhjdhkeahlpaaDoor.P Go.Proofs.YtajhjdhkeahlpaaDoorW.PrintWords
set_option linter.unusedVariables false
set_option linter.unusedSimpArgs false
def decS (u : Nat) : ByteArray := ⟨(Lib.decDigits u).toArray⟩
theorem decS_size (u : Nat) : (decS u).size = (Lib.decDigits u).length := by
  show (Lib.decDigits u).toArray.size = _
  simp
theorem dec_len : ∀ u : Nat, (Lib.decDigits u).length ≤ u + 1 := by
  intro u
  induction u using Nat.strongRecOn with
  | ind u ih =>
    unfold Lib.decDigits
    by_cases h : u < 10
    · rw [dif_pos h]; simp
    · rw [dif_neg h, List.length_append]
      have := ih (u / 10) (by omega)
      simp
      omega
theorem one_byte (x : Nat) (hx : x < 10) (z : Int) (hz : z = 48 + (x : Int)) : strOfNums [wrap64 z % 256] = ⟨#[UInt8.ofNat (48 + x)]⟩ := by
  subst hz
  rcases (show x = 0 ∨ x = 1 ∨ x = 2 ∨ x = 3 ∨ x = 4 ∨ x = 5 ∨ x = 6 ∨ x = 7 ∨ x = 8 ∨ x = 9 by omega) with rfl | rfl | rfl | rfl | rfl | rfl | rfl | rfl | rfl | rfl <;> first | decide | (simp [strOfNums, wrap64]; done) | (simp [strOfNums, wrap64]; decide)
theorem dec_l0 : ∀ (u k : Nat) (out : ByteArray), u < k → out.size + u ≤ 1000000000000000 → spec_l13Dec.l0 k (u : Int) out = some (decS u ++ out) := by
  intro u
  induction u using Nat.strongRecOn with
  | ind u ih =>
    intro k out hk hs
    obtain ⟨k, rfl, hk⟩ := succ_of hk
    simp only [spec_l13Dec.l0, Option.bind_some]
    have hd : decS u = if u < 10 then (⟨#[UInt8.ofNat (48 + u)]⟩ : ByteArray) else decS (u / 10) ++ ⟨#[UInt8.ofNat (48 + u % 10)]⟩ := by
      unfold decS
      rw [Lib.decDigits]
      by_cases h : u < 10
      · rw [dif_pos h, if_pos h]
      · rw [dif_neg h, if_neg h]
        apply ByteArray.ext
        simp
    by_cases h : u < 10
    · rw [if_neg (by omega), one_byte u h _ rfl, if_pos (by show 1 + out.size ≤ _; omega), hd, if_pos h]
    · have e1 : Int.tmod (u : Int) 10 = ((u % 10 : Nat) : Int) := by rw [Int.tmod_eq_emod_of_nonneg (by omega)]; omega
      have e2 : Int.tdiv (u : Int) 10 = ((u / 10 : Nat) : Int) := by rw [Int.tdiv_eq_ediv_of_nonneg (by omega)]; omega
      rw [if_pos (by omega), e1, one_byte (u % 10) (by omega) _ rfl, if_pos (by show 1 + out.size ≤ _; omega), e2, wrap_id (by omega) (by omega)]
      rw [ih (u / 10) (by omega) k _ (by omega) (by rw [ByteArray.size_append]; show 1 + out.size + _ ≤ _; omega), hd, if_neg h, ByteArray.append_assoc]
def itoaS (n : Int) : ByteArray := ⟨(Lib.itoa n).toArray⟩
theorem itoaS_size (n : Int) (h0 : -1000 ≤ n) (h1 : n ≤ 1000) : (itoaS n).size ≤ 1003 := by
  have h2 : (itoaS n).size = (Lib.itoa n).length := by show (Lib.itoa n).toArray.size = _; simp
  rw [h2]
  unfold Lib.itoa
  have a := dec_len n.natAbs
  have b := dec_len n.toNat
  split
  · simp; omega
  · omega
theorem spec_l13Dec_f (n : Int) (h0 : -1000 ≤ n) (h1 : n ≤ 1000) (k : Nat) (hk : 2000 < k) : spec_l13Dec.f k n = some (itoaS n) := by
  have pos : ∀ (m : Int) (k : Nat), 0 ≤ m → m ≤ 1000 → 1500 < k → spec_l13Dec.f k m = some (decS m.toNat) := by
    intro m k hm hm1 hk
    obtain ⟨k, rfl, hk⟩ := succ_of hk
    unfold spec_l13Dec.f
    rw [if_neg (by omega), if_neg (by omega)]
    have e := dec_l0 m.toNat k (⟨#[]⟩ : ByteArray) (by omega) (by show 0 + _ ≤ _; omega)
    rw [show ((m.toNat : Nat) : Int) = m by omega] at e
    rw [e]
    congr 1
    apply ByteArray.ext
    simp
  by_cases hn : n < 0
  · obtain ⟨k, rfl, hk⟩ := succ_of hk
    have hs := dec_len n.natAbs
    unfold spec_l13Dec.f
    rw [if_neg (by omega), if_pos hn, wrap_id (by omega) (by omega), pos (-n) k (by omega) (by omega) (by omega)]
    simp only [Option.bind_some]
    rw [if_pos (by rw [decS_size, show (-n).toNat = n.natAbs by omega]; omega)]
    congr 1
    unfold itoaS decS Lib.itoa
    rw [if_pos hn, show (-n).toNat = n.natAbs by omega]
    apply ByteArray.ext
    simp
  · rw [pos n k (by omega) (by omega) (by omega)]
    unfold itoaS decS Lib.itoa
    rw [if_neg hn]
def words : List ByteArray := [(⟨#[]⟩ : ByteArray), (⟨#[115, 97, 121]⟩ : ByteArray), (⟨#[97, 100, 100]⟩ : ByteArray), (⟨#[99, 97, 108, 108]⟩ : ByteArray), (⟨#[103, 111]⟩ : ByteArray), (⟨#[105, 102]⟩ : ByteArray), (⟨#[114, 101, 116]⟩ : ByteArray), (⟨#[101, 110, 100]⟩ : ByteArray)]
def wordV (op : Int) : ByteArray := rdOf ByteArray.empty words op
theorem op_cases {op : Int} (h0 : 1 ≤ op) (h1 : op ≤ 7) : op = 1 ∨ op = 2 ∨ op = 3 ∨ op = 4 ∨ op = 5 ∨ op = 6 ∨ op = 7 := by omega
theorem word_size {op : Int} (h0 : 1 ≤ op) (h1 : op ≤ 7) : (wordV op).size ≤ 4 := by
  rcases op_cases h0 h1 with rfl | rfl | rfl | rfl | rfl | rfl | rfl <;> decide
theorem impl_word_f {op : Int} (h0 : 1 ≤ op) (h1 : op ≤ 7) : impl_word.f op = some (wordV op) := by
  rcases op_cases h0 h1 with rfl | rfl | rfl | rfl | rfl | rfl | rfl <;> rfl
def textV (op n : Int) (s : ByteArray) : ByteArray :=
  if insOkB op n s = true then (if op = 2 then (wordV op ++ (⟨#[32]⟩ : ByteArray)) ++ itoaS n else if refersB op = true then (wordV op ++ (⟨#[32]⟩ : ByteArray)) ++ s else wordV op) else (⟨#[]⟩ : ByteArray)
theorem insOk_in {op n : Int} {s : ByteArray} (h : insOkB op n s = true) : 1 ≤ op ∧ op ≤ 7 ∧ -1000 ≤ n ∧ n ≤ 1000 := by
  unfold insOkB at h
  simp only [Bool.and_eq_true, Bool.or_eq_true, decide_eq_true_eq] at h
  omega
theorem spec_InsText_f (op n : Int) (s : ByteArray) (hs : s.size ≤ 140737488351232) (k : Nat) (hk : s.size + 3000 < k) : spec_InsText.f k op n s = some (textV op n s) := by
  unfold spec_InsText.f textV
  rw [spec_InsOk_f op n s hs k (by omega)]
  simp only [Option.bind_some]
  cases hok : insOkB op n s with
  | false => rw [if_neg (by decide), if_neg (by decide)]
  | true =>
    obtain ⟨h0, h1, h2, h3⟩ := insOk_in hok
    have hw := word_size h0 h1
    have hi := itoaS_size n h2 h3
    rw [if_pos rfl, if_pos rfl]
    unfold spec_l1Words.f
    simp only [Option.bind_some]
    rw [if_pos (by omega), if_pos (by show op < 8; omega)]
    show (if op = 2 then (if (wordV op).size + 1 ≤ 9223372036854775807 then _ else _) else _) = _
    have hw2 : (wordV op ++ (⟨#[32]⟩ : ByteArray)).size = (wordV op).size + 1 := by rw [ByteArray.size_append]; rfl
    by_cases h : op = 2
    · rw [if_pos h, if_pos h, if_pos (by omega), spec_l13Dec_f n h2 h3 k (by omega)]
      simp only [Option.bind_some]
      rw [if_pos (by
        show (wordV op ++ (⟨#[32]⟩ : ByteArray)).size + (itoaS n).size ≤ _
        rw [hw2]; omega)]
      rfl
    · rw [if_neg h, if_neg h, spec_InsRefs_f]
      simp only [Option.bind_some]
      by_cases hr : refersB op = true
      · rw [if_pos hr, if_pos hr, if_pos (by show (wordV op).size + 1 ≤ _; omega), if_pos (by
          show (wordV op ++ (⟨#[32]⟩ : ByteArray)).size + s.size ≤ _
          rw [hw2]; omega)]
        rfl
      · rw [if_neg hr, if_neg hr]
        rfl
theorem impl_InsText_f (op n : Int) (s : ByteArray) (hs : s.size ≤ 140737488351232) (k : Nat) (hk : s.size < k) : impl_InsText.f k op n s = some (textV op n s) := by
  unfold impl_InsText.f textV
  rw [impl_InsOk_f op n s hs k hk]
  simp only [Option.bind_some]
  cases hok : insOkB op n s with
  | false => rw [if_neg (by decide), if_neg (by decide)]
  | true =>
    obtain ⟨h0, h1, h2, h3⟩ := insOk_in hok
    have hw := word_size h0 h1
    have hi := itoaS_size n h2 h3
    have hw2 : (wordV op ++ (⟨#[32]⟩ : ByteArray)).size = (wordV op).size + 1 := by rw [ByteArray.size_append]; rfl
    rw [if_pos rfl, if_pos rfl, impl_word_f h0 h1]
    simp only [Option.bind_some]
    by_cases h : op = 2
    · rw [if_pos h, if_pos h, if_pos (by omega)]
      unfold strconv_Itoa_39.f
      rw [if_pos (by omega)]
      simp only [Option.bind_some]
      rw [if_pos (by
        show (wordV op ++ (⟨#[32]⟩ : ByteArray)).size + (itoaS n).size ≤ _
        rw [hw2]; omega)]
      rfl
    · rw [if_neg h, if_neg h, impl_refers_f]
      simp only [Option.bind_some]
      by_cases hr : refersB op = true
      · rw [if_pos (by exact hr), if_pos hr, if_pos (by omega), if_pos (by rw [hw2]; omega)]
      · rw [if_neg (by exact hr), if_neg hr]
end Go.Proofs.YtajhjdhkeahlpaaDoor.L

/- Numerals: what spec.l13Num reads is what strconv.Itoa writes. -/
namespace Go.Proofs.YtajhjdhkeahlpaaDoor.L
open Go.RowKit Go.Proofs.YtajhjdhkeahlpaaDoor.P Go.Proofs.YtajhjdhkeahlpaaDoorW.PrintWords
set_option linter.unusedVariables false
set_option linter.unusedSimpArgs false
theorem decFrom_app (a b : List UInt8) : ∀ acc : Nat, Lib.decFrom acc (a ++ b) = (Lib.decFrom acc a).bind fun v => Lib.decFrom v b := by
  induction a with
  | nil => intro acc; rfl
  | cons x a ih =>
    intro acc
    rw [List.cons_append]
    simp only [Lib.decFrom]
    cases Lib.digitVal x with
    | none => rfl
    | some d => exact ih _
theorem decFrom_ge (l : List UInt8) : ∀ (acc v : Nat), Lib.decFrom acc l = some v → acc ≤ v := by
  induction l with
  | nil => intro acc v h; simp only [Lib.decFrom] at h; injection h with h; omega
  | cons x l ih =>
    intro acc v h
    simp only [Lib.decFrom] at h
    cases hd : Lib.digitVal x with
    | none => rw [hd] at h; cases h
    | some d => rw [hd] at h; have := ih _ _ h; omega
theorem digit_of (x : Nat) (h : x < 10) : Lib.digitVal (UInt8.ofNat (48 + x)) = some x := by
  rcases (show x = 0 ∨ x = 1 ∨ x = 2 ∨ x = 3 ∨ x = 4 ∨ x = 5 ∨ x = 6 ∨ x = 7 ∨ x = 8 ∨ x = 9 by omega) with rfl | rfl | rfl | rfl | rfl | rfl | rfl | rfl | rfl | rfl <;> decide
theorem digit_back {b : UInt8} {d : Nat} (h : Lib.digitVal b = some d) : d < 10 ∧ b = UInt8.ofNat (48 + d) := by
  obtain ⟨h1, h2, h3⟩ := Lib.digitVal_eq h
  refine ⟨by omega, ?_⟩
  rw [show 48 + d = b.toNat by omega]
  simp
theorem decDigits_eq (u : Nat) : Lib.decDigits u = if u < 10 then [UInt8.ofNat (48 + u)] else Lib.decDigits (u / 10) ++ [UInt8.ofNat (48 + u % 10)] := by
  rw [Lib.decDigits]
  by_cases h : u < 10
  · rw [dif_pos h, if_pos h]
  · rw [dif_neg h, if_neg h]
theorem decDigits_ne (u : Nat) : Lib.decDigits u ≠ [] := by
  rw [decDigits_eq]
  split
  · simp
  · simp
theorem dec_value : ∀ u : Nat, Lib.decFrom 0 (Lib.decDigits u) = some u := by
  intro u
  induction u using Nat.strongRecOn with
  | ind u ih =>
    rw [decDigits_eq]
    by_cases h : u < 10
    · rw [if_pos h]; simp only [Lib.decFrom, digit_of u h]; congr 1; omega
    · rw [if_neg h, decFrom_app, ih (u / 10) (by omega)]
      simp only [Option.bind_some, Lib.decFrom, digit_of (u % 10) (by omega)]
      congr 1
      omega
/-- The first digit of a number that is not naught is none. -/
theorem dec_first : ∀ u : Nat, 1 ≤ u → ∀ c r, Lib.decDigits u = c :: r → c ≠ 48 := by
  intro u
  induction u using Nat.strongRecOn with
  | ind u ih =>
    intro hu c r e
    rw [decDigits_eq] at e
    by_cases h : u < 10
    · rw [if_pos h] at e
      injection e with e _
      subst e
      intro e
      have := congrArg UInt8.toNat e
      simp at this
      omega
    · rw [if_neg h] at e
      cases hd : Lib.decDigits (u / 10) with
      | nil => exact absurd hd (decDigits_ne _)
      | cons c' r' =>
        rw [hd] at e
        injection e with e _
        subst e
        exact ih (u / 10) (by omega) (by omega) c' r' hd
/-- A numeral without a needless naught is what Itoa writes. -/
theorem dec_canon : ∀ (l : List UInt8) (u : Nat), l ≠ [] → Lib.decFrom 0 l = some u → (∀ r, l = 48 :: r → r = []) → l = Lib.decDigits u := by
  intro l
  induction hn : l.length using Nat.strongRecOn generalizing l with
  | ind n ih =>
    intro u h0 hv hz
    obtain ⟨a, d, rfl⟩ : ∃ a d, l = a ++ [d] := ⟨l.dropLast, l.getLast h0, (List.dropLast_concat_getLast h0).symm⟩
    rw [decFrom_app] at hv
    cases hva : Lib.decFrom 0 a with
    | none => rw [hva] at hv; cases hv
    | some v =>
      rw [hva] at hv
      simp only [Option.bind_some, Lib.decFrom] at hv
      cases hdd : Lib.digitVal d with
      | none => rw [hdd] at hv; cases hv
      | some x =>
        rw [hdd] at hv
        simp only at hv
        injection hv with hv
        obtain ⟨hx, rfl⟩ := digit_back hdd
        cases a with
        | nil =>
          simp only [Lib.decFrom] at hva
          injection hva with hva
          subst hva
          rw [decDigits_eq, if_pos (by omega), show u = x by omega]
          rfl
        | cons c a =>
          have hlen : (c :: a).length < n := by rw [← hn, List.length_append]; simp
          have ha := ih _ hlen (c :: a) rfl v (by simp) hva (fun r e => by
            exfalso
            injection e with e1 e2
            subst e1
            have := hz (a ++ [UInt8.ofNat (48 + x)]) rfl
            simp at this)
          have hv1 : 1 ≤ v := by
            by_cases hv0 : v = 0
            · exfalso
              subst hv0
              have e0 : c :: a = [48] := ha.trans (by rw [decDigits_eq, if_pos (by omega)]; rfl)
              injection e0 with e1 e2
              subst e1
              have := hz (a ++ [UInt8.ofNat (48 + x)]) rfl
              simp at this
            · omega
          rw [decDigits_eq u, if_neg (by omega), show u / 10 = v by omega, show u % 10 = x by omega, ← ha]
/-- The value of a numeral's digits, and its sign. -/
def numV (neg : Bool) (l : List UInt8) : Int × Bool := match Lib.decFrom 0 l with | some v => (if neg then -(v : Int) else v, true) | none => (0, false)
theorem bt_get (s : ByteArray) (i : Nat) (h : i < s.size) : ∃ b, s.data.toList[i]? = some b ∧ bt s (i : Int) = (b.toNat : Int) := by
  have h1 : i < s.data.toList.length := by simpa using h
  refine ⟨s.data.toList[i], List.getElem?_eq_getElem h1, ?_⟩
  unfold bt
  rw [Int.toNat_natCast, dif_pos h]
  simp
  rfl
theorem num_l0 (s : ByteArray) (hs : s.size ≤ 17) (neg : Bool) : ∀ (m i k acc : Nat), i + m = s.size → m < k → acc < 10 ^ i →
    spec_l13Num.l0 k s neg (acc : Int) (i : Int) = some (match Lib.decFrom acc (s.data.toList.drop i) with | some v => (if neg then -(v : Int) else v, true) | none => (0, false)) := by
  have hlen : s.data.toList.length = s.size := by simp
  have hpow : ∀ i, i ≤ 17 → 10 ^ i ≤ 100000000000000000 := fun i hi => Nat.le_trans (Nat.pow_le_pow_right (by omega) hi) (by decide)
  intro m
  induction m with
  | zero =>
    intro i k acc hi hk ha
    obtain ⟨k, rfl, hk⟩ := succ_of hk
    have hp := hpow i (by omega)
    simp only [spec_l13Num.l0]
    rw [if_neg (by omega), List.drop_eq_nil_of_le (by omega)]
    simp only [Lib.decFrom]
    cases neg with
    | true => rw [if_pos rfl, if_pos rfl, wrap_id (by omega) (by omega)]
    | false => rw [if_neg (by decide), if_neg (by decide)]
  | succ m ih =>
    intro i k acc hi hk ha
    obtain ⟨k, rfl, hk⟩ := succ_of hk
    have hp := hpow (i + 1) (by omega)
    obtain ⟨b, hb, hbt⟩ := bt_get s i (by omega)
    have hb256 : b.toNat < 256 := b.toNat_lt
    have hdrop : s.data.toList.drop i = b :: s.data.toList.drop (i + 1) := by
      rw [List.drop_eq_getElem_cons (by omega)]
      congr 1
      rw [List.getElem?_eq_getElem (by omega)] at hb
      exact Option.some.inj hb
    simp only [spec_l13Num.l0]
    rw [if_pos (by omega), if_pos (by omega), hbt, hdrop]
    simp only [Lib.decFrom]
    unfold Lib.digitVal
    by_cases h1 : (b.toNat : Int) < 48
    · rw [if_pos h1, if_neg (by omega)]
    · rw [if_neg h1]
      by_cases h2 : (b.toNat : Int) > 57
      · rw [if_pos h2, if_neg (by omega)]
      · rw [if_neg h2, if_pos (by omega)]
        have hpw : 10 ^ (i + 1) = 10 * 10 ^ i := by rw [Nat.pow_succ, Nat.mul_comm]
        have e1 : wrap64 ((acc : Int) * 10) = ((acc * 10 : Nat) : Int) := by rw [wrap_id (by omega) (by omega)]; omega
        have e2 : ((b.toNat : Int) - 48) % 256 = ((b.toNat - 48 : Nat) : Int) := by omega
        rw [e1, e2, wrap_id (n := ((acc * 10 : Nat) : Int) + ((b.toNat - 48 : Nat) : Int)) (by omega) (by omega), wrap_id (n := (i : Int) + 1) (by omega) (by omega)]
        exact ih (i + 1) k (acc * 10 + (b.toNat - 48)) (by omega) (by omega) (by omega)
/-- May this be a numeral's digits? -/
def plainL (neg : Bool) (l : List UInt8) : Bool := decide (1 ≤ l.length) && decide (l.length ≤ 17) && (if l.getD 0 0 = 48 then (decide (l.length = 1) && !neg) else true)
theorem num_j1 (s : ByteArray) (neg : Bool) (k : Nat) (hk : 100 < k) : spec_l13Num.j1 k s neg = some (if plainL neg s.data.toList = true then numV neg s.data.toList else (0, false)) := by
  have hlen : s.data.toList.length = s.size := by simp
  obtain ⟨k, rfl⟩ : ∃ j, k = j + 2 := ⟨k - 2, by omega⟩
  simp only [spec_l13Num.j1, spec_l13Num.j2]
  unfold plainL
  rw [hlen]
  by_cases h0 : (s.size : Int) = 0
  · rw [if_pos h0, if_pos trivial, if_neg (by rw [decide_eq_false (show ¬ 1 ≤ s.size by omega)]; simp)]
  · rw [if_neg h0]
    by_cases h17 : (s.size : Int) > 17
    · rw [if_pos h17, if_pos trivial, if_neg (by rw [decide_eq_false (show ¬ s.size ≤ 17 by omega)]; simp)]
    · rw [if_neg h17, if_pos (by omega)]
      obtain ⟨b, hb, hbt⟩ := bt_get s 0 (by omega)
      have hbt' : bt s 0 = (b.toNat : Int) := hbt
      have hg : s.data.toList.getD 0 0 = b := by rw [List.getD_eq_getElem?_getD, hb]; rfl
      have hfin := num_l0 s (by omega) neg s.size 0 k 0 (by omega) (by omega) (by decide)
      rw [List.drop_zero] at hfin
      have hfin' : spec_l13Num.l0 k s neg 0 0 = some (numV neg s.data.toList) := hfin
      rw [hbt', hg, decide_eq_true (show 1 ≤ s.size by omega), decide_eq_true (show s.size ≤ 17 by omega)]
      by_cases h48 : (b.toNat : Int) = 48
      · have hb48 : b = 48 := by apply UInt8.toNat_inj.mp; show b.toNat = 48; omega
        rw [if_pos h48, if_pos hb48]
        by_cases h1 : (s.size : Int) > 1
        · rw [if_pos h1, if_pos trivial, decide_eq_false (show ¬ s.size = 1 by omega)]
          simp
        · rw [if_neg h1, decide_eq_true (show s.size = 1 by omega)]
          cases neg with
          | true => simp
          | false => rw [if_neg (by decide), hfin']; simp
      · have hb48 : ¬ b = 48 := fun e => h48 (by rw [e]; rfl)
        rw [if_neg h48, if_neg hb48, if_neg (by decide), hfin']
        simp
/-- What spec.l13Num reads. -/
def readV (l : List UInt8) : Int × Bool := match l with
  | [] => (0, false)
  | c :: r => if c = 45 then (if plainL true r = true then numV true r else (0, false)) else (if plainL false l = true then numV false l else (0, false))
theorem spec_l13Num_f (s : ByteArray) (hs : s.size ≤ 140737488351232) (k : Nat) (hk : 200 < k) : spec_l13Num.f k s = some (readV s.data.toList) := by
  have hlen : s.data.toList.length = s.size := by simp
  obtain ⟨k, rfl⟩ : ∃ j, k = j + 1 := ⟨k - 1, by omega⟩
  unfold spec_l13Num.f
  by_cases h0 : (s.size : Int) > 0
  · rw [if_pos h0, if_pos h0]
    simp only [spec_l13Num.j0]
    obtain ⟨b, hb, hbt⟩ := bt_get s 0 (by omega)
    have hbt' : bt s 0 = (b.toNat : Int) := hbt
    cases hl : s.data.toList with
    | nil => rw [hl] at hlen; simp at hlen; omega
    | cons c r =>
      rw [hl] at hb
      have hcb : c = b := by simpa using hb
      subst hcb
      rw [hbt']
      show _ = some (if c = 45 then (if plainL true r = true then numV true r else (0, false)) else (if plainL false (c :: r) = true then numV false (c :: r) else (0, false)))
      by_cases h45 : c = 45
      · subst h45
        rw [show (((45 : UInt8).toNat : Int) == 45) = true from rfl, if_pos rfl, if_pos (by omega), if_pos rfl, num_j1 _ true k (by omega)]
        have he : (s.extract 1 s.size).data.toList = r := by
          rw [ByteArray.data_extract, Array.toList_extract, List.extract_eq_take_drop, hl, ← hlen, hl]
          simp
        rw [he]
      · have hne : ((c.toNat : Int) == 45) = false := by
          rw [beq_eq_false_iff_ne]
          intro e
          exact h45 (by apply UInt8.toNat_inj.mp; show c.toNat = 45; omega)
        rw [hne, if_neg (by decide), if_neg h45, num_j1 s false k (by omega), hl]
  · rw [if_neg h0]
    simp only [spec_l13Num.j0]
    rw [if_neg (by decide), num_j1 s false k (by omega)]
    have hnil : s.data.toList = [] := List.length_eq_zero_iff.mp (by omega)
    rw [hnil]
    rfl
theorem parse_of : ∀ (l : List UInt8) (acc v : Nat), Lib.decFrom acc l = some v → v < 1000000000000000000 → Lib.parseUint10 acc l = .ok v := by
  intro l
  induction l with
  | nil => intro acc v h _; simp only [Lib.decFrom] at h; injection h with h; subst h; rfl
  | cons x l ih =>
    intro acc v h hv
    simp only [Lib.decFrom] at h
    cases hd : Lib.digitVal x with
    | none => rw [hd] at h; cases h
    | some d =>
      rw [hd] at h
      obtain ⟨h1, h2, h3⟩ := Lib.digitVal_eq hd
      have hge := decFrom_ge l _ _ h
      simp only [Lib.parseUint10]
      rw [if_pos ⟨h1, h2⟩, if_neg (by omega), if_neg (by omega), ← h3]
      exact ih _ _ h hv
theorem atoi_itoa (n : Int) (h0 : -1000 ≤ n) (h1 : n ≤ 1000) : Lib.atoiAll (Lib.itoa n) = .ok n := by
  unfold Lib.itoa
  by_cases hn : n < 0
  · rw [if_pos hn]
    unfold Lib.atoiAll
    simp only
    rw [if_pos (by decide)]
    unfold Lib.parseMag
    rw [if_neg (decDigits_ne _), parse_of _ 0 _ (dec_value _) (by omega)]
    simp only
    rw [if_neg (fun h => h.1 (by decide)), if_neg (fun h => by have := h.2; omega), if_pos (by decide)]
    congr 1
    omega
  · rw [if_neg hn]
    cases hd : Lib.decDigits n.toNat with
    | nil => exact absurd hd (decDigits_ne _)
    | cons c r =>
      have hv := dec_value n.toNat
      rw [hd] at hv
      have hc : 48 ≤ c.toNat := by
        simp only [Lib.decFrom] at hv
        cases hdv : Lib.digitVal c with
        | none => rw [hdv] at hv; cases hv
        | some d => exact (Lib.digitVal_eq hdv).1
      unfold Lib.atoiAll
      simp only
      rw [if_neg (by omega)]
      unfold Lib.parseMag
      rw [if_neg (by simp), parse_of _ 0 _ hv (by omega)]
      simp only
      rw [if_neg (fun h => by have := h.2; omega), if_neg (fun h => by have := h.1; omega), if_neg (by omega)]
      congr 1
      omega
theorem read_itoa (n : Int) (h0 : -1000 ≤ n) (h1 : n ≤ 1000) : readV (Lib.itoa n) = (n, true) := by
  have plain : ∀ (u : Nat) (neg : Bool), u ≤ 1000 → (u = 0 → neg = false) → plainL neg (Lib.decDigits u) = true := by
    intro u neg hu hz
    have hl := fun h => dec_first u h
    have hlen : (Lib.decDigits u).length ≤ 4 := by
      rw [decDigits_eq]
      split
      · simp
      · rw [decDigits_eq]
        split
        · simp
        · rw [decDigits_eq]
          split
          · simp
          · rw [decDigits_eq, if_pos (by omega)]; simp
    have hne := decDigits_ne u
    unfold plainL
    cases hd : Lib.decDigits u with
    | nil => exact absurd hd hne
    | cons c r =>
      rw [hd] at hlen
      rw [decide_eq_true (show 1 ≤ (c :: r).length by simp), decide_eq_true (show (c :: r).length ≤ 17 by omega)]
      show (true && true && if c = 48 then _ else true) = true
      by_cases hc : c = 48
      · rw [if_pos hc]
        have hu0 : u = 0 := by
          by_cases h : u = 0
          · exact h
          · exact absurd hc (hl (by omega) c r hd)
        rw [hz hu0]
        subst hu0
        rw [decDigits_eq, if_pos (by omega)] at hd
        injection hd with _ hr
        subst hr
        rfl
      · rw [if_neg hc]; rfl
  unfold Lib.itoa
  by_cases hn : n < 0
  · rw [if_pos hn]
    unfold readV
    simp only
    rw [if_pos trivial, if_pos (plain n.natAbs true (by omega) (by omega))]
    unfold numV
    rw [dec_value]
    simp only [if_true]
    congr 1
    omega
  · rw [if_neg hn]
    have hp := plain n.toNat false (by omega) (fun _ => rfl)
    cases hd : Lib.decDigits n.toNat with
    | nil => exact absurd hd (decDigits_ne _)
    | cons c r =>
      have hv := dec_value n.toNat
      rw [hd] at hv hp
      have hc : c ≠ 45 := by
        intro e
        subst e
        simp only [Lib.decFrom] at hv
        rw [show Lib.digitVal 45 = none by decide] at hv
        cases hv
      unfold readV
      simp only
      rw [if_neg hc, if_pos hp]
      unfold numV
      rw [hv]
      simp only [Bool.false_eq_true, if_false]
      congr 1
      omega
theorem plain_canon {neg : Bool} {l : List UInt8} (h : plainL neg l = true) : l ≠ [] ∧ (∀ r, l = 48 :: r → r = [] ∧ neg = false) := by
  unfold plainL at h
  simp only [Bool.and_eq_true, decide_eq_true_eq] at h
  refine ⟨fun e => by rw [e] at h; simp at h, fun r e => ?_⟩
  subst e
  have h2 := h.2
  rw [List.getD_cons_zero, if_pos rfl] at h2
  simp only [Bool.and_eq_true, decide_eq_true_eq, Bool.not_eq_true'] at h2
  exact ⟨List.length_eq_zero_iff.mp (by have := h2.1; simp at this; rw [this]; rfl), h2.2⟩
/-- What is read is what Itoa writes. -/
theorem itoa_read {l : List UInt8} {n : Int} (h : readV l = (n, true)) : l = Lib.itoa n := by
  have key : ∀ (neg : Bool) (l : List UInt8), (if plainL neg l = true then numV neg l else (0, false)) = (n, true) → l = Lib.decDigits n.natAbs ∧ (if neg then n ≤ 0 else 0 ≤ n) ∧ (neg = true → n ≠ 0) := by
    intro neg l h
    by_cases hp : plainL neg l = true
    · rw [if_pos hp] at h
      obtain ⟨hne, hz⟩ := plain_canon hp
      unfold numV at h
      cases hv : Lib.decFrom 0 l with
      | none => rw [hv] at h; injection h with _ h; cases h
      | some v =>
        rw [hv] at h
        simp only at h
        injection h with h _
        have hc := dec_canon l v hne hv (fun r e => (hz r e).1)
        cases neg with
        | true =>
          rw [if_pos rfl] at h
          refine ⟨by rw [hc]; congr 1; omega, by simp; omega, fun _ hn0 => ?_⟩
          have hv0 : v = 0 := by omega
          subst hv0
          rw [decDigits_eq, if_pos (by omega)] at hc
          have := (hz [] (by rw [hc]; rfl)).2
          cases this
        | false =>
          rw [if_neg (by decide)] at h
          exact ⟨by rw [hc]; congr 1; omega, by simp; omega, fun e => by cases e⟩
    · rw [if_neg hp] at h
      injection h with _ h
      cases h
  unfold readV at h
  cases l with
  | nil => injection h with _ h; cases h
  | cons c r =>
    simp only at h
    by_cases hc : c = 45
    · rw [if_pos hc] at h
      obtain ⟨h1, h2, h3⟩ := key true r h
      rw [if_pos rfl] at h2
      have := h3 rfl
      unfold Lib.itoa
      rw [if_pos (by omega), hc, ← h1]
    · rw [if_neg hc] at h
      obtain ⟨h1, h2, _⟩ := key false (c :: r) h
      rw [if_neg (by decide)] at h2
      unfold Lib.itoa
      rw [if_neg (by omega), h1]
      congr 1
      omega
end Go.Proofs.YtajhjdhkeahlpaaDoor.L

/- What InsRead computes: both sides agree. -/
namespace Go.Proofs.YtajhjdhkeahlpaaDoor.L
open Go.RowKit Go.Proofs.YtajhjdhkeahlpaaDoor.P Go.Proofs.YtajhjdhkeahlpaaDoorW.PrintWords
set_option linter.unusedVariables false
set_option linter.unusedSimpArgs false
theorem ba_ext {a b : ByteArray} (h : a.data.toList = b.data.toList) : a = b := ByteArray.ext (Array.toList_inj.mp h)
theorem ba_iff (a b : ByteArray) : a.toList = b.toList ↔ a = b := by
  rw [Lib.toList_data, Lib.toList_data]
  exact ⟨ba_ext, fun h => by rw [h]⟩
theorem find_l0 (s : ByteArray) (hs : s.size ≤ 140737488351232) : ∀ (m i k : Nat), i + m = s.size → m < k →
    spec_l13Find.l0 k s 32 (i : Int) = some (if Lib.indexByte (s.data.toList.drop i) 32 = -1 then -1 else (i : Int) + Lib.indexByte (s.data.toList.drop i) 32) := by
  have hlen : s.data.toList.length = s.size := by simp
  intro m
  induction m with
  | zero =>
    intro i k hi hk
    obtain ⟨k, rfl, hk⟩ := succ_of hk
    simp only [spec_l13Find.l0]
    rw [if_neg (by omega), List.drop_eq_nil_of_le (by omega)]
    rfl
  | succ m ih =>
    intro i k hi hk
    obtain ⟨k, rfl, hk⟩ := succ_of hk
    obtain ⟨b, hb, hbt⟩ := bt_get s i (by omega)
    have hdrop : s.data.toList.drop i = b :: s.data.toList.drop (i + 1) := by
      rw [List.drop_eq_getElem_cons (by omega)]
      congr 1
      rw [List.getElem?_eq_getElem (by omega)] at hb
      exact Option.some.inj hb
    simp only [spec_l13Find.l0]
    rw [if_pos (by omega), if_pos (by omega), hbt, hdrop]
    by_cases h : (b.toNat : Int) = 32
    · have hb32 : b = 32 := by apply UInt8.toNat_inj.mp; show b.toNat = 32; omega
      have eI : Lib.indexByte (b :: s.data.toList.drop (i + 1)) 32 = 0 := by subst hb32; rfl
      rw [if_pos h, eI, if_neg (by decide), Int.add_zero]
    · have hb32 : (b == 32) = false := by rw [beq_eq_false_iff_ne]; intro e; exact h (by rw [e]; rfl)
      have eI : Lib.indexByte (b :: s.data.toList.drop (i + 1)) 32 = if Lib.indexByte (s.data.toList.drop (i + 1)) 32 == -1 then -1 else Lib.indexByte (s.data.toList.drop (i + 1)) 32 + 1 := by
        simp only [Lib.indexByte, hb32, Bool.false_eq_true, if_false]
      rw [if_neg h, eI, wrap_id (by omega) (by omega)]
      have e := ih (i + 1) k (by omega) (by omega)
      have e' : spec_l13Find.l0 k s 32 ((i : Int) + 1) = _ := e
      rw [e']
      have hge := Lib.indexByte_ge (s.data.toList.drop (i + 1)) 32
      generalize Lib.indexByte (s.data.toList.drop (i + 1)) 32 = x at hge
      by_cases hx : x = -1
      · subst hx; rfl
      · rw [if_neg hx, if_neg (show ¬ ((x == -1) = true) by rw [beq_iff_eq]; exact hx), if_neg (by omega)]
        congr 1
        omega
theorem spec_l13Find_f (s : ByteArray) (hs : s.size ≤ 140737488351232) (k : Nat) (hk : s.size < k) : spec_l13Find.f k s 32 = some (spaceAt s) := by
  have e := find_l0 s hs s.size 0 k (by omega) hk
  rw [List.drop_zero] at e
  unfold spec_l13Find.f
  have e' : spec_l13Find.l0 k s 32 0 = _ := e
  rw [e']
  congr 1
  unfold spaceAt
  by_cases h : Lib.indexByte s.data.toList 32 = -1
  · rw [if_pos h, h]
  · rw [if_neg h]; omega
theorem word_inj {i j : Int} (hi0 : 1 ≤ i) (hi1 : i ≤ 7) (hj0 : 1 ≤ j) (hj1 : j ≤ 7) (h : wordV i = wordV j) : i = j := by
  have h2 := congrArg (fun s : ByteArray => s.data.toList) h
  clear h
  rcases op_cases hi0 hi1 with rfl | rfl | rfl | rfl | rfl | rfl | rfl <;> rcases op_cases hj0 hj1 with rfl | rfl | rfl | rfl | rfl | rfl | rfl <;> first | rfl | (exfalso; revert h2; decide)
def noneR : Int × Int × ByteArray × Bool := (0, 0, (⟨#[]⟩ : ByteArray), false)
/-- What stands behind the word is an instruction's rest. -/
def restV (x4 : Int) (rest : ByteArray) (j : Int) : Int × Int × ByteArray × Bool :=
  if j = 2 then (if (readV rest.data.toList).2 = true ∧ insOkB 2 (readV rest.data.toList).1 (⟨#[]⟩ : ByteArray) = true then (2, (readV rest.data.toList).1, (⟨#[]⟩ : ByteArray), true) else noneR)
  else if refersB j = true then (if insOkB j 0 rest = true then (j, 0, rest, true) else noneR)
  else (if x4 < 0 ∧ insOkB j 0 (⟨#[]⟩ : ByteArray) = true then (j, 0, (⟨#[]⟩ : ByteArray), true) else noneR)
theorem spec_none (x4 : Int) (w rest : ByteArray) : ∀ (m : Nat) (i : Int) (k : Nat), i + m = 8 → 1 ≤ i → m < k → (∀ j, i ≤ j → j ≤ 7 → wordV j ≠ w) → spec_InsRead.l0 k x4 w rest i = some noneR := by
  intro m
  induction m with
  | zero =>
    intro i k hi h1 hk _
    obtain ⟨k, rfl, hk⟩ := succ_of hk
    simp only [spec_InsRead.l0]
    rw [if_neg (by omega)]
    rfl
  | succ m ih =>
    intro i k hi h1 hk hw
    obtain ⟨k, rfl, hk⟩ := succ_of hk
    simp only [spec_InsRead.l0]
    unfold spec_l1Words.f
    simp only [Option.bind_some]
    rw [if_pos (by omega), if_pos (by omega), if_pos (by show i < 8; omega)]
    show (if (wordV i).toList = w.toList then _ else spec_InsRead.l0 k x4 w rest (wrap64 (i + 1))) = _
    rw [if_neg (fun e => hw i (by omega) (by omega) ((ba_iff _ _).mp e)), wrap_id (by omega) (by omega)]
    exact ih (i + 1) k (by omega) (by omega) (by omega) (fun j h0 h7 => hw j (by omega) h7)
theorem spec_hit (x4 : Int) (w rest : ByteArray) (hr : rest.size ≤ 140737488351232) (j : Int) (h1 : 1 ≤ j) (h7 : j ≤ 7) (hw : wordV j = w) : ∀ (m : Nat) (i : Int) (k : Nat), i + m = j → 1 ≤ i → rest.size + 1000 + m < k → spec_InsRead.l0 k x4 w rest i = some (restV x4 rest j) := by
  have hno : ∀ i, 1 ≤ i → i ≤ 7 → i ≠ j → wordV i ≠ w := fun i h0 h8 hne e => hne (word_inj h0 h8 h1 h7 (e.trans hw.symm))
  intro m
  induction m with
  | zero =>
    intro i k hi h0 hk
    obtain rfl : i = j := by omega
    obtain ⟨k, rfl⟩ : ∃ q, k = q + 2 := ⟨k - 2, by omega⟩
    have htail : ∀ q, 10 < q → spec_InsRead.l0 q x4 w rest (wrap64 (i + 1)) = some noneR := fun q hq => by
      rw [wrap_id (by omega) (by omega)]
      exact spec_none x4 w rest (7 - i).toNat (i + 1) q (by omega) (by omega) (by omega) (fun q' h8 h9 => hno q' (by omega) h9 (by omega))
    have hj2 : ∀ (b : Bool) (n : Int) (nm : ByteArray), nm.size ≤ rest.size → spec_InsRead.j2 (k + 1) x4 w rest i b i n nm = some (if b = true ∧ insOkB i n nm = true then (i, n, nm, true) else noneR) := by
      intro b n nm hnm
      simp only [spec_InsRead.j2]
      cases b with
      | false => rw [if_neg (by decide), htail k (by omega), if_neg (fun h => Bool.noConfusion h.1)]
      | true =>
        rw [if_pos rfl, spec_InsOk_f i n nm (by omega) k (by omega)]
        simp only [Option.bind_some]
        by_cases hok : insOkB i n nm = true
        · rw [if_pos hok, if_pos ⟨by first | rfl | trivial, hok⟩]
        · rw [if_neg hok, htail k (by omega), if_neg (fun h => hok h.2)]
    simp only [spec_InsRead.l0]
    unfold spec_l1Words.f
    simp only [Option.bind_some]
    rw [if_pos (by omega), if_pos (by omega), if_pos (by show i < 8; omega)]
    show (if (wordV i).toList = w.toList then _ else _) = _
    rw [if_pos ((ba_iff _ _).mpr hw)]
    unfold restV
    by_cases h2 : i = 2
    · rw [if_pos h2, if_pos h2, spec_l13Num_f rest hr (k + 1) (by omega)]
      simp only [Option.bind_some]
      rw [hj2 _ _ _ (by show 0 ≤ _; omega)]
      subst h2
      rfl
    · rw [if_neg h2, if_neg h2, spec_InsRefs_f]
      simp only [Option.bind_some]
      by_cases hrf : refersB i = true
      · rw [if_pos hrf, if_pos hrf, hj2 _ _ _ (Nat.le_refl _)]
        by_cases hok : insOkB i 0 rest = true
        · rw [if_pos ⟨rfl, hok⟩, if_pos hok]
        · rw [if_neg (fun h => hok h.2), if_neg hok]
      · rw [if_neg hrf, if_neg hrf, hj2 _ _ _ (by show 0 ≤ _; omega)]
        by_cases hx : x4 < 0
        · rw [decide_eq_true hx]
          by_cases hok : insOkB i 0 (⟨#[]⟩ : ByteArray) = true
          · rw [if_pos ⟨rfl, hok⟩, if_pos ⟨hx, hok⟩]
          · rw [if_neg (fun h => hok h.2), if_neg (fun h => hok h.2)]
        · rw [decide_eq_false hx, if_neg (fun h => Bool.noConfusion h.1), if_neg (fun h => hx h.1)]
  | succ m ih =>
    intro i k hi h0 hk
    obtain ⟨k, rfl, hk⟩ := succ_of hk
    simp only [spec_InsRead.l0]
    unfold spec_l1Words.f
    simp only [Option.bind_some]
    rw [if_pos (by omega), if_pos (by omega), if_pos (by show i < 8; omega)]
    show (if (wordV i).toList = w.toList then _ else spec_InsRead.l0 k x4 w rest (wrap64 (i + 1))) = _
    rw [if_neg (fun e => hno i h0 (by omega) (by omega) ((ba_iff _ _).mp e)), wrap_id (by omega) (by omega)]
    exact ih (i + 1) k (by omega) (by omega) (by omega)
theorem spec_read (s : ByteArray) (hs : s.size ≤ 140737488351232) (k : Nat) (hk : s.size + 2000 < k) :
    ∃ q, s.size + 1990 ≤ q ∧ spec_InsRead.f k s = spec_InsRead.l0 q (spaceAt s) (cutA s) (cutB s) 1 := by
  have hin := spaceAt_in s
  obtain ⟨k, rfl⟩ : ∃ q, k = q + 1 := ⟨k - 1, by omega⟩
  refine ⟨k, by omega, ?_⟩
  unfold spec_InsRead.f
  rw [spec_l13Find_f s hs _ (by omega)]
  simp only [Option.bind_some]
  unfold cutA cutB
  by_cases h : 0 ≤ spaceAt s
  · rw [if_pos (show spaceAt s ≥ 0 from h), if_pos h, if_pos (by omega), if_pos h, if_pos h, wrap_id (by omega) (by omega), if_pos (by omega), if_pos (by omega)]
    simp only [spec_InsRead.j0]
    rw [show (spaceAt s + 1).toNat = (spaceAt s).toNat + 1 by omega]
  · rw [if_neg (show ¬ spaceAt s ≥ 0 from h), if_neg h, if_neg h]
    simp only [spec_InsRead.j0]
/-- The words that the program knows. -/
def words9 : List ByteArray := [(⟨#[]⟩ : ByteArray), (⟨#[115, 97, 121]⟩ : ByteArray), (⟨#[97, 100, 100]⟩ : ByteArray), (⟨#[99, 97, 108, 108]⟩ : ByteArray), (⟨#[103, 111]⟩ : ByteArray), (⟨#[105, 102]⟩ : ByteArray), (⟨#[114, 101, 116]⟩ : ByteArray), (⟨#[101, 110, 100]⟩ : ByteArray), (⟨#[102, 97, 114]⟩ : ByteArray)]
theorem words9_at {j : Int} (h0 : 1 ≤ j) (h1 : j ≤ 7) : rdOf ByteArray.empty words9 j = wordV j := by
  rcases op_cases h0 h1 with rfl | rfl | rfl | rfl | rfl | rfl | rfl <;> rfl
theorem idx_res (w : ByteArray) : ∀ (m i k : Nat), i + m = 9 → m < k → ∃ r : Int, slices_Index_sstring_string.l0 k words9 w 9 (i : Int) = some r ∧ (r = -1 ∨ ((i : Int) ≤ r ∧ r < 9 ∧ rdOf ByteArray.empty words9 r = w)) ∧ ∀ j : Int, (i : Int) ≤ j → j < 9 → rdOf ByteArray.empty words9 j = w → 0 ≤ r ∧ r ≤ j := by
  intro m
  induction m with
  | zero =>
    intro i k hi hk
    obtain ⟨k, rfl, hk⟩ := succ_of hk
    refine ⟨-1, ?_, .inl rfl, fun j h0 h1 => by omega⟩
    simp only [slices_Index_sstring_string.l0]
    rw [if_neg (by omega)]
  | succ m ih =>
    intro i k hi hk
    obtain ⟨k, rfl, hk⟩ := succ_of hk
    simp only [slices_Index_sstring_string.l0]
    rw [if_pos (by omega), if_pos (by omega), if_pos (by show (i : Int) < 9; omega)]
    by_cases h : w.toList = (rdOf ByteArray.empty words9 (i : Int)).toList
    · rw [if_pos h]
      exact ⟨i, rfl, .inr ⟨Int.le_refl _, by omega, ((ba_iff _ _).mp h).symm⟩, fun j h0 h1 _ => by omega⟩
    · rw [if_neg h, wrap_id (by omega) (by omega)]
      obtain ⟨r, e, h2, h3⟩ := ih (i + 1) k (by omega) (by omega)
      refine ⟨r, e, ?_, fun j h0 h1 hj => ?_⟩
      · rcases h2 with h2 | ⟨h4, h5, h6⟩
        · exact .inl h2
        · exact .inr ⟨by omega, h5, h6⟩
      · by_cases hji : j = (i : Int)
        · subst hji; exact absurd ((ba_iff _ _).mpr hj.symm) h
        · exact h3 j (by omega) h1 hj
theorem op_res (w : ByteArray) (k : Nat) (hk : 20 < k) : ∃ op : Int, impl_opOf.f k w = some op ∧ ((1 ≤ op ∧ op ≤ 7 ∧ wordV op = w) ∨ ((op = 0 ∨ op = 8) ∧ ∀ j, 1 ≤ j → j ≤ 7 → wordV j ≠ w)) := by
  obtain ⟨r, e, h1, h2⟩ := idx_res w 9 0 k (by omega) (by omega)
  refine ⟨mx 0 r, ?_, ?_⟩
  · unfold impl_opOf.f slices_Index_sstring_string.f
    have e' : slices_Index_sstring_string.l0 k words9 w 9 0 = some r := e
    show (slices_Index_sstring_string.l0 k words9 w ((words9.length : Nat) : Int) 0).bind _ = _
    rw [show ((words9.length : Nat) : Int) = 9 from rfl, e']
    rfl
  · have hm : mx 0 r = if r < 0 then 0 else r := by
      unfold mx
      split <;> split <;> omega
    rw [hm]
    by_cases hex : ∃ j : Int, 1 ≤ j ∧ j ≤ 7 ∧ wordV j = w
    · obtain ⟨j, hj0, hj1, hj⟩ := hex
      obtain ⟨h3, h4⟩ := h2 j (by omega) (by omega) ((words9_at hj0 hj1).trans hj)
      rcases h1 with h1 | ⟨_, h5, h6⟩
      · omega
      · rw [if_neg (by omega)]
        refine .inl ?_
        by_cases hr0 : r = 0
        · exfalso
          subst hr0
          have e0 : wordV j = (⟨#[]⟩ : ByteArray) := hj.trans (h6.symm.trans rfl)
          have e1 := congrArg ByteArray.size e0
          rcases op_cases hj0 hj1 with rfl | rfl | rfl | rfl | rfl | rfl | rfl <;> (revert e1; decide)
        · exact ⟨by omega, by omega, (words9_at (by omega) (by omega)).symm.trans h6⟩
    · refine .inr ⟨?_, fun j h0 h7 e => hex ⟨j, h0, h7, e⟩⟩
      rcases h1 with h1 | ⟨_, h5, h6⟩
      · rw [if_pos (by omega)]; exact .inl rfl
      · rw [if_neg (by omega)]
        by_cases hr0 : r = 0
        · exact .inl hr0
        · by_cases hr8 : r = 8
          · exact .inr hr8
          · exact absurd ⟨r, by omega, by omega, (words9_at (by omega) (by omega)).symm.trans h6⟩ hex
theorem cut_found {s : ByteArray} (h : 0 ≤ spaceAt s) : s = (cutA s ++ (⟨#[32]⟩ : ByteArray)) ++ cutB s := by
  obtain ⟨o, ho⟩ : ∃ o : Nat, spaceAt s = o := ⟨(spaceAt s).toNat, by omega⟩
  have hb := (Lib.indexByte_some (l := s.data.toList) (c := 32) (o := o) ho).1
  have hlen : s.data.toList.length = s.size := by simp
  have hol : o < s.data.toList.length := by
    by_cases h4 : o < s.data.toList.length
    · exact h4
    · rw [List.getElem?_eq_none (by omega)] at hb; cases hb
  unfold cutA cutB
  rw [if_pos h, if_pos h, ho, Int.toNat_natCast]
  apply ba_ext
  rw [ByteArray.data_append, ByteArray.data_append, ByteArray.data_extract, ByteArray.data_extract, Array.toList_append, Array.toList_append, Array.toList_extract, Array.toList_extract, List.extract_eq_take_drop, List.extract_eq_take_drop]
  have hd : s.data.toList.drop o = 32 :: s.data.toList.drop (o + 1) := by
    rw [List.drop_eq_getElem_cons hol]
    congr 1
    rw [List.getElem?_eq_getElem hol] at hb
    exact Option.some.inj hb
  have ht : (s.data.toList.drop (o + 1)).take (s.size - (o + 1)) = s.data.toList.drop (o + 1) := List.take_of_length_le (by rw [List.length_drop]; omega)
  rw [ht, List.drop_zero, Nat.sub_zero]
  show s.data.toList = s.data.toList.take o ++ [32] ++ s.data.toList.drop (o + 1)
  rw [List.append_assoc]
  show s.data.toList = s.data.toList.take o ++ 32 :: s.data.toList.drop (o + 1)
  rw [← hd, List.take_append_drop]
theorem cut_not {s : ByteArray} (h : ¬ 0 ≤ spaceAt s) : cutA s = s ∧ cutB s = (⟨#[]⟩ : ByteArray) := ⟨if_neg h, if_neg h⟩
theorem cutB_size (s : ByteArray) : (cutB s).size ≤ s.size := by
  unfold cutB
  split
  · rw [ByteArray.size_extract]; omega
  · show 0 ≤ _; omega
theorem app_cancel {a b c : ByteArray} (h : a ++ b = a ++ c) : b = c := by
  have h2 := congrArg (fun s : ByteArray => s.data.toList) h
  simp only [ByteArray.data_append, Array.toList_append] at h2
  exact ba_ext (List.append_cancel_left h2)
/-- What the program finds behind the word. -/
theorem impl_rest (s : ByteArray) (hs : s.size ≤ 140737488351232) (op : Int) (h1 : 1 ≤ op) (h7 : op ≤ 7) (hw : wordV op = cutA s) (k : Nat) (hk : s.size + 100 < k) (n : Int) (nm : ByteArray) (hnm : nm.size ≤ s.size)
    (hcase : op = 2 ∧ n = atoiN (cutB s) ∧ nm = (⟨#[]⟩ : ByteArray) ∨ op ≠ 2 ∧ refersB op = true ∧ n = 0 ∧ nm = cutB s ∨ op ≠ 2 ∧ ¬ refersB op = true ∧ n = 0 ∧ nm = (⟨#[]⟩ : ByteArray)) :
    impl_InsRead.j0 k s op n nm = some (restV (spaceAt s) (cutB s) op) := by
  obtain ⟨k, rfl⟩ : ∃ q, k = q + 1 := ⟨k - 1, by omega⟩
  have hne : ¬ s.toList = ([] : List UInt8) := by
    intro e
    rw [Lib.toList_data] at e
    have h0 : s.size = 0 := by have : s.data.toList.length = s.size := by simp
                               rw [e] at this; exact this.symm
    have hA : (cutA s).size ≤ s.size := by
      unfold cutA
      split
      · rw [ByteArray.size_extract]; omega
      · exact Nat.le_refl _
    rw [← hw] at hA
    have : 1 ≤ (wordV op).size := by rcases op_cases h1 h7 with rfl | rfl | rfl | rfl | rfl | rfl | rfl <;> decide
    omega
  simp only [impl_InsRead.j0]
  rw [if_neg hne, impl_InsText_f op n nm (by omega) k (by omega)]
  simp only [Option.bind_some]
  have hnil : ∀ x : Int × Int × ByteArray × Bool, (if (⟨#[]⟩ : ByteArray).toList = s.toList then some x else some noneR) = some noneR := fun x => by
    rw [if_neg]
    intro e
    rw [Lib.toList_data] at e
    exact hne e.symm
  show (if (textV op n nm).toList = s.toList then some (op, n, nm, true) else some noneR) = _
  rcases hcase with ⟨rfl, rfl, rfl⟩ | ⟨h2, hr, rfl, rfl⟩ | ⟨h2, hr, rfl, rfl⟩
  · -- a number
    unfold restV
    rw [if_pos rfl]
    have hfwd : ∀ m : Int, readV (cutB s).data.toList = (m, true) → -1000 ≤ m → m ≤ 1000 → atoiN (cutB s) = m ∧ cutB s = itoaS m ∧ 0 ≤ spaceAt s := by
      intro m hm hm0 hm1
      have hl := itoa_read hm
      refine ⟨?_, ba_ext (by rw [hl]; rfl), ?_⟩
      · unfold atoiN
        rw [hl, atoi_itoa m hm0 hm1]
      · by_cases h : 0 ≤ spaceAt s
        · exact h
        · rw [(cut_not h).2] at hm
          cases hm
    unfold textV
    by_cases hok : insOkB 2 (atoiN (cutB s)) (⟨#[]⟩ : ByteArray) = true
    · obtain ⟨_, _, hn0, hn1⟩ := insOk_in hok
      rw [if_pos hok, if_pos rfl]
      by_cases he : ((wordV 2 ++ (⟨#[32]⟩ : ByteArray)) ++ itoaS (atoiN (cutB s))).toList = s.toList
      · rw [if_pos he]
        have he2 := (ba_iff _ _).mp he
        have hfound : 0 ≤ spaceAt s := by
          by_cases h : 0 ≤ spaceAt s
          · exact h
          · exfalso
            rw [(cut_not h).1] at hw
            rw [← hw] at he2
            have := congrArg ByteArray.size he2
            rw [ByteArray.size_append, ByteArray.size_append] at this
            have h32 : (⟨#[32]⟩ : ByteArray).size = 1 := rfl
            omega
        have hs2 := cut_found hfound
        rw [← hw] at hs2
        have hB : itoaS (atoiN (cutB s)) = cutB s := app_cancel (he2.trans hs2)
        have hrd : readV (cutB s).data.toList = (atoiN (cutB s), true) := by
          have := read_itoa _ hn0 hn1
          have e3 : (cutB s).data.toList = Lib.itoa (atoiN (cutB s)) := (congrArg (fun x : ByteArray => x.data.toList) hB.symm).trans rfl
          rw [e3]
          exact this
        rw [hrd, if_pos ⟨rfl, hok⟩]
      · rw [if_neg he, if_neg]
        rintro ⟨ha, hb⟩
        obtain ⟨_, _, hm0, hm1⟩ := insOk_in hb
        obtain ⟨e1, e2, e3⟩ := hfwd _ (Prod.ext rfl ha) hm0 hm1
        refine he ((ba_iff _ _).mpr ?_)
        have hs2 := cut_found e3
        rw [← hw] at hs2
        rw [e1, ← e2]
        exact hs2.symm
    · rw [if_neg hok, hnil, if_neg]
      rintro ⟨ha, hb⟩
      obtain ⟨_, _, hm0, hm1⟩ := insOk_in hb
      obtain ⟨e1, _, _⟩ := hfwd _ (Prod.ext rfl ha) hm0 hm1
      rw [e1] at hok
      exact hok hb
  · -- a name
    unfold restV
    rw [if_neg h2, if_pos hr]
    unfold textV
    by_cases hok : insOkB op 0 (cutB s) = true
    · rw [if_pos hok, if_neg h2, if_pos hr, if_pos hok]
      have hfound : 0 ≤ spaceAt s := by
        by_cases h : 0 ≤ spaceAt s
        · exact h
        · exfalso
          rw [(cut_not h).2] at hok
          unfold insOkB at hok
          rw [if_pos hr, show nameOk (⟨#[]⟩ : ByteArray) = false from rfl, Bool.and_false, Bool.and_false] at hok
          cases hok
      have hs2 := cut_found hfound
      rw [← hw] at hs2
      rw [if_pos ((ba_iff _ _).mpr hs2.symm)]
    · rw [if_neg hok, hnil, if_neg hok]
  · -- a word alone
    unfold restV
    rw [if_neg h2, if_neg hr]
    unfold textV
    by_cases hok : insOkB op 0 (⟨#[]⟩ : ByteArray) = true
    · rw [if_pos hok, if_neg h2, if_neg hr]
      by_cases h : 0 ≤ spaceAt s
      · rw [if_neg, if_neg (fun h' => by have := h'.1; omega)]
        intro e
        have e2 := (ba_iff _ _).mp e
        have hs2 := cut_found h
        rw [← hw] at hs2
        have := congrArg ByteArray.size (e2.trans hs2)
        rw [ByteArray.size_append, ByteArray.size_append] at this
        have h32 : (⟨#[32]⟩ : ByteArray).size = 1 := rfl
        omega
      · rw [if_pos ((ba_iff _ _).mpr (hw.trans (cut_not h).1)), if_pos ⟨by omega, hok⟩]
    · rw [if_neg hok, hnil, if_neg (fun h' => hok h'.2)]
/-- Both sides agree. -/
theorem read_both (s : ByteArray) (hs : s.size ≤ 2000000) (k : Nat) (hk : s.size + 10000 < k) : ∃ a n nm b, spec_InsRead.f k s = some (a, n, nm, b) ∧ impl_InsRead.f k s = some (a, n, nm, b) ∧ (b = true → insOkB a n nm = true ∧ textV a n nm = s ∧ nm.size ≤ s.size) := by
  obtain ⟨q, hq, es⟩ := spec_read s (by omega) k (by omega)
  have hB := cutB_size s
  obtain ⟨op, eo, h⟩ := op_res (cutA s) k (by omega)
  have ei : impl_InsRead.f k s = if op = 2 then impl_InsRead.j0 k s op (atoiN (cutB s)) (⟨#[]⟩ : ByteArray) else if refersB op = true then impl_InsRead.j0 k s op 0 (cutB s) else impl_InsRead.j0 k s op 0 (⟨#[]⟩ : ByteArray) := by
    unfold impl_InsRead.f strings_Cut.f
    rw [if_pos ⟨by omega, rfl⟩]
    simp only [Option.bind_some]
    rw [eo]
    simp only [Option.bind_some]
    by_cases h2 : op = 2
    · rw [if_pos h2, if_pos h2]
      unfold impl_number.f
      rw [if_pos (by omega)]
      simp only [Option.bind_some]
    · rw [if_neg h2, if_neg h2, impl_refers_f]
      simp only [Option.bind_some]
      by_cases hr : refersB op = true
      · rw [if_pos (by exact hr), if_pos hr]
      · rw [if_neg (by exact hr), if_neg hr]
  rcases h with ⟨h1, h7, hw⟩ | ⟨h08, hno⟩
  · have e1 := spec_hit (spaceAt s) (cutA s) (cutB s) (by omega) op h1 h7 hw (op - 1).toNat 1 q (by omega) (by omega) (by omega)
    have e2 : impl_InsRead.f k s = some (restV (spaceAt s) (cutB s) op) := by
      rw [ei]
      by_cases h2 : op = 2
      · rw [if_pos h2]
        exact impl_rest s (by omega) op h1 h7 hw k (by omega) _ _ (by show 0 ≤ _; omega) (.inl ⟨h2, rfl, rfl⟩)
      · rw [if_neg h2]
        by_cases hr : refersB op = true
        · rw [if_pos hr]; exact impl_rest s (by omega) op h1 h7 hw k (by omega) _ _ hB (.inr (.inl ⟨h2, hr, rfl, rfl⟩))
        · rw [if_neg hr]; exact impl_rest s (by omega) op h1 h7 hw k (by omega) _ _ (by show 0 ≤ _; omega) (.inr (.inr ⟨h2, hr, rfl, rfl⟩))
    refine ⟨(restV (spaceAt s) (cutB s) op).1, (restV (spaceAt s) (cutB s) op).2.1, (restV (spaceAt s) (cutB s) op).2.2.1, (restV (spaceAt s) (cutB s) op).2.2.2, es.trans e1, e2, fun hb => ?_⟩
    -- what is read is ok, and its text is the text
    have hj : ∀ (a n : Int) (nm : ByteArray), a = op → nm.size ≤ s.size → impl_InsRead.j0 k s op n nm = some (restV (spaceAt s) (cutB s) op) → insOkB (restV (spaceAt s) (cutB s) op).1 (restV (spaceAt s) (cutB s) op).2.1 (restV (spaceAt s) (cutB s) op).2.2.1 = true ∧ textV (restV (spaceAt s) (cutB s) op).1 (restV (spaceAt s) (cutB s) op).2.1 (restV (spaceAt s) (cutB s) op).2.2.1 = s ∧ (restV (spaceAt s) (cutB s) op).2.2.1.size ≤ s.size := by
      intro a n nm _ hnm e
      obtain ⟨k', rfl⟩ : ∃ q, k = q + 1 := ⟨k - 1, by omega⟩
      simp only [impl_InsRead.j0] at e
      by_cases hne : s.toList = ([] : List UInt8)
      · rw [if_pos hne] at e
        have := Option.some.inj e
        rw [← this] at hb
        cases hb
      · rw [if_neg hne, impl_InsText_f op n nm (by omega) k' (by omega)] at e
        simp only [Option.bind_some] at e
        by_cases ht : (textV op n nm).toList = s.toList
        · rw [if_pos ht] at e
          have e3 := Option.some.inj e
          rw [← e3]
          have ht2 := (ba_iff _ _).mp ht
          refine ⟨?_, ht2, hnm⟩
          cases hok : insOkB op n nm with
          | true => rfl
          | false =>
            exfalso
            unfold textV at ht
            rw [hok, if_neg (by decide), Lib.toList_data] at ht
            exact hne ht.symm
        · rw [if_neg ht] at e
          have := Option.some.inj e
          rw [← this] at hb
          cases hb
    rw [ei] at e2
    by_cases h2 : op = 2
    · rw [if_pos h2] at e2; exact hj op _ _ rfl (by show 0 ≤ _; omega) e2
    · rw [if_neg h2] at e2
      by_cases hr : refersB op = true
      · rw [if_pos hr] at e2; exact hj op _ _ rfl hB e2
      · rw [if_neg hr] at e2; exact hj op _ _ rfl (by show 0 ≤ _; omega) e2
  · have e1 := spec_none (spaceAt s) (cutA s) (cutB s) 7 1 q (by omega) (by omega) (by omega) (fun j h0 h7 => hno j h0 h7)
    refine ⟨0, 0, (⟨#[]⟩ : ByteArray), false, es.trans e1, ?_, fun h => by cases h⟩
    have hbad : ∀ n nm, insOkB op n nm = false := by
      intro n nm
      cases hok : insOkB op n nm with
      | false => rfl
      | true => have := insOk_in hok; omega
    have hj : ∀ n (nm : ByteArray), nm.size ≤ s.size → impl_InsRead.j0 k s op n nm = some noneR := by
      intro n nm hnm
      obtain ⟨k', rfl⟩ : ∃ q, k = q + 1 := ⟨k - 1, by omega⟩
      simp only [impl_InsRead.j0]
      by_cases hne : s.toList = ([] : List UInt8)
      · rw [if_pos hne]; rfl
      · rw [if_neg hne, impl_InsText_f op n nm (by omega) k' (by omega)]
        simp only [Option.bind_some]
        have ht0 : textV op n nm = (⟨#[]⟩ : ByteArray) := by unfold textV; rw [hbad n nm]; exact if_neg (by decide)
        rw [ht0, if_neg (show ¬ (⟨#[]⟩ : ByteArray).toList = s.toList by rw [Lib.toList_data]; exact fun e => hne e.symm)]
        rfl
    rw [ei, if_neg (by omega)]
    by_cases hr : refersB op = true
    · rw [if_pos hr]; exact hj _ _ hB
    · rw [if_neg hr]; exact hj _ _ (by show 0 ≤ _; omega)
end Go.Proofs.YtajhjdhkeahlpaaDoor.L

/- What the drawing functions compute: a code is read byte by byte; each pick is within its range. -/
namespace Go.Proofs.YtajhjdhkeahlpaaDoor.L
open Go.RowKit Go.Proofs.YtajhjdhkeahlpaaDoorW.PrintWords Go.Proofs.YtajhjdhkeahlpaaDoorW.PrintLast Go.Proofs.YtajhjdhkeahlpaaDoorW.PrintMore Go.Proofs.YtajhjdhkeahlpaaDoor.P
set_option linter.unusedVariables false
set_option linter.unusedSimpArgs false

/-- The bytes of a code. -/
def Bytes (l : List Int) : Prop := l.length ≤ 1048576 ∧ ∀ x ∈ l, (Lit.int .u8 x).wf = true
theorem Bytes.take {l : List Int} (h : Bytes l) (n : Nat) : Bytes (l.take n) :=
  ⟨Nat.le_trans (by rw [List.length_take]; omega) h.1, fun x hx => h.2 x (List.mem_of_mem_take hx)⟩

theorem spec_l13Open_f (l : List Int) (h : Bytes l) : ∃ l', spec_l13Open.f l = some (l', 0) ∧ Bytes l' ∧ l'.length ≤ 2000 := by
  unfold spec_l13Open.f
  by_cases c : (l.length : Int) > 2000
  · rw [if_pos c, if_pos (by omega)]
    exact ⟨_, rfl, h.take 2000, by rw [List.length_take]; omega⟩
  · rw [if_neg c]
    exact ⟨l, rfl, h, by omega⟩
/-- The number that is made past the end of a code: some number, not negative. -/
theorem mixed (l : List Int) (hl : Bytes l) (h0 : 0 < l.length) (p : Int) (hp : 0 ≤ p) (hp' : p < 1000000000000) (x y q : Int) (hx : 0 ≤ x ∧ x ≤ 255) (hy : 0 ≤ y ∧ y ≤ 255) (hq : 0 ≤ q ∧ q ≤ p) :
    ∃ z, wrap64 ((wrap64 ((wrap64 ((wrap64 (x * 131)) + (wrap64 (y * 1117)))) + (wrap64 (p * 29)))) + (wrap64 (q * 53))) = z ∧ 0 ≤ z ∧ z < 1000000000000000 := by
  refine ⟨x * 131 + y * 1117 + p * 29 + q * 53, ?_, by omega, by omega⟩
  rw [wrap_id (n := x * 131) (by omega) (by omega), wrap_id (n := y * 1117) (by omega) (by omega), wrap_id (n := p * 29) (by omega) (by omega), wrap_id (n := q * 53) (by omega) (by omega),
    wrap_id (n := x * 131 + y * 1117) (by omega) (by omega), wrap_id (n := x * 131 + y * 1117 + p * 29) (by omega) (by omega), wrap_id (n := x * 131 + y * 1117 + p * 29 + q * 53) (by omega) (by omega)]
theorem spec_l13Rd_pick_f (l : List Int) (hl : Bytes l) (p n : Int) (hp : 0 ≤ p) (hp' : p < 1000000000000) (hn : 1 ≤ n) :
    ∃ r, (∀ k, 1 ≤ k → spec_l13Rd_pick.f k l p n = some (r, p + 1)) ∧ 0 ≤ r ∧ r < n := by
  have e1 : wrap64 (p + 1) = p + 1 := wrap_id (by omega) (by omega)
  have e2 : wrap64 (p + 1 - 1) = p := by rw [show p + 1 - 1 = p by omega]; exact wrap_id (by omega) (by omega)
  by_cases h0 : l.length = 0
  · refine ⟨0, fun k hk => ?_, by omega, by omega⟩
    obtain ⟨m, rfl, _⟩ := succ_of hk
    unfold spec_l13Rd_pick.f
    rw [if_neg (by omega), e1]
    simp only [spec_l13Rd_pick.j0]
    rw [if_pos (by rw [h0]; rfl)]
  · have hb : ((l.length : Int) == 0) = false := beq_eq_false_iff_ne.mpr (by omega)
    by_cases c : p < (l.length : Int)
    · have hb2 := rd_byte hl.2 p
      refine ⟨Int.tmod (rd l p) n, fun k hk => ?_, tmod_small hb2.1 hn⟩
      obtain ⟨m, rfl, _⟩ := succ_of hk
      unfold spec_l13Rd_pick.f
      rw [if_neg (by omega), e1, hb]
      simp only [spec_l13Rd_pick.j0]
      rw [if_neg (by decide), e2, if_pos c, if_pos hp, if_neg (by omega), wrap_id (n := rd l p) (by omega) (by omega)]
    · have hL : (1 : Int) ≤ l.length := by omega
      have t1 := tmod_small hp hL
      have h7 : wrap64 (p * 7) = p * 7 := wrap_id (by omega) (by omega)
      have h73 : wrap64 (p * 7 + 3) = p * 7 + 3 := wrap_id (by omega) (by omega)
      have t2 := tmod_small (a := p * 7 + 3) (by omega) hL
      have b1 := rd_byte hl.2 (Int.tmod p l.length)
      have b2 := rd_byte hl.2 (Int.tmod (p * 7 + 3) l.length)
      have q1 := tdiv_small hp hL
      have w1 := wrap_id (n := rd l (Int.tmod p l.length)) (by omega) (by omega)
      have w2 := wrap_id (n := rd l (Int.tmod (p * 7 + 3) l.length)) (by omega) (by omega)
      have w3 := wrap_id (n := Int.tdiv p l.length) (by omega) (by omega)
      obtain ⟨z, hz, z0, z1⟩ := mixed l hl (by omega) p hp hp' _ _ _ b1 b2 q1
      have q2 := tdiv_small (a := z) (n := 64) z0 (by omega)
      have w4 := wrap_id (n := Int.tdiv z 64) (by omega) (by omega)
      have x1 := xor_nonneg z (Int.tdiv z 64) z0 (by omega) q2.1 (by omega)
      refine ⟨Int.tmod (Go.bits .xor .i64 z (Int.tdiv z 64)) n, fun k hk => ?_, tmod_small x1.1 hn⟩
      obtain ⟨m, rfl, _⟩ := succ_of hk
      unfold spec_l13Rd_pick.f
      rw [if_neg (by omega), e1, hb]
      simp only [spec_l13Rd_pick.j0]
      rw [if_neg (by decide), e2, if_neg c, if_neg (by omega), if_pos t1.1, if_pos t1.2, h7, h73, if_pos t2.1, if_pos t2.2, if_neg (by omega), w1, w2, w3, hz, w4]
theorem spec_l13Rd_num_f (l : List Int) (hl : Bytes l) (p : Int) (hp : 0 ≤ p) (hp' : p < 1000000000000) (xs : List Int) (hx : 0 < xs.length) :
    ∃ r, (∀ k, 1 ≤ k → spec_l13Rd_num.f k l p xs = some (r, p + 1)) ∧ r ∈ xs := by
  obtain ⟨r, hr, r0, r1⟩ := spec_l13Rd_pick_f l hl p xs.length hp hp' (by omega)
  refine ⟨rd xs r, fun k hk => ?_, ?_⟩
  · unfold spec_l13Rd_num.f
    rw [hr k hk]
    simp only [Option.bind_some]
    rw [if_pos r0, if_pos r1]
  · unfold rd
    rw [List.getD_eq_getElem?_getD, List.getElem?_eq_getElem (by omega)]
    exact List.getElem_mem _
theorem spec_l13Rd_of_f (l : List Int) (hl : Bytes l) (p : Int) (hp : 0 ≤ p) (hp' : p < 1000000000000) (xs : List ByteArray) (hx : 0 < xs.length) :
    ∃ r, (∀ k, 1 ≤ k → spec_l13Rd_of.f k l p xs = some (r, p + 1)) ∧ r ∈ xs := by
  obtain ⟨r, hr, r0, r1⟩ := spec_l13Rd_pick_f l hl p xs.length hp hp' (by omega)
  refine ⟨rdOf ByteArray.empty xs r, fun k hk => ?_, ?_⟩
  · unfold spec_l13Rd_of.f
    rw [hr k hk]
    simp only [Option.bind_some]
    rw [if_pos r0, if_pos r1]
  · unfold rdOf
    rw [List.getD_eq_getElem?_getD, List.getElem?_eq_getElem (by omega)]
    exact List.getElem_mem _
def names6 : List ByteArray := [(⟨#[97]⟩ : ByteArray), (⟨#[98]⟩ : ByteArray), (⟨#[99]⟩ : ByteArray), (⟨#[100]⟩ : ByteArray), (⟨#[109, 97, 105, 110]⟩ : ByteArray), (⟨#[101]⟩ : ByteArray)]
theorem spec_l1Name_f (l : List Int) (hl : Bytes l) (p : Int) (hp : 0 ≤ p) (hp' : p < 1000000000000) :
    ∃ r, (∀ k, 1 ≤ k → spec_l1Name.f k l p = some (r, p + 1)) ∧ r ∈ names6 := by
  obtain ⟨r, hr, hm⟩ := spec_l13Rd_of_f l hl p hp hp' names6 (by decide)
  refine ⟨r, fun k hk => ?_, hm⟩
  unfold spec_l1Name.f
  have e := hr k hk
  unfold names6 at e
  rw [e]
  rfl
/-- A place further on, at most n places. -/
def On (p q : Int) (n : Int) : Prop := p ≤ q ∧ q ≤ p + n
theorem spec_l1Ins_f (l : List Int) (hl : Bytes l) (p : Int) (hp : 0 ≤ p) (hp' : p < 900000000000) :
    ∃ a b s q, (∀ k, 4 ≤ k → spec_l1Ins.f k l p = some (a, b, s, q)) ∧ On p q 2 ∧ s.size ≤ 4 := by
  obtain ⟨r, hr, r0, r1⟩ := spec_l13Rd_pick_f l hl p 8 hp (by omega) (by omega)
  obtain ⟨n1, hn1, _⟩ := spec_l13Rd_num_f l hl (p + 1) (by omega) (by omega) [1, (-1), 2, 5, (-3)] (by decide)
  obtain ⟨n2, hn2, _⟩ := spec_l13Rd_num_f l hl (p + 1) (by omega) (by omega) [6, 6, 7, 4] (by decide)
  obtain ⟨s1, hs1, hm1⟩ := spec_l1Name_f l hl (p + 1) (by omega) (by omega)
  have hz1 : s1.size ≤ 4 := by
    simp only [names6, List.mem_cons, List.not_mem_nil, or_false] at hm1
    rcases hm1 with rfl | rfl | rfl | rfl | rfl | rfl <;> decide
  have j2 : ∀ k, 1 ≤ k → ∀ b, ∃ a' b' s' q', (spec_l1Ins.j2 (k + 1) r b l (p + 1) = some (a', b', s', q')) ∧ On p q' 2 ∧ s'.size ≤ 4 ∧ ((b = true ∧ a' = 3 ∧ b' = 0 ∧ s' = s1 ∧ q' = p + 1 + 1) ∨ (b = false ∧ r = 6 ∧ a' = 5 ∧ b' = 0 ∧ s' = s1 ∧ q' = p + 1 + 1) ∨ (b = false ∧ r ≠ 6 ∧ a' = n2 ∧ b' = 0 ∧ s' = ⟨#[]⟩ ∧ q' = p + 1 + 1)) := by
    intro k hk b
    simp only [spec_l1Ins.j2]
    rw [hs1 k hk, hn2 k hk]
    cases b with
    | true => exact ⟨3, 0, s1, p + 1 + 1, rfl, ⟨by omega, by omega⟩, hz1, .inl ⟨rfl, rfl, rfl, rfl, rfl⟩⟩
    | false =>
      by_cases h6 : r = 6
      · exact ⟨5, 0, s1, p + 1 + 1, by rw [if_neg (by decide), if_pos h6]; rfl, ⟨by omega, by omega⟩, hz1, .inr (.inl ⟨rfl, h6, rfl, rfl, rfl, rfl⟩)⟩
      · exact ⟨n2, 0, ⟨#[]⟩, p + 1 + 1, by rw [if_neg (by decide), if_neg h6]; rfl, ⟨by omega, by omega⟩, by decide, .inr (.inr ⟨rfl, h6, rfl, rfl, rfl, rfl⟩)⟩
  -- which of the ways it goes hangs on r alone
  by_cases h01 : r = 0 ∨ r = 1
  · refine ⟨1, 0, ⟨#[]⟩, p + 1, fun k hk => ?_, ⟨by omega, by omega⟩, by decide⟩
    obtain ⟨m, rfl, _⟩ := succ_of (d := 3) hk
    unfold spec_l1Ins.f
    rw [hr _ (by omega)]
    simp only [Option.bind_some, spec_l1Ins.j0]
    rcases h01 with rfl | rfl <;> rfl
  · by_cases h23 : r = 2 ∨ r = 3
    · refine ⟨2, n1, ⟨#[]⟩, p + 1 + 1, fun k hk => ?_, ⟨by omega, by omega⟩, by decide⟩
      obtain ⟨m, rfl, hm⟩ := succ_of (d := 3) hk
      obtain ⟨m, rfl, hm2⟩ := succ_of (d := 2) hm
      unfold spec_l1Ins.f
      rw [hr _ (by omega)]
      simp only [Option.bind_some, spec_l1Ins.j0, spec_l1Ins.j1]
      rw [hn1 m (by omega)]
      rcases h23 with rfl | rfl <;> rfl
    · by_cases h45 : r = 4 ∨ r = 5
      · refine ⟨3, 0, s1, p + 1 + 1, fun k hk => ?_, ⟨by omega, by omega⟩, hz1⟩
        obtain ⟨m, rfl, hm⟩ := succ_of (d := 3) hk
        obtain ⟨m, rfl, hm2⟩ := succ_of (d := 2) hm
        obtain ⟨m, rfl, hm3⟩ := succ_of (d := 1) hm2
        unfold spec_l1Ins.f
        rw [hr _ (by omega)]
        simp only [Option.bind_some, spec_l1Ins.j0, spec_l1Ins.j1, spec_l1Ins.j2]
        rw [hs1 m (by omega)]
        rcases h45 with rfl | rfl <;> rfl
      · obtain ⟨a', b', s', q', _, hon, hsz, hwhat⟩ := j2 1 (Nat.le_refl _) false
        refine ⟨a', b', s', q', fun k hk => ?_, hon, hsz⟩
        obtain ⟨m, rfl, hm⟩ := succ_of (d := 3) hk
        obtain ⟨m, rfl, hm2⟩ := succ_of (d := 2) hm
        obtain ⟨m, rfl, hm3⟩ := succ_of (d := 1) hm2
        unfold spec_l1Ins.f
        rw [hr _ (by omega)]
        have e1 : (r == 1) = false := beq_eq_false_iff_ne.mpr (by omega)
        have e3 : (r == 3) = false := beq_eq_false_iff_ne.mpr (by omega)
        have e5 : (r == 5) = false := beq_eq_false_iff_ne.mpr (by omega)
        simp only [Option.bind_some]
        rw [if_neg (by omega), e1]
        simp only [spec_l1Ins.j0]
        rw [if_neg (by decide), if_neg (by omega), e3]
        simp only [spec_l1Ins.j1]
        rw [if_neg (by decide), if_neg (by omega), e5]
        simp only [spec_l1Ins.j2]
        rw [if_neg (by decide), hs1 m (by omega), hn2 m (by omega)]
        rcases hwhat with ⟨h, _⟩ | ⟨_, h6, rfl, rfl, rfl, rfl⟩ | ⟨_, h6, rfl, rfl, rfl, rfl⟩
        · exact absurd h (by decide)
        · rw [if_pos h6]; rfl
        · rw [if_neg h6]; rfl
theorem spec_l1Right_f (l : List Int) (hl : Bytes l) (p : Int) (hp : 0 ≤ p) (hp' : p < 900000000000) :
    ∃ a b s q, (∀ k, 4 ≤ k → spec_l1Right.f k l p = some (a, b, s, q)) ∧ On p q 3 ∧ s.size ≤ 4 := by
  obtain ⟨a, b, s, q, h, hq, hs⟩ := spec_l1Ins_f l hl p hp hp'
  by_cases c : a = 4
  · obtain ⟨s2, h2, hm⟩ := spec_l1Name_f l hl q (by have := hq.1; omega) (by have := hq.2; omega)
    refine ⟨a, b, s2, q + 1, fun k hk => ?_, ⟨by have := hq.1; omega, by have := hq.2; omega⟩, ?_⟩
    · unfold spec_l1Right.f
      rw [h k hk]
      simp only [Option.bind_some]
      rw [if_pos c, h2 k (by omega)]
      rfl
    · simp only [names6, List.mem_cons, List.not_mem_nil, or_false] at hm
      rcases hm with rfl | rfl | rfl | rfl | rfl | rfl <;> decide
  · refine ⟨a, b, s, q, fun k hk => ?_, ⟨hq.1, by have := hq.2; omega⟩, hs⟩
    unfold spec_l1Right.f
    rw [h k hk]
    simp only [Option.bind_some]
    rw [if_neg c]
theorem spec_l1Bent_f (l : List Int) (hl : Bytes l) (p : Int) (hp : 0 ≤ p) (hp' : p < 900000000000) :
    ∃ a b s q, (∀ k, 4 ≤ k → spec_l1Bent.f k l p = some (a, b, s, q)) ∧ On p q 5 ∧ s.size ≤ 7 := by
  obtain ⟨a, b, s, q, h, hq, hs⟩ := spec_l1Right_f l hl p hp hp'
  have q0 := hq.1
  have q1 := hq.2
  obtain ⟨r, hr, r0, r1⟩ := spec_l13Rd_pick_f l hl q 30 (by omega) (by omega) (by omega)
  obtain ⟨n1, hn1, _⟩ := spec_l13Rd_num_f l hl (q + 1) (by omega) (by omega) [0, 8, (-1), 1] (by decide)
  obtain ⟨n2, hn2, _⟩ := spec_l13Rd_num_f l hl (q + 1) (by omega) (by omega) [1, 1000, 1001] (by decide)
  obtain ⟨s1, hs1, hm1⟩ := spec_l13Rd_of_f l hl (q + 1) (by omega) (by omega) [(⟨#[65]⟩ : ByteArray), (⟨#[97, 98, 99, 100, 101, 102, 103]⟩ : ByteArray), (⟨#[97, 32, 98]⟩ : ByteArray), (⟨#[120]⟩ : ByteArray)] (by decide)
  have hz1 : s1.size ≤ 7 := by
    simp only [List.mem_cons, List.not_mem_nil, or_false] at hm1
    rcases hm1 with rfl | rfl | rfl | rfl <;> decide
  by_cases c0 : r = 0
  · refine ⟨n1, b, s, q + 1 + 1, fun k hk => ?_, ⟨by omega, by omega⟩, by omega⟩
    unfold spec_l1Bent.f
    rw [h k hk]; simp only [Option.bind_some]
    rw [hr k (by omega)]; simp only [Option.bind_some]
    rw [if_pos c0, hn1 k (by omega)]; rfl
  · by_cases c1 : r = 1
    · refine ⟨a, n2, s, q + 1 + 1, fun k hk => ?_, ⟨by omega, by omega⟩, by omega⟩
      unfold spec_l1Bent.f
      rw [h k hk]; simp only [Option.bind_some]
      rw [hr k (by omega)]; simp only [Option.bind_some]
      rw [if_neg c0, if_pos c1, hn2 k (by omega)]; rfl
    · by_cases c2 : r = 2
      · refine ⟨a, b, s1, q + 1 + 1, fun k hk => ?_, ⟨by omega, by omega⟩, hz1⟩
        unfold spec_l1Bent.f
        rw [h k hk]; simp only [Option.bind_some]
        rw [hr k (by omega)]; simp only [Option.bind_some]
        rw [if_neg c0, if_neg c1, if_pos c2, hs1 k (by omega)]; rfl
      · refine ⟨a, b, s, q + 1, fun k hk => ?_, ⟨by omega, by omega⟩, by omega⟩
        unfold spec_l1Bent.f
        rw [h k hk]; simp only [Option.bind_some]
        rw [hr k (by omega)]; simp only [Option.bind_some]
        rw [if_neg c0, if_neg c1, if_neg c2]
end Go.Proofs.YtajhjdhkeahlpaaDoor.L

/- Instructions are read back exactly as written: for every two codes, the law on instructions and their texts answers true. -/
namespace Go.Proofs.YtajhjdhkeahlpaaDoor.Pure
open Go.RowKit Go.Proofs.YtajhjdhkeahlpaaDoor.P Go.Proofs.YtajhjdhkeahlpaaDoor.L Go.Proofs.YtajhjdhkeahlpaaDoorW.PrintWords
set_option linter.unusedVariables false
set_option linter.unusedSimpArgs false
theorem idxB_app (r : List UInt8) : ∀ w : List UInt8, (∀ x ∈ w, x ≠ 32) → Lib.indexByte (w ++ 32 :: r) 32 = (w.length : Int) := by
  intro w
  induction w with
  | nil => intro _; rfl
  | cons x w ih =>
    intro h
    have hx : (x == 32) = false := by rw [beq_eq_false_iff_ne]; exact h x List.mem_cons_self
    have e := ih (fun y hy => h y (List.mem_cons_of_mem _ hy))
    rw [List.cons_append]
    simp only [Lib.indexByte, hx, Bool.false_eq_true, if_false]
    rw [e, if_neg (by rw [beq_iff_eq]; omega), List.length_cons]
    omega
theorem idxB_none : ∀ w : List UInt8, (∀ x ∈ w, x ≠ 32) → Lib.indexByte w 32 = -1 := by
  intro w
  induction w with
  | nil => intro _; rfl
  | cons x w ih =>
    intro h
    have hx : (x == 32) = false := by rw [beq_eq_false_iff_ne]; exact h x List.mem_cons_self
    have e := ih (fun y hy => h y (List.mem_cons_of_mem _ hy))
    simp only [Lib.indexByte, hx, Bool.false_eq_true, if_false]
    rw [e, if_pos (by decide)]
theorem word_plain {j : Int} (h0 : 1 ≤ j) (h1 : j ≤ 7) : ∀ x ∈ (wordV j).data.toList, x ≠ 32 := by
  rcases op_cases h0 h1 with rfl | rfl | rfl | rfl | rfl | rfl | rfl <;> decide
theorem cut_word {j : Int} (h0 : 1 ≤ j) (h1 : j ≤ 7) : spaceAt (wordV j) = -1 := idxB_none _ (word_plain h0 h1)
theorem cut_rest {j : Int} (h0 : 1 ≤ j) (h1 : j ≤ 7) (r : ByteArray) : 0 ≤ spaceAt ((wordV j ++ (⟨#[32]⟩ : ByteArray)) ++ r) ∧ cutA ((wordV j ++ (⟨#[32]⟩ : ByteArray)) ++ r) = wordV j ∧ cutB ((wordV j ++ (⟨#[32]⟩ : ByteArray)) ++ r) = r := by
  have hl : ((wordV j ++ (⟨#[32]⟩ : ByteArray)) ++ r).data.toList = (wordV j).data.toList ++ 32 :: r.data.toList := by
    rw [ByteArray.data_append, ByteArray.data_append, Array.toList_append, Array.toList_append, List.append_assoc]
    rfl
  have hs : spaceAt ((wordV j ++ (⟨#[32]⟩ : ByteArray)) ++ r) = ((wordV j).data.toList.length : Int) := by
    unfold spaceAt
    rw [hl]
    exact idxB_app _ _ (word_plain h0 h1)
  have hf : 0 ≤ spaceAt ((wordV j ++ (⟨#[32]⟩ : ByteArray)) ++ r) := by rw [hs]; omega
  refine ⟨hf, ?_, ?_⟩
  · unfold cutA
    rw [if_pos hf, hs, Int.toNat_natCast]
    apply ba_ext
    rw [ByteArray.data_extract, Array.toList_extract, List.extract_eq_take_drop, hl, List.drop_zero, Nat.sub_zero, List.take_left']
    rfl
  · unfold cutB
    rw [if_pos hf, hs, Int.toNat_natCast]
    apply ba_ext
    rw [ByteArray.data_extract, Array.toList_extract, List.extract_eq_take_drop, hl]
    have e : ((wordV j).data.toList ++ 32 :: r.data.toList).drop ((wordV j).data.toList.length + 1) = r.data.toList := by
      rw [show (wordV j).data.toList ++ 32 :: r.data.toList = ((wordV j).data.toList ++ [32]) ++ r.data.toList by simp]
      exact List.drop_left' (by simp)
    rw [e, List.take_of_length_le]
    have h3 : ((wordV j ++ (⟨#[32]⟩ : ByteArray)) ++ r).size = ((wordV j).data.toList ++ 32 :: r.data.toList).length := by
      have hl2 : ∀ x : ByteArray, x.data.toList.length = x.size := fun x => by simp
      rw [← hl, hl2]
    rw [h3, List.length_append, List.length_cons]
    omega
/-- An instruction that is ok is read back from its text. -/
theorem read_back (a b : Int) (s : ByteArray) (hs : s.size ≤ 1000) (hok : insOkB a b s = true) (k : Nat) (hk : 20000 < k) : spec_InsRead.f k (textV a b s) = some (a, b, s, true) := by
  obtain ⟨h1, h7, hb0, hb1⟩ := insOk_in hok
  have hw := word_size h1 h7
  have hi := itoaS_size b hb0 hb1
  have hts : (textV a b s).size ≤ 2100 := by
    unfold textV
    rw [if_pos hok]
    have h32 : (⟨#[32]⟩ : ByteArray).size = 1 := rfl
    split
    · rw [ByteArray.size_append, ByteArray.size_append]; omega
    · split
      · rw [ByteArray.size_append, ByteArray.size_append]; omega
      · omega
  obtain ⟨q, hq, e⟩ := spec_read (textV a b s) (by omega) k (by omega)
  have hB := cutB_size (textV a b s)
  have go : cutA (textV a b s) = wordV a → spec_InsRead.f k (textV a b s) = some (restV (spaceAt (textV a b s)) (cutB (textV a b s)) a) := fun hA =>
    e.trans (spec_hit _ _ _ (by omega) a h1 h7 hA.symm (a - 1).toNat 1 q (by omega) (by omega) (by omega))
  have hok2 := hok
  unfold insOkB at hok2
  simp only [Bool.and_eq_true] at hok2
  have hnm := hok2.2.2
  have hbn := hok2.2.1
  by_cases h2 : a = 2
  · subst h2
    have ht : textV 2 b s = (wordV 2 ++ (⟨#[32]⟩ : ByteArray)) ++ itoaS b := by unfold textV; rw [if_pos hok, if_pos rfl]
    obtain ⟨c1, c2, c3⟩ := cut_rest (j := 2) (by decide) (by decide) (itoaS b)
    rw [← ht] at c1 c2 c3
    rw [go c2, c3]
    have hs0 : s = (⟨#[]⟩ : ByteArray) := by
      rw [if_neg (by decide)] at hnm
      exact (ba_iff _ _).mp ((beq_iff_eq.mp hnm).trans (by rw [Lib.toList_data]))
    subst hs0
    unfold restV
    have hr : readV (itoaS b).data.toList = (b, true) := read_itoa b hb0 hb1
    rw [if_pos rfl, hr, if_pos ⟨rfl, hok⟩]
  · have hb : b = 0 := by
      simp only [Bool.or_eq_true, Bool.and_eq_true, decide_eq_true_eq] at hbn
      omega
    subst hb
    by_cases hr : refersB a = true
    · have ht : textV a 0 s = (wordV a ++ (⟨#[32]⟩ : ByteArray)) ++ s := by unfold textV; rw [if_pos hok, if_neg h2, if_pos hr]
      obtain ⟨c1, c2, c3⟩ := cut_rest h1 h7 s
      rw [← ht] at c1 c2 c3
      rw [go c2, c3]
      unfold restV
      rw [if_neg h2, if_pos hr, if_pos hok]
    · have ht : textV a 0 s = wordV a := by unfold textV; rw [if_pos hok, if_neg h2, if_neg hr]
      have hsp := cut_word h1 h7
      rw [← ht] at hsp
      obtain ⟨c2, c3⟩ := cut_not (s := textV a 0 s) (by omega)
      rw [go (c2.trans ht), hsp]
      have hs0 : s = (⟨#[]⟩ : ByteArray) := by
        rw [if_neg hr] at hnm
        exact (ba_iff _ _).mp ((beq_iff_eq.mp hnm).trans (by rw [Lib.toList_data]))
      subst hs0
      unfold restV
      rw [if_neg h2, if_neg hr, if_pos ⟨by decide, hok⟩]
theorem draw_text (l : List Int) (hl : Bytes l) : ∃ a b s, (∀ k, 4 ≤ k → spec_DrawInsText.f k l = some (a, b, s)) ∧ s.size ≤ 7 := by
  obtain ⟨l', e, hl', _⟩ := spec_l13Open_f l hl
  obtain ⟨a, b, s, q, h, hq, hs⟩ := spec_l1Bent_f l' hl' 0 (by decide) (by decide)
  refine ⟨a, b, s, fun k hk => ?_, hs⟩
  unfold spec_DrawInsText.f
  rw [e]; simp only [Option.bind_some]
  rw [h k hk]; rfl
theorem text_size (a b : Int) (s : ByteArray) (hs : s.size ≤ 7) : (textV a b s).size ≤ 1100 := by
  unfold textV
  have h32 : (⟨#[32]⟩ : ByteArray).size = 1 := rfl
  by_cases hok : insOkB a b s = true
  · obtain ⟨h1, h7, hb0, hb1⟩ := insOk_in hok
    have hw := word_size h1 h7
    have hi := itoaS_size b hb0 hb1
    rw [if_pos hok]
    split
    · rw [ByteArray.size_append, ByteArray.size_append]; omega
    · split
      · rw [ByteArray.size_append, ByteArray.size_append]; omega
      · omega
  · rw [if_neg hok]; show 0 ≤ _; omega
theorem draw_read (l : List Int) (hl : Bytes l) : ∃ t : ByteArray, (∀ k, 5000 ≤ k → spec_DrawInsRead.f k l = some t) ∧ t.size ≤ 3000 := by
  obtain ⟨l', e, hl', _⟩ := spec_l13Open_f l hl
  obtain ⟨a, b, s, q, h, hq, hs⟩ := spec_l1Bent_f l' hl' 0 (by decide) (by decide)
  have hts := text_size a b s hs
  have q0 := hq.1
  have q1 := hq.2
  obtain ⟨r0, hr0, r00, r01⟩ := spec_l13Rd_pick_f l' hl' q 2 (by omega) (by omega) (by omega)
  by_cases h0 : ((textV a b s).size : Int) = 0
  · refine ⟨textV a b s, fun k hk => ?_, by omega⟩
    obtain ⟨k, rfl⟩ : ∃ j, k = j + 1 := ⟨k - 1, by omega⟩
    unfold spec_DrawInsRead.f
    rw [e]; simp only [Option.bind_some]
    rw [h _ (by omega)]; simp only [Option.bind_some]
    rw [spec_InsText_f a b s (by omega) _ (by omega)]; simp only [Option.bind_some]
    rw [if_pos h0]
    simp only [spec_DrawInsRead.j0, if_true]
  · by_cases hz : (r0 == 0) = true
    · refine ⟨textV a b s, fun k hk => ?_, by omega⟩
      obtain ⟨k, rfl⟩ : ∃ j, k = j + 1 := ⟨k - 1, by omega⟩
      unfold spec_DrawInsRead.f
      rw [e]; simp only [Option.bind_some]
      rw [h _ (by omega)]; simp only [Option.bind_some]
      rw [spec_InsText_f a b s (by omega) _ (by omega)]; simp only [Option.bind_some]
      rw [if_neg h0, hr0 _ (by omega)]
      simp only [Option.bind_some, hz, spec_DrawInsRead.j0, if_true]
    · have hsz : ((textV a b s).size : Int) ≥ 1 := by omega
      obtain ⟨r1, hr1, r10, r11⟩ := spec_l13Rd_pick_f l' hl' (q + 1) ((textV a b s).size : Int) (by omega) (by omega) (by omega)
      obtain ⟨w, hw, hwm⟩ := spec_l13Rd_of_f l' hl' (q + 1 + 1) (by omega) (by omega) [(⟨#[]⟩ : ByteArray), (⟨#[48]⟩ : ByteArray), (⟨#[32]⟩ : ByteArray), (⟨#[45]⟩ : ByteArray), (⟨#[97]⟩ : ByteArray), (⟨#[65]⟩ : ByteArray)] (by decide)
      obtain ⟨r2, hr2, r20, r21⟩ := spec_l13Rd_pick_f l' hl' (q + 1 + 1 + 1) 2 (by omega) (by omega) (by omega)
      have hws : w.size ≤ 1 := by
        simp only [List.mem_cons, List.not_mem_nil, or_false] at hwm
        rcases hwm with rfl | rfl | rfl | rfl | rfl | rfl <;> decide
      refine ⟨((textV a b s).extract 0 r1.toNat ++ w) ++ (textV a b s).extract (r1 + r2).toNat (textV a b s).size, fun k hk => ?_, ?_⟩
      · obtain ⟨k, rfl⟩ : ∃ j, k = j + 1 := ⟨k - 1, by omega⟩
        unfold spec_DrawInsRead.f
        rw [e]; simp only [Option.bind_some]
        rw [h _ (by omega)]; simp only [Option.bind_some]
        rw [spec_InsText_f a b s (by omega) _ (by omega)]; simp only [Option.bind_some]
        rw [if_neg h0, hr0 _ (by omega)]
        simp only [Option.bind_some, spec_DrawInsRead.j0]
        rw [if_neg hz, hr1 _ (by omega)]
        simp only [Option.bind_some]
        rw [if_pos (by omega), if_pos (by omega), hw _ (by omega)]
        simp only [Option.bind_some]
        rw [if_pos (by rw [ByteArray.size_extract]; omega), hr2 _ (by omega)]
        simp only [Option.bind_some]
        rw [wrap_id (by omega) (by omega), if_pos (by omega), if_pos (by omega), if_pos (by rw [ByteArray.size_append, ByteArray.size_extract, ByteArray.size_extract]; omega)]
      · rw [ByteArray.size_append, ByteArray.size_append, ByteArray.size_extract, ByteArray.size_extract]; omega
theorem ins_j3 (l : List Int) (hl : Bytes l) (k : Nat) (hk : 50000 < k) : laws_FnIns.j3 k l = some true := by
  obtain ⟨k, rfl⟩ : ∃ j, k = j + 1 := ⟨k - 1, by omega⟩
  obtain ⟨t, ht, hts⟩ := draw_read l hl
  obtain ⟨a, n, nm, b, e1, e2, hb⟩ := read_both t (by omega) k (by omega)
  simp only [laws_FnIns.j3]
  rw [ht k (by omega)]
  simp only [Option.bind_some]
  rw [e2]
  simp only [Option.bind_some]
  rw [e1]
  simp only [Option.bind_some, BEq.rfl, if_true]
  cases b with
  | false => rw [if_neg (by decide)]
  | true =>
    obtain ⟨h1, h2, h3⟩ := hb rfl
    rw [if_pos rfl, impl_InsText_f a n nm (by omega) k (by omega)]
    simp only [Option.bind_some]
    rw [h2, if_pos rfl, impl_InsOk_f a n nm (by omega) k (by omega), h1]
    rfl
theorem FnIns : laws_FnIns.Pure := by
  intro l0 l1 _ _ hw0 _ _ hw1
  unfold laws_FnIns.f
  refine ⟨100003, ?_⟩
  by_cases h0 : (l0.length : Int) > 1048576
  · rw [if_pos h0]; simp only [laws_FnIns.j0, if_true]
  rw [if_neg h0]
  by_cases h1 : (l1.length : Int) > 1048576
  · rw [decide_eq_true h1]; simp only [laws_FnIns.j0, if_true]
  rw [decide_eq_false h1]
  simp only [laws_FnIns.j0, Bool.false_eq_true, if_false]
  obtain ⟨a, b, s, hd, hs⟩ := draw_text l0 ⟨by omega, hw0⟩
  have hts := text_size a b s hs
  have h3 := ins_j3 l1 ⟨by omega, hw1⟩
  simp only [laws_FnIns.j1]
  rw [hd _ (by omega)]
  simp only [Option.bind_some]
  rw [impl_InsText_f a b s (by omega) _ (by omega)]
  simp only [Option.bind_some]
  obtain ⟨a', n', nm', ok, e1, e2, hb⟩ := read_both (textV a b s) (by omega) 100001 (by omega)
  rw [e2]
  simp only [Option.bind_some]
  rw [spec_InsText_f a b s (by omega) _ (by omega)]
  simp only [Option.bind_some, if_true]
  rw [impl_InsOk_f a b s (by omega) _ (by omega), spec_InsOk_f a b s (by omega) _ (by omega)]
  simp only [Option.bind_some, bne_self_eq_false, Bool.false_eq_true, if_false]
  by_cases hok : insOkB a b s = true
  · have er := read_back a b s (by omega) hok 100001 (by omega)
    rw [e1] at er
    have er2 := Option.some.inj er
    injection er2 with r1 er2
    injection er2 with r2 er2
    injection er2 with r3 r4
    subst r1 r2 r3 r4
    rw [hok]
    simp only [bne_self_eq_false, Bool.false_eq_true, if_false, if_true, BEq.rfl, Bool.not_true, Bool.or_false]
    simp only [laws_FnIns.j2, Bool.false_eq_true, if_false]
    exact h3 _ (by omega)
  · have hok' : ok = false := by
      cases ok with
      | false => rfl
      | true =>
        exfalso
        obtain ⟨g1, g2, _⟩ := hb rfl
        obtain ⟨w1, w7, _, _⟩ := insOk_in g1
        have ht0 : textV a b s = (⟨#[]⟩ : ByteArray) := by unfold textV; exact if_neg hok
        rw [ht0] at g2
        unfold textV at g2
        rw [if_pos g1] at g2
        have hws : 1 ≤ (wordV a').size := by rcases op_cases w1 w7 with rfl | rfl | rfl | rfl | rfl | rfl | rfl <;> decide
        have g3 := congrArg ByteArray.size g2
        have hz : (⟨#[]⟩ : ByteArray).size = 0 := rfl
        rw [hz] at g3
        split at g3
        · rw [ByteArray.size_append, ByteArray.size_append] at g3; omega
        · split at g3
          · rw [ByteArray.size_append, ByteArray.size_append] at g3; omega
          · omega
    subst hok'
    rw [Bool.not_eq_true _ |>.mp hok]
    simp only [bne_self_eq_false, Bool.false_eq_true, if_false, laws_FnIns.j2]
    exact h3 _ (by omega)
end Go.Proofs.YtajhjdhkeahlpaaDoor.Pure
