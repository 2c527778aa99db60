/- What the printed functions on instructions compute: names, classes, sums. -/
import Derived.Test.YtccknlcokknadaaLBase
import Derived.Test.YtccknlcokknadaaLSeq
import Derived.Test.YtccknlcokknadaaPximplin
import Derived.Test.YtccknlcokknadaaPxlawsszIns
import Derived.Test.YtccknlcokknadaaPxspecNameOk
import Derived.Test.YtccknlcokknadaaPxspecl2Has
namespace Go.Proofs.Ytccknlcokknadaa.L
open Go.RowKit Go.Proofs.YtccknlcokknadaaW.PrintWords Go.Proofs.YtccknlcokknadaaW.PrintLast Go.Proofs.YtccknlcokknadaaW.PrintMore Go.Proofs.Ytccknlcokknadaa.P
set_option linter.unusedVariables false
set_option linter.unusedSimpArgs false

/-- Are the bytes from place i on, d of them, letters from a to z? -/
def okFrom (s : ByteArray) : Nat → Int → Bool
  | 0, _ => true
  | d + 1, i => (decide (97 ≤ bt s i) && decide (bt s i ≤ 122)) && okFrom s d (i + 1)
def nameOk (s : ByteArray) : Bool := okFrom s s.size 0 && (decide (1 ≤ s.size) && decide (s.size ≤ 6))
theorem nameOk_size {s : ByteArray} (h : nameOk s = true) : 1 ≤ s.size ∧ s.size ≤ 6 := by
  simp only [nameOk, Bool.and_eq_true, decide_eq_true_eq] at h
  exact h.2
theorem okFrom_lo (s : ByteArray) (d : Nat) (i : Int) (h : bt s i < 97) : okFrom s (d + 1) i = false := by
  have : ¬ 97 ≤ bt s i := by omega
  simp [okFrom, this]
theorem okFrom_hi (s : ByteArray) (d : Nat) (i : Int) (h : bt s i > 122) : okFrom s (d + 1) i = false := by
  have : ¬ bt s i ≤ 122 := by omega
  simp [okFrom, this]
theorem okFrom_in (s : ByteArray) (d : Nat) (i : Int) (h : ¬ bt s i < 97) (h' : ¬ bt s i > 122) : okFrom s (d + 1) i = okFrom s d (i + 1) := by
  have : 97 ≤ bt s i := by omega
  have : bt s i ≤ 122 := by omega
  simp [okFrom, *]

def cutI (a : Int) : Int := mx (-1000) (mn 1000 a)
theorem cutI_bd (a : Int) : -1000 ≤ cutI a ∧ cutI a ≤ 1000 := by
  unfold cutI mx mn
  split <;> split at * <;> omega
theorem cutI_id {a : Int} (h : -1000 ≤ a) (h' : a ≤ 1000) : cutI a = a := by
  unfold cutI mx mn
  split <;> split at * <;> omega
theorem cutI_cases (a : Int) : (a < -1000 ∧ cutI a = -1000) ∨ (1000 < a ∧ cutI a = 1000) ∨ (-1000 ≤ a ∧ a ≤ 1000 ∧ cutI a = a) := by
  unfold cutI mx mn
  split <;> split at * <;> omega
def refersB (a : Int) : Bool := decide (3 ≤ a) && decide (a ≤ 5)
theorem refersB_true {a : Int} : refersB a = true ↔ a = 3 ∨ a = 4 ∨ a = 5 := by
  simp only [refersB, Bool.and_eq_true, decide_eq_true_eq]
  omega
theorem refers3 (a : Int) : (a = 3 ∧ refersB a = true) ∨ (a ≠ 3 ∧ a = 4 ∧ refersB a = true) ∨ (a ≠ 3 ∧ a ≠ 4 ∧ refersB a = (a == 5)) := by
  by_cases h3 : a = 3
  · subst h3; exact .inl ⟨rfl, rfl⟩
  · by_cases h4 : a = 4
    · subst h4; exact .inr (.inl ⟨by decide, rfl, rfl⟩)
    · refine .inr (.inr ⟨h3, h4, ?_⟩)
      by_cases h5 : a = 5
      · subst h5; rfl
      · have : ¬ (refersB a = true) := by rw [refersB_true]; omega
        rw [Bool.eq_false_iff.mpr this]
        exact (beq_eq_false_iff_ne.mpr h5).symm
def lastB (a : Int) : Bool := if a = 4 then true else if a = 6 then true else a == 7
/-- Is it ok? -/
def insOkB (op n : Int) (s : ByteArray) : Bool :=
  (decide (1 ≤ op) && decide (op ≤ 7)) && ((decide (n = 0) || decide (op = 2) && (decide (-1000 ≤ n) && decide (n ≤ 1000))) && (if refersB op = true then nameOk s else s.toList == ([] : List UInt8)))
theorem spec_NameOk_l0 (s : ByteArray) (hs : s.size ≤ 140737488351232) : ∀ (d k : Nat) (i : Int), 0 ≤ i → i + d = s.size → d < k →
    spec_NameOk.l0 k s i = some (okFrom s d i && (decide (1 ≤ s.size) && decide (s.size ≤ 6))) := by
  intro d
  induction d with
  | zero =>
    intro k i h0 h1 hk
    obtain ⟨m, rfl, _⟩ := succ_of hk
    simp only [spec_NameOk.l0]
    rw [if_neg (by omega)]
    by_cases h : (s.size : Int) ≥ 1
    · rw [if_pos h]
      have e1 : 1 ≤ s.size := by omega
      by_cases h6 : s.size ≤ 6
      · have e2 : (s.size : Int) ≤ 6 := by omega
        simp [okFrom, e1, e2, h6]
      · have e2 : ¬ (s.size : Int) ≤ 6 := by omega
        simp [okFrom, e1, e2, h6]
    · rw [if_neg h]
      have e1 : ¬ 1 ≤ s.size := by omega
      simp [okFrom, e1]
  | succ d ih =>
    intro k i h0 h1 hk
    obtain ⟨m, rfl, _⟩ := succ_of hk
    simp only [spec_NameOk.l0]
    rw [if_pos (by omega), if_pos h0]
    by_cases hl : bt s i < 97
    · rw [if_pos hl, okFrom_lo s d i hl]; rfl
    · rw [if_neg hl]
      by_cases hh : bt s i > 122
      · rw [if_pos hh, okFrom_hi s d i hh]; rfl
      · rw [if_neg hh, okFrom_in s d i hl hh, wrap_id (by omega) (by omega)]
        exact ih m (i + 1) (by omega) (by omega) (by omega)
theorem spec_NameOk_f (s : ByteArray) (hs : s.size ≤ 140737488351232) (k : Nat) (hk : s.size < k) : spec_NameOk.f k s = some (nameOk s) := by
  unfold spec_NameOk.f nameOk
  exact spec_NameOk_l0 s hs s.size k 0 (by omega) (by omega) hk
theorem impl_in_f (a b c : Int) : impl_in.f a b c = some (decide (b ≤ a) && decide (a ≤ c)) := by
  unfold impl_in.f
  by_cases h : b ≤ a <;> simp [h]
theorem impl_NameOk_l0 (s : ByteArray) (hs : s.size ≤ 140737488351232) : ∀ (d k : Nat) (i : Int), 0 ≤ i → i + d = s.size → d < k →
    impl_NameOk.l0 k s (s.size : Int) i = some (okFrom s d i && (decide (1 ≤ s.size) && decide (s.size ≤ 6))) := by
  intro d
  induction d with
  | zero =>
    intro k i h0 h1 hk
    obtain ⟨m, rfl, _⟩ := succ_of hk
    simp only [impl_NameOk.l0]
    rw [if_neg (by omega), impl_in_f]
    have e1 : decide ((1 : Int) ≤ (s.size : Int)) = decide (1 ≤ s.size) := by congr 1; exact propext ⟨fun h => by omega, fun h => by omega⟩
    have e2 : decide ((s.size : Int) ≤ 6) = decide (s.size ≤ 6) := by congr 1; exact propext ⟨fun h => by omega, fun h => by omega⟩
    simp [okFrom, e1, e2]
  | succ d ih =>
    intro k i h0 h1 hk
    obtain ⟨m, rfl, _⟩ := succ_of hk
    simp only [impl_NameOk.l0]
    rw [if_pos (by omega), if_pos h0, if_pos (by omega)]
    by_cases hl : bt s i < 97
    · rw [if_pos hl, okFrom_lo s d i hl]; rfl
    · rw [if_neg hl]
      by_cases hh : bt s i > 122
      · rw [if_pos hh, okFrom_hi s d i hh]; rfl
      · rw [if_neg hh, okFrom_in s d i hl hh, wrap_id (by omega) (by omega)]
        exact ih m (i + 1) (by omega) (by omega) (by omega)
theorem impl_NameOk_f (s : ByteArray) (hs : s.size ≤ 140737488351232) (k : Nat) (hk : s.size < k) : impl_NameOk.f k s = some (nameOk s) := by
  unfold impl_NameOk.f nameOk
  exact impl_NameOk_l0 s hs s.size k 0 (by omega) (by omega) hk
theorem impl_refers_f (a : Int) : impl_refers.f a = some (decide (3 ≤ a) && decide (a ≤ 5)) := by
  unfold impl_refers.f
  rw [impl_in_f]; rfl
theorem spec_InsRefs_f (a b : Int) (s : ByteArray) : spec_InsRefs.f a b s = some (refersB a) := by
  unfold spec_InsRefs.f
  rcases refers3 a with ⟨rfl, h⟩ | ⟨h3, rfl, h⟩ | ⟨h3, h4, h⟩
  · rw [if_pos rfl, h]
  · rw [if_neg h3, if_pos rfl, h]
  · rw [if_neg h3, if_neg h4, h]
theorem spec_InsLast_f (a b : Int) (s : ByteArray) : spec_InsLast.f a b s = some (lastB a) := by
  unfold spec_InsLast.f lastB
  by_cases h : a = 4
  · rw [if_pos h, if_pos h]
  · rw [if_neg h, if_neg h]
    by_cases h6 : a = 6
    · rw [if_pos h6, if_pos h6]
    · rw [if_neg h6, if_neg h6]
theorem impl_InsLast_f (a b : Int) (s : ByteArray) : impl_InsLast.f a b s = some (lastB a) := by
  unfold impl_InsLast.f lastB
  by_cases h : a = 4
  · rw [if_pos h, if_pos h]
  · rw [if_neg h, if_neg h]
    by_cases h6 : a = 6
    · rw [if_pos h6, if_pos h6]
    · rw [if_neg h6, if_neg h6]
theorem impl_isNumber_f (a : Int) : impl_isNumber.f a = some (decide (-1000 ≤ a) && decide (a ≤ 1000)) := by
  unfold impl_isNumber.f
  rw [impl_in_f]; rfl
theorem impl_refers_b (a : Int) : impl_refers.f a = some (refersB a) := impl_refers_f a
theorem ite_beq {s : ByteArray} (b : Bool) : (if s.toList = ([] : List UInt8) then some b else some false) = some ((s.toList == ([] : List UInt8)) && b) := by
  by_cases h : s.toList = ([] : List UInt8)
  · rw [if_pos h, h]; rfl
  · rw [if_neg h, beq_eq_false_iff_ne.mpr h]; rfl
theorem impl_InsOk_f (op n : Int) (s : ByteArray) (hs : s.size ≤ 140737488351232) (k : Nat) (hk : s.size < k) : impl_InsOk.f k op n s = some (insOkB op n s) := by
  unfold impl_InsOk.f insOkB
  rw [impl_in_f, impl_NameOk_f s hs k hk, impl_refers_b, impl_isNumber_f]
  simp only [Option.bind_some, ite_beq]
  by_cases h1 : (decide (1 ≤ op) && decide (op ≤ 7)) = true
  · rw [if_pos h1, h1]
    by_cases h2 : n = 0
    · rw [if_pos h2]
      cases nameOk s <;> cases refersB op <;> simp [h2]
    · rw [if_neg h2]
      by_cases h3 : op = 2
      · rw [if_pos h3]
        have h4 : refersB op = false := by rw [h3]; rfl
        rw [h4]
        cases hb : (decide (-1000 ≤ n) && decide (n ≤ 1000)) <;> cases nameOk s <;> simp [h2, h3, hb]
      · rw [if_neg h3]
        simp [h2, h3]
  · rw [if_neg h1, Bool.eq_false_iff.mpr h1]
    rfl
theorem ite_ge_le {n : Int} (b : Bool) : (if n ≥ -1000 then (if n ≤ 1000 then some b else some false) else some false) = some ((decide (-1000 ≤ n) && decide (n ≤ 1000)) && b) := by
  by_cases h : n ≥ -1000
  · have h' : decide (-1000 ≤ n) = true := decide_eq_true h
    rw [if_pos h, h']
    by_cases g : n ≤ 1000 <;> simp [g]
  · have h' : decide (-1000 ≤ n) = false := decide_eq_false h
    rw [if_neg h, h']
    rfl
theorem ite_zero {n : Int} (b : Bool) : (if n = 0 then some b else some false) = some (decide (n = 0) && b) := by
  by_cases h : n = 0 <;> simp [h]
theorem spec_InsOk_j1 (s : ByteArray) (hs : s.size ≤ 140737488351232) (k : Nat) (hk : s.size < k) (b : Bool) (op n : Int) :
    spec_InsOk.j1 (k + 1) b op n s = some (b && (decide (n = 0) && nameOk s)) := by
  simp only [spec_InsOk.j1]
  rw [spec_NameOk_f s hs k hk]
  simp only [Option.bind_some, ite_zero]
  cases b <;> rfl
theorem spec_InsOk_j0 (s : ByteArray) (hs : s.size ≤ 140737488351232) (k : Nat) (hk : s.size < k) (b : Bool) (op n o : Int) :
    spec_InsOk.j0 (k + 2) op b o n s = some (if b = true then decide (n = 0) && (s.toList == ([] : List UInt8)) else if op = 2 then (decide (-1000 ≤ n) && decide (n ≤ 1000)) && (s.toList == ([] : List UInt8)) else if op = 3 then (decide (n = 0) && nameOk s) else if op = 4 then (decide (n = 0) && nameOk s) else ((op == 5) && (decide (n = 0) && nameOk s))) := by
  simp only [spec_InsOk.j0]
  rw [spec_InsOk_j1 s hs k hk, spec_InsOk_j1 s hs k hk, spec_InsOk_j1 s hs k hk, ite_ge_le, ite_zero]
  cases b with
  | true => rfl
  | false =>
    simp only [Bool.false_eq_true, if_false]
    by_cases h2 : op = 2
    · simp only [h2, if_true]
    · simp only [h2, if_false]
      by_cases h3 : op = 3
      · subst h3; rfl
      · simp only [h3, if_false]
        by_cases h4 : op = 4
        · subst h4; rfl
        · simp only [h4, if_false]
theorem spec_InsOk_f (op n : Int) (s : ByteArray) (hs : s.size ≤ 140737488351232) (k : Nat) (hk : s.size + 2 < k) : spec_InsOk.f k op n s = some (insOkB op n s) := by
  obtain ⟨m, rfl⟩ : ∃ m, k = m + 2 := ⟨k - 2, by omega⟩
  unfold spec_InsOk.f
  rw [spec_InsOk_j0 s hs m (by omega), spec_InsOk_j0 s hs m (by omega), spec_InsOk_j0 s hs m (by omega)]
  by_cases h1 : op = 1
  · subst h1; simp [insOkB, refersB]
  by_cases h6 : op = 6
  · subst h6; simp [insOkB, refersB]
  by_cases h7 : op = 7
  · subst h7; simp [insOkB, refersB]
  by_cases h2 : op = 2
  · subst h2
    have : (decide (n = 0) || (decide (-1000 ≤ n) && decide (n ≤ 1000))) = (decide (-1000 ≤ n) && decide (n ≤ 1000)) := by
      by_cases h : n = 0
      · subst h; rfl
      · simp [h]
    simp [insOkB, refersB, this]
  by_cases h3 : op = 3
  · subst h3; simp [insOkB, refersB]
  by_cases h4 : op = 4
  · subst h4; simp [insOkB, refersB]
  by_cases h5 : op = 5
  · subst h5; simp [insOkB, refersB]
  · have e : (decide (1 ≤ op) && decide (op ≤ 7)) = false := by
      rw [Bool.and_eq_false_iff, decide_eq_false_iff_not, decide_eq_false_iff_not]; omega
    simp [h1, h2, h3, h4, h5, h6, h7, insOkB, e]
theorem laws_szIns_f (a b : Int) (s : ByteArray) (left : Int) (hs : s.size ≤ 140737488351232) (h0 : 0 ≤ left) (h1 : left ≤ 1048576) :
    laws_szIns.f a b s left = some (if left < s.size then -1 else left - s.size) := by
  unfold laws_szIns.f
  rw [wrap_id (n := left - (s.size : Int)) (by omega) (by omega)]
  by_cases h : left < s.size
  · rw [if_pos (by omega), if_pos h]
  · rw [if_neg (by omega), if_neg h]
end Go.Proofs.Ytccknlcokknadaa.L
namespace Go.Proofs.Ytccknlcokknadaa.L
open Go.RowKit Go.Proofs.YtccknlcokknadaaW.PrintWords Go.Proofs.YtccknlcokknadaaW.PrintLast Go.Proofs.YtccknlcokknadaaW.PrintMore Go.Proofs.Ytccknlcokknadaa.P
set_option linter.unusedVariables false
set_option linter.unusedSimpArgs false
def funOkB (a : ByteArray) (l : List S88) : Bool :=
  nameOk a && ((decide (1 ≤ (l.length : Int)) && decide ((l.length : Int) ≤ 10)) && (!(l.any fun x => !insOkB x.f0 x.f1 x.f2) && lastB (l.getD (l.length - 1) z88).f0))
theorem funOkB_len {a : ByteArray} {l : List S88} (h : funOkB a l = true) : 1 ≤ l.length ∧ l.length ≤ 10 := by
  simp only [funOkB, Bool.and_eq_true, decide_eq_true_eq] at h
  omega
end Go.Proofs.Ytccknlcokknadaa.L
