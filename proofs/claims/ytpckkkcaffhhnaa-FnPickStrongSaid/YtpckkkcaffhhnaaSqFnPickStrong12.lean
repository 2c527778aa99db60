-- LRun, LPick, LDraw, LDrawU, PximplFunRefs, PxspecFunRefs, LRefs, LDrawP, LHit, LSort, PureFnPickStrong: put together by squash.py
import Derived.Test.YtpckkkcaffhhnaaSqFnPickStrong3
import Derived.Test.YtpckkkcaffhhnaaSqFnPickStrong5
import Derived.Test.YtpckkkcaffhhnaaSqFnPickStrong4
import Derived.Test.YtpckkkcaffhhnaaSqFnPickStrong10
import Derived.Test.YtpckkkcaffhhnaaSqFnPickStrong6
import Derived.Test.YtpckkkcaffhhnaaSqFnPickStrong8
import Derived.Test.YtpckkkcaffhhnaaSqFnPickStrong7
import Derived.Test.YtpckkkcaffhhnaaSqFnPickStrong9
import Derived.Test.YtpckkkcaffhhnaaProg
import Derived.Ground.NamesProg
import Derived.Shelf.Lay
import Derived.Shelf.Slices.In.CompactS
import Derived.Shelf.Slices.In.SortAlone
import Derived.Shelf.Slices.In.SortNone
import Derived.Sort.OwnSorted
import Derived.Sort.EveryDepth
import Derived.Sort.Grow
import Derived.Lib.OwnBridge
import Derived.Lib.RowBridge
import Derived.Test.YtpckkkcaffhhnaaSqFnPickStrong11

/- Loops over a list with a state, told once. -/
namespace Go.Proofs.Ytpckkkcaffhhnaa.L
open Go.RowKit Go.Proofs.YtpckkkcaffhhnaaW.PrintWords Go.Proofs.YtpckkkcaffhhnaaW.PrintLast Go.Proofs.YtpckkkcaffhhnaaW.PrintMore Go.Proofs.Ytpckkkcaffhhnaa.P
set_option linter.unusedVariables false
set_option linter.unusedSimpArgs false
/-- A walk over a list with a state, that may end early. -/
def runS {α σ β : Type} (f : Nat → α → σ → σ ⊕ β) (E : σ → β) : List α → Nat → σ → β
  | [], _, s => E s
  | x :: l, i, s => match f i x s with
    | .inl s' => runS f E l (i + 1) s'
    | .inr r => r
theorem loop_run {α σ β : Type} (f : Nat → α → σ → σ ⊕ β) (E : Nat → σ → β) (I : Nat → σ → Prop) (d : α) (l : List α) (hn : l.length ≤ 9223372036854775806) (L : Nat → σ → Int → β) (K : Nat)
    (hS : ∀ (k i : Nat) (s : σ), K ≤ k → i < l.length → I i s → L (k + 1) s (i : Int) = match f i (l.getD i d) s with | .inl s' => L k s' (wrap64 ((i : Int) + 1)) | .inr r => r)
    (hI : ∀ (i : Nat) (s s' : σ), i < l.length → I i s → f i (l.getD i d) s = .inl s' → I (i + 1) s')
    (hE : ∀ (k : Nat) (s : σ), K ≤ k → I l.length s → L (k + 1) s (l.length : Int) = E k s) (k : Nat) (hk : K + l.length < k) (s : σ) (h0 : I 0 s) : L k s 0 = runS f (E (k - l.length - 1)) l 0 s := by
  have key : ∀ (n k i : Nat) (s : σ), i + n = l.length → K + n < k → I i s → L k s (i : Int) = runS f (E (k - n - 1)) (l.drop i) i s := by
    intro n
    induction n with
    | zero =>
      intro k i s hi hk hs
      obtain ⟨k, rfl, _⟩ := succ_of hk
      have : i = l.length := by omega
      subst this
      rw [hE k s (by omega) hs, List.drop_length]
      rfl
    | succ n ih =>
      intro k i s hi hk hs
      obtain ⟨k, rfl, _⟩ := succ_of hk
      rw [hS k i s (by omega) (by omega) hs, drop_getD l d i (by omega)]
      simp only [runS]
      cases hf : f i (l.getD i d) s with
      | inr r => rfl
      | inl s' =>
        simp only
        rw [wrap_id (by omega) (by omega)]
        have h2 := ih k (i + 1) s' (by omega) (by omega) (hI i s s' (by omega) hs hf)
        rw [show k + 1 - (n + 1) - 1 = k - n - 1 by omega, ← h2]
        rfl
  have h := key l.length k 0 s (by omega) hk h0
  simpa using h
end Go.Proofs.Ytpckkkcaffhhnaa.L

/- What is taken for a name. -/
namespace Go.Proofs.Ytpckkkcaffhhnaa.L
open Go.RowKit Go.Proofs.YtpckkkcaffhhnaaW.PrintWords Go.Proofs.YtpckkkcaffhhnaaW.PrintLast Go.Proofs.YtpckkkcaffhhnaaW.PrintMore Go.Proofs.Ytpckkkcaffhhnaa.P
set_option linter.unusedVariables false
set_option linter.unusedSimpArgs false
abbrev UnitV := List S30
def weakAt (u : UnitV) (a : ByteArray) : Bool := (u.getD (findI u a).toNat z30).f1
theorem findI_lo (u : UnitV) (a : ByteArray) : -1 ≤ findI u a ∧ findI u a < u.length := by
  have := idxFrom_lo (named a) u 0 (by omega)
  unfold findI
  omega
/-- The first unit that has a function of that name, weak or not. -/
def hitS (b : Bool) (a : ByteArray) : List UnitV → Nat → Option (Nat × Int)
  | [], _ => none
  | u :: l, i => if 0 ≤ findI u a ∧ weakAt u a = b then some (i, findI u a) else hitS b a l (i + 1)
def pickV (l : List UnitV) (a : ByteArray) : Int × Int × Bool :=
  match hitS false a l 0 with
  | some p => ((p.1 : Int), p.2, true)
  | none => match hitS true a l 0 with
    | some p => ((p.1 : Int), p.2, true)
    | none => (0, 0, false)
theorem impl_pick_l1 (b : Bool) (l : List UnitV) (hn : l.length ≤ 9223372036854775806) (hl : ∀ u ∈ l, u.length ≤ 9223372036854775806) (a : ByteArray) (y : List Bool) (c j : Int) (k : Nat) (hk : l.length < k) : impl_pick.l1 k l a b y c j l (l.length : Int) 0
    = match hitS b a l 0 with | some p => some ((p.1 : Int), p.2, true) | none => impl_pick.l0 (k - l.length - 1) l a y c (wrap64 (j + 1)) := by
  have h := loop_run (fun i u (_ : Unit) => if 0 ≤ findI u a ∧ weakAt u a = b then .inr (some ((i : Int), findI u a, true)) else .inl ()) (fun k (_ : Unit) => impl_pick.l0 k l a y c (wrap64 (j + 1))) (fun _ _ => True) [] l hn (fun k _ i => impl_pick.l1 k l a b y c j l (l.length : Int) i) 0 ?_ ?_ ?_ k (by omega) () trivial
  · refine h.trans ?_
    have key : ∀ (l' : List UnitV) (i : Nat), runS (fun i u (_ : Unit) => if 0 ≤ findI u a ∧ weakAt u a = b then .inr (some ((i : Int), findI u a, true)) else .inl ()) (fun (_ : Unit) => impl_pick.l0 (k - l.length - 1) l a y c (wrap64 (j + 1))) l' i () = match hitS b a l' i with | some p => some ((p.1 : Int), p.2, true) | none => impl_pick.l0 (k - l.length - 1) l a y c (wrap64 (j + 1)) := by
      intro l'
      induction l' with
      | nil => intro i; rfl
      | cons u l' ih =>
        intro i
        simp only [runS, hitS]
        by_cases hc : 0 ≤ findI u a ∧ weakAt u a = b
        · rw [if_pos hc, if_pos hc]
        · rw [if_neg hc, if_neg hc]
          exact ih (i + 1)
    exact key l 0
  · intro k i s _ hi _
    have hb := findI_lo (l.getD i []) a
    simp only [impl_pick.l1, impl_find.f]
    rw [if_pos (by omega), if_pos (by omega), if_pos (by omega)]
    simp only [Option.bind_some]
    show (if findI (l.getD i []) a ≥ 0 then (if 0 ≤ findI (l.getD i []) a then (if findI (l.getD i []) a < ((l.getD i []).length : Int) then (if (weakAt (l.getD i []) a == b) = true then _ else _) else none) else none) else _) = _
    by_cases h0 : 0 ≤ findI (l.getD i []) a
    · rw [if_pos h0, if_pos h0, if_pos (by omega)]
      by_cases hw : weakAt (l.getD i []) a = b
      · rw [if_pos (beq_iff_eq.mpr hw), if_pos ⟨h0, hw⟩]
        rfl
      · rw [if_neg (by rw [beq_eq_false_iff_ne.mpr hw]; decide), if_neg (fun h => hw h.2)]
    · rw [if_neg h0, if_neg (fun h => h0 h.1)]
  · intro _ _ _ _ _ _; trivial
  · intro k s _ _
    simp only [impl_pick.l1]
    rw [if_neg (by omega)]
theorem impl_pick_f (l : List UnitV) (hn : l.length ≤ 9223372036854775806) (hl : ∀ u ∈ l, u.length ≤ 9223372036854775806) (a : ByteArray) (k : Nat) (hk : 2 * l.length + 10 < k) : impl_pick.f k l a = some (pickV l a) := by
  obtain ⟨k, rfl, _⟩ := succ_of hk
  unfold impl_pick.f pickV
  simp only [Option.bind_some, impl_pick.l0, List.length_cons, List.length_nil]
  rw [if_pos (by decide), if_pos (by decide), if_pos (by decide)]
  rw [show rdOf false [false, true] (0 : Int) = false from rfl, impl_pick_l1 false l hn hl a _ _ _ k (by omega)]
  cases hitS false a l 0 with
  | some p => rfl
  | none =>
    obtain ⟨m, hm⟩ : ∃ m, k - l.length - 1 = m + 1 := ⟨k - l.length - 2, by omega⟩
    simp only [hm]
    simp only [impl_pick.l0]
    rw [show wrap64 ((0 : Int) + 1) = 1 from (by rw [wrap_id (by omega) (by omega)]; rfl), if_pos (by decide), if_pos (by decide), if_pos (by decide), show rdOf false [false, true] (1 : Int) = true from rfl, impl_pick_l1 true l hn hl a _ _ _ m (by omega)]
    cases hitS true a l 0 with
    | some p => rfl
    | none =>
      obtain ⟨q, hq⟩ : ∃ q, m - l.length - 1 = q + 1 := ⟨m - l.length - 2, by omega⟩
      simp only [hq]
      simp only [impl_pick.l0]
      rw [wrap_id (by omega) (by omega), if_neg (by decide)]
theorem spec_l3At_f (l : List UnitV) (hn : l.length ≤ 9223372036854775806) (B : Nat) (hl : ∀ u ∈ l, u.length ≤ B) (hB : B ≤ 9223372036854775806) (a : ByteArray) (k : Nat) (hk : B + 1 + l.length < k) : spec_l3At.f k l a = some (pickV l a) := by
  unfold spec_l3At.f
  let f : Nat → UnitV → Int × Int → (Int × Int) ⊕ (Option (Int × Int × Bool)) := fun i u s =>
    if findI u a < 0 then .inl s else if weakAt u a = true then (if s.1 < 0 then .inl ((i : Int), findI u a) else .inl s) else .inr (some ((i : Int), findI u a, true))
  let E : Int × Int → Option (Int × Int × Bool) := fun s => if s.1 < 0 then some (0, 0, false) else some (s.1, s.2, true)
  have h := loop_run f (fun _ => E) (fun _ _ => True) [] l hn (fun k s i => spec_l3At.l0 k l a s.1 s.2 i) (B + 1) ?_ ?_ ?_ k (by omega) (-1, -1) trivial
  · refine h.trans ?_
    have key : ∀ (l' : List UnitV) (i : Nat) (s : Int × Int), runS f E l' i s = match hitS false a l' i with | some p => some ((p.1 : Int), p.2, true) | none => if s.1 < 0 then (match hitS true a l' i with | some p => some ((p.1 : Int), p.2, true) | none => some (0, 0, false)) else some (s.1, s.2, true) := by
      intro l'
      induction l' with
      | nil => intro i s; rfl
      | cons u l' ih =>
        intro i s
        simp only [runS, hitS, f]
        by_cases h0 : findI u a < 0
        · rw [if_pos h0, if_neg (show ¬ (0 ≤ findI u a ∧ weakAt u a = false) from fun h => by omega), if_neg (show ¬ (0 ≤ findI u a ∧ weakAt u a = true) from fun h => by omega)]
          exact ih (i + 1) s
        · rw [if_neg h0]
          cases hw : weakAt u a with
          | false =>
            rw [if_neg (show ¬ (false = true) by decide), if_pos (show 0 ≤ findI u a ∧ false = false from ⟨by omega, rfl⟩)]
          | true =>
            rw [if_pos (show true = true from rfl), if_neg (show ¬ (0 ≤ findI u a ∧ true = false) from fun h => absurd h.2 (by decide)), if_pos (show 0 ≤ findI u a ∧ true = true from ⟨by omega, rfl⟩)]
            by_cases hs : s.1 < 0
            · rw [if_pos hs, if_pos hs]
              simp only
              rw [ih (i + 1) _, if_neg (by simp only; omega)]
            · rw [if_neg hs, if_neg hs]
              simp only
              rw [ih (i + 1) s, if_neg hs]
    rw [key l 0 (-1, -1), if_pos (by decide)]
    unfold pickV
    cases hitS false a l 0 with
    | some p => rfl
    | none => cases hitS true a l 0 <;> rfl
  · intro k i s hK hi _
    have hb := findI_lo (l.getD i []) a
    have hu := hl _ (getD_mem (d := []) hi)
    simp only [spec_l3At.l0]
    rw [if_pos (by omega), if_pos (by omega), spec_l2Find_f (rd_L13 l (i : Int)) (Nat.le_trans hu (by omega)) a k (Nat.lt_of_le_of_lt hu (by omega))]
    simp only [Option.bind_some]
    show (if findI (l.getD i []) a < 0 then _ else (if 0 ≤ findI (l.getD i []) a then (if findI (l.getD i []) a < ((l.getD i []).length : Int) then (if weakAt (l.getD i []) a = true then _ else _) else none) else none)) = _
    simp only [f]
    by_cases h0 : findI (l.getD i []) a < 0
    · rw [if_pos h0, if_pos h0]
    · rw [if_neg h0, if_neg h0, if_pos (by omega), if_pos (by omega)]
      cases hw : weakAt (l.getD i []) a with
      | false => rw [if_neg (by decide), if_neg (by decide)]; rfl
      | true =>
        rw [if_pos rfl, if_pos rfl]
        by_cases hs : s.1 < 0
        · rw [if_pos hs, if_pos hs]; rfl
        · rw [if_neg hs, if_neg hs]
  · intro _ _ _ _ _ _; trivial
  · intro k s _ _
    simp only [spec_l3At.l0, E]
    rw [if_neg (by omega)]
def FitU (u : UnitV) : Prop := u.length ≤ 140737488351232 ∧ ∀ x ∈ u, FitF x
def unitsOkB (l : List UnitV) (n : Int) : Bool := decide ((l.length : Int) ≤ n) && !(l.any fun u => !unitOkB u)
theorem spec_l3Ok_f (l : List UnitV) (hn : l.length ≤ 9223372036854775806) (hl : ∀ u ∈ l, FitU u) (n : Int) (k : Nat) (hk : 500000000000000 + l.length < k) : spec_l3Ok.f k l n = some (unitsOkB l n) := by
  have e : unitsOkB l n = (allFrom (fun _ u => unitOkB u) l 0 && decide ((l.length : Int) ≤ n)) := by
    rw [allFrom_all, all_not_any]
    unfold unitsOkB
    rw [Bool.and_comm]
  rw [e]
  unfold spec_l3Ok.f
  refine loop_all (fun _ u => unitOkB u) [] l _ (by omega) (fun k i => spec_l3Ok.l0 k l n i) 500000000000000 ?_ ?_ ?_ k (by omega)
  · intro k i hK hi hq
    have hu := hl _ (getD_mem (d := []) hi)
    simp only [spec_l3Ok.l0]
    rw [if_pos (by omega), if_pos (by omega), spec_UnitOk_f (rd_L13 l (i : Int)) hu.1 hu.2 k hK]
    simp only [Option.bind_some]
    rw [show unitOkB (rd_L13 l (i : Int)) = true from hq, if_pos rfl]
  · intro k i hK hi hq
    have hu := hl _ (getD_mem (d := []) hi)
    simp only [spec_l3Ok.l0]
    rw [if_pos (by omega), if_pos (by omega), spec_UnitOk_f (rd_L13 l (i : Int)) hu.1 hu.2 k hK]
    simp only [Option.bind_some]
    rw [show unitOkB (rd_L13 l (i : Int)) = false from hq, if_neg (by decide)]
  · intro k _
    simp only [spec_l3Ok.l0]
    rw [if_neg (by omega)]
theorem impl_unitsOk_f (l : List UnitV) (hl : ∀ u ∈ l, FitU u) (n : Int) : impl_unitsOk.f l n = some (unitsOkB l n) := by
  unfold impl_unitsOk.f
  rw [if_pos (fun u hu => ⟨(hl u hu).1, fun x hx => (hl u hu).2 x hx⟩)]
  rfl
theorem unitsOkB_len {l : List UnitV} {n : Int} (h : unitsOkB l n = true) : (l.length : Int) ≤ n := by
  unfold unitsOkB at h
  simp only [Bool.and_eq_true, decide_eq_true_eq] at h
  exact h.1
def pickAtV (l : List UnitV) (a : ByteArray) : Int × Int × Bool := if unitsOkB l 8 = true then pickV l a else (0, 0, false)
theorem spec_PickAt_f (l : List UnitV) (hn : l.length ≤ 9223372036854775806) (hl : ∀ u ∈ l, FitU u) (a : ByteArray) (k : Nat) (hk : 500000000000000 + l.length < k) : spec_PickAt.f k l a = some (pickAtV l a) := by
  unfold spec_PickAt.f pickAtV
  rw [spec_l3Ok_f l hn hl 8 k hk, spec_l3At_f l hn 140737488351232 (fun u hu => (hl u hu).1) (by decide) a k (by omega)]
  simp only [Option.bind_some]
  split <;> rfl
theorem impl_PickAt_f (l : List UnitV) (hl : ∀ u ∈ l, FitU u) (a : ByteArray) (k : Nat) (hk : 100 < k) : impl_PickAt.f k l a = some (pickAtV l a) := by
  unfold impl_PickAt.f pickAtV
  rw [impl_unitsOk_f l hl 8]
  simp only [Option.bind_some]
  by_cases h : unitsOkB l 8 = true
  · have := unitsOkB_len h
    rw [if_pos h, if_pos h, impl_pick_f l (by omega) (fun u hu => by have := (hl u hu).1; omega) a k (by omega)]
    rfl
  · rw [if_neg h, if_neg h]
end Go.Proofs.Ytpckkkcaffhhnaa.L

/- What the drawing functions compute: a code is read byte by byte; each pick is within its range. -/
namespace Go.Proofs.Ytpckkkcaffhhnaa.L
open Go.RowKit Go.Proofs.YtpckkkcaffhhnaaW.PrintWords Go.Proofs.YtpckkkcaffhhnaaW.PrintLast Go.Proofs.YtpckkkcaffhhnaaW.PrintMore Go.Proofs.Ytpckkkcaffhhnaa.P
set_option linter.unusedVariables false
set_option linter.unusedSimpArgs false

/-- The bytes of a code. -/
def Bytes (l : List Int) : Prop := l.length ≤ 1048576 ∧ ∀ x ∈ l, (Lit.int .u8 x).wf = true
/-- A place to read on from: nowhere near an overflow. -/
def Place (p : Int) : Prop := 0 ≤ p ∧ p < 1000000000000
theorem Bytes.take {l : List Int} (h : Bytes l) (n : Nat) : Bytes (l.take n) :=
  ⟨Nat.le_trans (by rw [List.length_take]; omega) h.1, fun x hx => h.2 x (List.mem_of_mem_take hx)⟩

theorem spec_l13Open_f (l : List Int) (h : Bytes l) : ∃ l', spec_l13Open.f l = some (l', 0) ∧ Bytes l' ∧ l'.length ≤ 2000 := by
  unfold spec_l13Open.f
  by_cases c : (l.length : Int) > 2000
  · rw [if_pos c, if_pos (by omega)]
    exact ⟨_, rfl, h.take 2000, by rw [List.length_take]; omega⟩
  · rw [if_neg c]
    exact ⟨l, rfl, h, by omega⟩
/-- The number that is made past the end of a code: some number, not negative. -/
theorem mixed (l : List Int) (hl : Bytes l) (h0 : 0 < l.length) (p : Int) (hp : 0 ≤ p) (hp' : p < 1000000000000) (x y q : Int) (hx : 0 ≤ x ∧ x ≤ 255) (hy : 0 ≤ y ∧ y ≤ 255) (hq : 0 ≤ q ∧ q ≤ p) :
    ∃ z, wrap64 ((wrap64 ((wrap64 ((wrap64 (x * 131)) + (wrap64 (y * 1117)))) + (wrap64 (p * 29)))) + (wrap64 (q * 53))) = z ∧ 0 ≤ z ∧ z < 1000000000000000 := by
  refine ⟨x * 131 + y * 1117 + p * 29 + q * 53, ?_, by omega, by omega⟩
  rw [wrap_id (n := x * 131) (by omega) (by omega), wrap_id (n := y * 1117) (by omega) (by omega), wrap_id (n := p * 29) (by omega) (by omega), wrap_id (n := q * 53) (by omega) (by omega),
    wrap_id (n := x * 131 + y * 1117) (by omega) (by omega), wrap_id (n := x * 131 + y * 1117 + p * 29) (by omega) (by omega), wrap_id (n := x * 131 + y * 1117 + p * 29 + q * 53) (by omega) (by omega)]
theorem spec_l13Rd_pick_f (l : List Int) (hl : Bytes l) (p n : Int) (hp : 0 ≤ p) (hp' : p < 1000000000000) (hn : 1 ≤ n) :
    ∃ r, (∀ k, 1 ≤ k → spec_l13Rd_pick.f k l p n = some (r, p + 1)) ∧ 0 ≤ r ∧ r < n := by
  have e1 : wrap64 (p + 1) = p + 1 := wrap_id (by omega) (by omega)
  have e2 : wrap64 (p + 1 - 1) = p := by rw [show p + 1 - 1 = p by omega]; exact wrap_id (by omega) (by omega)
  by_cases h0 : l.length = 0
  · refine ⟨0, fun k hk => ?_, by omega, by omega⟩
    obtain ⟨m, rfl, _⟩ := succ_of hk
    unfold spec_l13Rd_pick.f
    rw [if_neg (by omega), e1]
    simp only [spec_l13Rd_pick.j0]
    rw [if_pos (by rw [h0]; rfl)]
  · have hb : ((l.length : Int) == 0) = false := beq_eq_false_iff_ne.mpr (by omega)
    by_cases c : p < (l.length : Int)
    · have hb2 := rd_byte hl.2 p
      refine ⟨Int.tmod (rd l p) n, fun k hk => ?_, tmod_small hb2.1 hn⟩
      obtain ⟨m, rfl, _⟩ := succ_of hk
      unfold spec_l13Rd_pick.f
      rw [if_neg (by omega), e1, hb]
      simp only [spec_l13Rd_pick.j0]
      rw [if_neg (by decide), e2, if_pos c, if_pos hp, if_neg (by omega), wrap_id (n := rd l p) (by omega) (by omega)]
    · have hL : (1 : Int) ≤ l.length := by omega
      have t1 := tmod_small hp hL
      have h7 : wrap64 (p * 7) = p * 7 := wrap_id (by omega) (by omega)
      have h73 : wrap64 (p * 7 + 3) = p * 7 + 3 := wrap_id (by omega) (by omega)
      have t2 := tmod_small (a := p * 7 + 3) (by omega) hL
      have b1 := rd_byte hl.2 (Int.tmod p l.length)
      have b2 := rd_byte hl.2 (Int.tmod (p * 7 + 3) l.length)
      have q1 := tdiv_small hp hL
      have w1 := wrap_id (n := rd l (Int.tmod p l.length)) (by omega) (by omega)
      have w2 := wrap_id (n := rd l (Int.tmod (p * 7 + 3) l.length)) (by omega) (by omega)
      have w3 := wrap_id (n := Int.tdiv p l.length) (by omega) (by omega)
      obtain ⟨z, hz, z0, z1⟩ := mixed l hl (by omega) p hp hp' _ _ _ b1 b2 q1
      have q2 := tdiv_small (a := z) (n := 64) z0 (by omega)
      have w4 := wrap_id (n := Int.tdiv z 64) (by omega) (by omega)
      have x1 := xor_nonneg z (Int.tdiv z 64) z0 (by omega) q2.1 (by omega)
      refine ⟨Int.tmod (Go.bits .xor .i64 z (Int.tdiv z 64)) n, fun k hk => ?_, tmod_small x1.1 hn⟩
      obtain ⟨m, rfl, _⟩ := succ_of hk
      unfold spec_l13Rd_pick.f
      rw [if_neg (by omega), e1, hb]
      simp only [spec_l13Rd_pick.j0]
      rw [if_neg (by decide), e2, if_neg c, if_neg (by omega), if_pos t1.1, if_pos t1.2, h7, h73, if_pos t2.1, if_pos t2.2, if_neg (by omega), w1, w2, w3, hz, w4]
theorem spec_l13Rd_num_f (l : List Int) (hl : Bytes l) (p : Int) (hp : 0 ≤ p) (hp' : p < 1000000000000) (xs : List Int) (hx : 0 < xs.length) :
    ∃ r, (∀ k, 1 ≤ k → spec_l13Rd_num.f k l p xs = some (r, p + 1)) ∧ r ∈ xs := by
  obtain ⟨r, hr, r0, r1⟩ := spec_l13Rd_pick_f l hl p xs.length hp hp' (by omega)
  refine ⟨rd xs r, fun k hk => ?_, ?_⟩
  · unfold spec_l13Rd_num.f
    rw [hr k hk]
    simp only [Option.bind_some]
    rw [if_pos r0, if_pos r1]
  · unfold rd
    rw [List.getD_eq_getElem?_getD, List.getElem?_eq_getElem (by omega)]
    exact List.getElem_mem _
theorem spec_l13Rd_of_f (l : List Int) (hl : Bytes l) (p : Int) (hp : 0 ≤ p) (hp' : p < 1000000000000) (xs : List ByteArray) (hx : 0 < xs.length) :
    ∃ r, (∀ k, 1 ≤ k → spec_l13Rd_of.f k l p xs = some (r, p + 1)) ∧ r ∈ xs := by
  obtain ⟨r, hr, r0, r1⟩ := spec_l13Rd_pick_f l hl p xs.length hp hp' (by omega)
  refine ⟨rdOf ByteArray.empty xs r, fun k hk => ?_, ?_⟩
  · unfold spec_l13Rd_of.f
    rw [hr k hk]
    simp only [Option.bind_some]
    rw [if_pos r0, if_pos r1]
  · unfold rdOf
    rw [List.getD_eq_getElem?_getD, List.getElem?_eq_getElem (by omega)]
    exact List.getElem_mem _
def names6 : List ByteArray := [(⟨#[97]⟩ : ByteArray), (⟨#[98]⟩ : ByteArray), (⟨#[99]⟩ : ByteArray), (⟨#[100]⟩ : ByteArray), (⟨#[109, 97, 105, 110]⟩ : ByteArray), (⟨#[101]⟩ : ByteArray)]
theorem spec_l1Name_f (l : List Int) (hl : Bytes l) (p : Int) (hp : 0 ≤ p) (hp' : p < 1000000000000) :
    ∃ r, (∀ k, 1 ≤ k → spec_l1Name.f k l p = some (r, p + 1)) ∧ r ∈ names6 := by
  obtain ⟨r, hr, hm⟩ := spec_l13Rd_of_f l hl p hp hp' names6 (by decide)
  refine ⟨r, fun k hk => ?_, hm⟩
  unfold spec_l1Name.f
  have e := hr k hk
  unfold names6 at e
  rw [e]
  rfl
/-- A place further on, at most n places. -/
def On (p q : Int) (n : Int) : Prop := p ≤ q ∧ q ≤ p + n
theorem spec_l1Ins_f (l : List Int) (hl : Bytes l) (p : Int) (hp : 0 ≤ p) (hp' : p < 900000000000) :
    ∃ a b s q, (∀ k, 4 ≤ k → spec_l1Ins.f k l p = some (a, b, s, q)) ∧ On p q 2 ∧ s.size ≤ 4 := by
  obtain ⟨r, hr, r0, r1⟩ := spec_l13Rd_pick_f l hl p 8 hp (by omega) (by omega)
  obtain ⟨n1, hn1, _⟩ := spec_l13Rd_num_f l hl (p + 1) (by omega) (by omega) [1, (-1), 2, 5, (-3)] (by decide)
  obtain ⟨n2, hn2, _⟩ := spec_l13Rd_num_f l hl (p + 1) (by omega) (by omega) [6, 6, 7, 4] (by decide)
  obtain ⟨s1, hs1, hm1⟩ := spec_l1Name_f l hl (p + 1) (by omega) (by omega)
  have hz1 : s1.size ≤ 4 := by
    simp only [names6, List.mem_cons, List.not_mem_nil, or_false] at hm1
    rcases hm1 with rfl | rfl | rfl | rfl | rfl | rfl <;> decide
  have j2 : ∀ k, 1 ≤ k → ∀ b, ∃ a' b' s' q', (spec_l1Ins.j2 (k + 1) r b l (p + 1) = some (a', b', s', q')) ∧ On p q' 2 ∧ s'.size ≤ 4 ∧ ((b = true ∧ a' = 3 ∧ b' = 0 ∧ s' = s1 ∧ q' = p + 1 + 1) ∨ (b = false ∧ r = 6 ∧ a' = 5 ∧ b' = 0 ∧ s' = s1 ∧ q' = p + 1 + 1) ∨ (b = false ∧ r ≠ 6 ∧ a' = n2 ∧ b' = 0 ∧ s' = ⟨#[]⟩ ∧ q' = p + 1 + 1)) := by
    intro k hk b
    simp only [spec_l1Ins.j2]
    rw [hs1 k hk, hn2 k hk]
    cases b with
    | true => exact ⟨3, 0, s1, p + 1 + 1, rfl, ⟨by omega, by omega⟩, hz1, .inl ⟨rfl, rfl, rfl, rfl, rfl⟩⟩
    | false =>
      by_cases h6 : r = 6
      · exact ⟨5, 0, s1, p + 1 + 1, by rw [if_neg (by decide), if_pos h6]; rfl, ⟨by omega, by omega⟩, hz1, .inr (.inl ⟨rfl, h6, rfl, rfl, rfl, rfl⟩)⟩
      · exact ⟨n2, 0, ⟨#[]⟩, p + 1 + 1, by rw [if_neg (by decide), if_neg h6]; rfl, ⟨by omega, by omega⟩, by decide, .inr (.inr ⟨rfl, h6, rfl, rfl, rfl, rfl⟩)⟩
  -- which of the ways it goes hangs on r alone
  by_cases h01 : r = 0 ∨ r = 1
  · refine ⟨1, 0, ⟨#[]⟩, p + 1, fun k hk => ?_, ⟨by omega, by omega⟩, by decide⟩
    obtain ⟨m, rfl, _⟩ := succ_of (d := 3) hk
    unfold spec_l1Ins.f
    rw [hr _ (by omega)]
    simp only [Option.bind_some, spec_l1Ins.j0]
    rcases h01 with rfl | rfl <;> rfl
  · by_cases h23 : r = 2 ∨ r = 3
    · refine ⟨2, n1, ⟨#[]⟩, p + 1 + 1, fun k hk => ?_, ⟨by omega, by omega⟩, by decide⟩
      obtain ⟨m, rfl, hm⟩ := succ_of (d := 3) hk
      obtain ⟨m, rfl, hm2⟩ := succ_of (d := 2) hm
      unfold spec_l1Ins.f
      rw [hr _ (by omega)]
      simp only [Option.bind_some, spec_l1Ins.j0, spec_l1Ins.j1]
      rw [hn1 m (by omega)]
      rcases h23 with rfl | rfl <;> rfl
    · by_cases h45 : r = 4 ∨ r = 5
      · refine ⟨3, 0, s1, p + 1 + 1, fun k hk => ?_, ⟨by omega, by omega⟩, hz1⟩
        obtain ⟨m, rfl, hm⟩ := succ_of (d := 3) hk
        obtain ⟨m, rfl, hm2⟩ := succ_of (d := 2) hm
        obtain ⟨m, rfl, hm3⟩ := succ_of (d := 1) hm2
        unfold spec_l1Ins.f
        rw [hr _ (by omega)]
        simp only [Option.bind_some, spec_l1Ins.j0, spec_l1Ins.j1, spec_l1Ins.j2]
        rw [hs1 m (by omega)]
        rcases h45 with rfl | rfl <;> rfl
      · obtain ⟨a', b', s', q', _, hon, hsz, hwhat⟩ := j2 1 (Nat.le_refl _) false
        refine ⟨a', b', s', q', fun k hk => ?_, hon, hsz⟩
        obtain ⟨m, rfl, hm⟩ := succ_of (d := 3) hk
        obtain ⟨m, rfl, hm2⟩ := succ_of (d := 2) hm
        obtain ⟨m, rfl, hm3⟩ := succ_of (d := 1) hm2
        unfold spec_l1Ins.f
        rw [hr _ (by omega)]
        have e1 : (r == 1) = false := beq_eq_false_iff_ne.mpr (by omega)
        have e3 : (r == 3) = false := beq_eq_false_iff_ne.mpr (by omega)
        have e5 : (r == 5) = false := beq_eq_false_iff_ne.mpr (by omega)
        simp only [Option.bind_some]
        rw [if_neg (by omega), e1]
        simp only [spec_l1Ins.j0]
        rw [if_neg (by decide), if_neg (by omega), e3]
        simp only [spec_l1Ins.j1]
        rw [if_neg (by decide), if_neg (by omega), e5]
        simp only [spec_l1Ins.j2]
        rw [if_neg (by decide), hs1 m (by omega), hn2 m (by omega)]
        rcases hwhat with ⟨h, _⟩ | ⟨_, h6, rfl, rfl, rfl, rfl⟩ | ⟨_, h6, rfl, rfl, rfl, rfl⟩
        · exact absurd h (by decide)
        · rw [if_pos h6]; rfl
        · rw [if_neg h6]; rfl
theorem spec_l1Right_f (l : List Int) (hl : Bytes l) (p : Int) (hp : 0 ≤ p) (hp' : p < 900000000000) :
    ∃ a b s q, (∀ k, 4 ≤ k → spec_l1Right.f k l p = some (a, b, s, q)) ∧ On p q 3 ∧ s.size ≤ 4 := by
  obtain ⟨a, b, s, q, h, hq, hs⟩ := spec_l1Ins_f l hl p hp hp'
  by_cases c : a = 4
  · obtain ⟨s2, h2, hm⟩ := spec_l1Name_f l hl q (by have := hq.1; omega) (by have := hq.2; omega)
    refine ⟨a, b, s2, q + 1, fun k hk => ?_, ⟨by have := hq.1; omega, by have := hq.2; omega⟩, ?_⟩
    · unfold spec_l1Right.f
      rw [h k hk]
      simp only [Option.bind_some]
      rw [if_pos c, h2 k (by omega)]
      rfl
    · simp only [names6, List.mem_cons, List.not_mem_nil, or_false] at hm
      rcases hm with rfl | rfl | rfl | rfl | rfl | rfl <;> decide
  · refine ⟨a, b, s, q, fun k hk => ?_, ⟨hq.1, by have := hq.2; omega⟩, hs⟩
    unfold spec_l1Right.f
    rw [h k hk]
    simp only [Option.bind_some]
    rw [if_neg c]
theorem spec_l1Bent_f (l : List Int) (hl : Bytes l) (p : Int) (hp : 0 ≤ p) (hp' : p < 900000000000) :
    ∃ a b s q, (∀ k, 4 ≤ k → spec_l1Bent.f k l p = some (a, b, s, q)) ∧ On p q 5 ∧ s.size ≤ 7 := by
  obtain ⟨a, b, s, q, h, hq, hs⟩ := spec_l1Right_f l hl p hp hp'
  have q0 := hq.1
  have q1 := hq.2
  obtain ⟨r, hr, r0, r1⟩ := spec_l13Rd_pick_f l hl q 30 (by omega) (by omega) (by omega)
  obtain ⟨n1, hn1, _⟩ := spec_l13Rd_num_f l hl (q + 1) (by omega) (by omega) [0, 8, (-1), 1] (by decide)
  obtain ⟨n2, hn2, _⟩ := spec_l13Rd_num_f l hl (q + 1) (by omega) (by omega) [1, 1000, 1001] (by decide)
  obtain ⟨s1, hs1, hm1⟩ := spec_l13Rd_of_f l hl (q + 1) (by omega) (by omega) [(⟨#[65]⟩ : ByteArray), (⟨#[97, 98, 99, 100, 101, 102, 103]⟩ : ByteArray), (⟨#[97, 32, 98]⟩ : ByteArray), (⟨#[120]⟩ : ByteArray)] (by decide)
  have hz1 : s1.size ≤ 7 := by
    simp only [List.mem_cons, List.not_mem_nil, or_false] at hm1
    rcases hm1 with rfl | rfl | rfl | rfl <;> decide
  by_cases c0 : r = 0
  · refine ⟨n1, b, s, q + 1 + 1, fun k hk => ?_, ⟨by omega, by omega⟩, by omega⟩
    unfold spec_l1Bent.f
    rw [h k hk]; simp only [Option.bind_some]
    rw [hr k (by omega)]; simp only [Option.bind_some]
    rw [if_pos c0, hn1 k (by omega)]; rfl
  · by_cases c1 : r = 1
    · refine ⟨a, n2, s, q + 1 + 1, fun k hk => ?_, ⟨by omega, by omega⟩, by omega⟩
      unfold spec_l1Bent.f
      rw [h k hk]; simp only [Option.bind_some]
      rw [hr k (by omega)]; simp only [Option.bind_some]
      rw [if_neg c0, if_pos c1, hn2 k (by omega)]; rfl
    · by_cases c2 : r = 2
      · refine ⟨a, b, s1, q + 1 + 1, fun k hk => ?_, ⟨by omega, by omega⟩, hz1⟩
        unfold spec_l1Bent.f
        rw [h k hk]; simp only [Option.bind_some]
        rw [hr k (by omega)]; simp only [Option.bind_some]
        rw [if_neg c0, if_neg c1, if_pos c2, hs1 k (by omega)]; rfl
      · refine ⟨a, b, s, q + 1, fun k hk => ?_, ⟨by omega, by omega⟩, by omega⟩
        unfold spec_l1Bent.f
        rw [h k hk]; simp only [Option.bind_some]
        rw [hr k (by omega)]; simp only [Option.bind_some]
        rw [if_neg c0, if_neg c1, if_neg c2]
end Go.Proofs.Ytpckkkcaffhhnaa.L

/- What the drawing functions of units draw: some unit, small. -/
namespace Go.Proofs.Ytpckkkcaffhhnaa.L
open Go.RowKit Go.Proofs.YtpckkkcaffhhnaaW.PrintWords Go.Proofs.YtpckkkcaffhhnaaW.PrintLast Go.Proofs.YtpckkkcaffhhnaaW.PrintMore Go.Proofs.Ytpckkkcaffhhnaa.P
set_option linter.unusedVariables false
set_option linter.unusedSimpArgs false
/-- A function with a small name, at most n instructions, all with small names. -/
def SmallF (n : Nat) (x : S30) : Prop := x.f0.size ≤ 7 ∧ x.f2.length ≤ n ∧ ∀ y ∈ x.f2, y.f2.size ≤ 7
def SmallU (u : List S30) : Prop := 1 ≤ u.length ∧ u.length ≤ 4 ∧ ∀ x ∈ u, SmallF 6 x
theorem SmallF.fit {n : Nat} {x : S30} (h : SmallF n x) (hn : n ≤ 1000) : FitF x := ⟨by have := h.1; omega, by have := h.2.1; omega, fun y hy => by have := h.2.2 y hy; omega⟩
theorem SmallU.fit {u : List S30} (h : SmallU u) : ∀ x ∈ u, FitF x := fun x hx => (h.2.2 x hx).fit (by omega)
theorem names6_size {s : ByteArray} (h : s ∈ names6) : s.size ≤ 7 := by
  simp only [names6, List.mem_cons, List.not_mem_nil, or_false] at h
  rcases h with rfl | rfl | rfl | rfl | rfl | rfl <;> decide
theorem l2Fun_end (l : List Int) (hl : Bytes l) (a : ByteArray) (w : Bool) (p : Int) (body : List S38) (hp : 0 ≤ p) (hp' : p < 800000000000) (hb : body.length ≤ 4) (hs : ∀ y ∈ body, y.f2.size ≤ 7) :
    ∃ (body' : List S38) (q : Int), (∀ k, 2 ≤ k → spec_l2Fun.l0 k 0 l p a w body = some (a, w, body', q)) ∧ On p q 2 ∧ body'.length ≤ 5 ∧ ∀ y ∈ body', y.f2.size ≤ 7 := by
  obtain ⟨r, hr, r0, r1⟩ := spec_l13Rd_pick_f l hl p 6 hp (by omega) (by omega)
  obtain ⟨s, hn, hm⟩ := spec_l1Name_f l hl (p + 1) (by omega) (by omega)
  have hz := names6_size hm
  have app : ∀ i : S38, i.f2.size ≤ 7 → ∀ y ∈ body ++ [i], y.f2.size ≤ 7 := fun i hi y hy => by
    rcases List.mem_append.mp hy with h | h
    · exact hs y h
    · rw [List.mem_singleton.mp h]; exact hi
  by_cases h0 : r = 0
  · refine ⟨body ++ [⟨4, 0, s⟩], p + 1 + 1, fun k hk => ?_, ⟨by omega, by omega⟩, by rw [List.length_append]; simp; omega, app _ hz⟩
    obtain ⟨k, rfl, _⟩ := succ_of (d := 1) hk
    simp only [spec_l2Fun.l0]
    rw [if_neg (by omega), hr k (by omega)]
    simp only [Option.bind_some]
    rw [if_pos h0, hn k (by omega)]
    simp only [Option.bind_some]
    rw [if_pos (by omega)]
  · by_cases h1 : r = 1
    · refine ⟨body ++ [⟨7, 0, ⟨#[]⟩⟩], p + 1, fun k hk => ?_, ⟨by omega, by omega⟩, by rw [List.length_append]; simp; omega, app _ (by decide)⟩
      obtain ⟨k, rfl, _⟩ := succ_of (d := 1) hk
      simp only [spec_l2Fun.l0]
      rw [if_neg (by omega), hr k (by omega)]
      simp only [Option.bind_some]
      rw [if_neg h0, if_pos h1, if_pos (by omega)]
    · refine ⟨body ++ [⟨6, 0, ⟨#[]⟩⟩], p + 1, fun k hk => ?_, ⟨by omega, by omega⟩, by rw [List.length_append]; simp; omega, app _ (by decide)⟩
      obtain ⟨k, rfl, _⟩ := succ_of (d := 1) hk
      simp only [spec_l2Fun.l0]
      rw [if_neg (by omega), hr k (by omega)]
      simp only [Option.bind_some]
      rw [if_neg h0, if_neg h1, if_pos (by omega)]
theorem l2Fun_l0 (l : List Int) (hl : Bytes l) (a : ByteArray) (w : Bool) : ∀ (n : Nat) (p : Int) (body : List S38), 0 ≤ p → p + 4 * n < 700000000000 → body.length + n ≤ 4 → (∀ y ∈ body, y.f2.size ≤ 7) →
    ∃ (body' : List S38) (q : Int), (∀ k, n + 6 ≤ k → spec_l2Fun.l0 k (n : Int) l p a w body = some (a, w, body', q)) ∧ On p q (4 * n + 2) ∧ body'.length ≤ 5 ∧ ∀ y ∈ body', y.f2.size ≤ 7
  | 0, p, body, hp, hp', hb, hs => by
    obtain ⟨b, q, h1, h2, h3, h4⟩ := l2Fun_end l hl a w p body hp (by omega) (by omega) hs
    exact ⟨b, q, fun k hk => h1 k (by omega), ⟨h2.1, by have := h2.2; omega⟩, h3, h4⟩
  | n + 1, p, body, hp, hp', hb, hs => by
    obtain ⟨i, j, s, q, h, hq, hz⟩ := spec_l1Right_f l hl p hp (by omega)
    have q0 := hq.1
    have q1 := hq.2
    have hw : wrap64 (((n + 1 : Nat) : Int) - 1) = (n : Int) := by rw [wrap_id (by omega) (by omega)]; push_cast; omega
    have step : ∀ k, n + 6 ≤ k → spec_l2Fun.l0 (k + 1) ((n + 1 : Nat) : Int) l p a w body = if lastB i = true then spec_l2Fun.l0 k (n : Int) l q a w body else spec_l2Fun.l0 k (n : Int) l q a w (body ++ [⟨i, j, s⟩]) := by
      intro k hk
      simp only [spec_l2Fun.l0]
      rw [if_pos (by push_cast; omega), h k (by omega)]
      simp only [Option.bind_some]
      rw [spec_InsLast_f]
      simp only [Option.bind_some]
      rw [hw, if_pos (show body.length < 4398046511104 by omega)]
    cases hlast : lastB i with
    | true =>
      obtain ⟨b, q', h1, h2, h3, h4⟩ := l2Fun_l0 l hl a w n q body (by omega) (by push_cast at hp'; omega) (by omega) hs
      refine ⟨b, q', fun k hk => ?_, ⟨by have := h2.1; omega, by have := h2.2; push_cast; omega⟩, h3, h4⟩
      obtain ⟨k, rfl, hk'⟩ := succ_of (show n + 6 < k by omega)
      rw [step k hk', hlast, if_pos rfl, h1 k hk']
    | false =>
      obtain ⟨b, q', h1, h2, h3, h4⟩ := l2Fun_l0 l hl a w n q (body ++ [⟨i, j, s⟩]) (by omega) (by push_cast at hp'; omega) (by rw [List.length_append]; simp; omega) (fun y hy => by
        rcases List.mem_append.mp hy with h | h
        · exact hs y h
        · rw [List.mem_singleton.mp h]; show s.size ≤ 7; omega)
      refine ⟨b, q', fun k hk => ?_, ⟨by have := h2.1; omega, by have := h2.2; push_cast; omega⟩, h3, h4⟩
      obtain ⟨k, rfl, hk'⟩ := succ_of (show n + 6 < k by omega)
      rw [step k hk', hlast, if_neg (by decide), h1 k hk']
theorem spec_l2Fun_f (l : List Int) (hl : Bytes l) (p : Int) (hp : 0 ≤ p) (hp' : p < 600000000000) (a : ByteArray) (ha : a.size ≤ 7) :
    ∃ (x : S30) (q : Int), (∀ k, 20 ≤ k → spec_l2Fun.f k l p a = some (x.f0, x.f1, x.f2, q)) ∧ On p q 30 ∧ SmallF 5 x := by
  obtain ⟨r, hr, _, _⟩ := spec_l13Rd_pick_f l hl p 5 hp (by omega) (by omega)
  obtain ⟨n, hn, n0, n1⟩ := spec_l13Rd_pick_f l hl (p + 1) 5 (by omega) (by omega) (by omega)
  obtain ⟨m, rfl⟩ : ∃ m : Nat, n = m := ⟨n.toNat, by omega⟩
  obtain ⟨b, q, h1, h2, h3, h4⟩ := l2Fun_l0 l hl a (r == 0) m (p + 1 + 1) [] (by omega) (by omega) (by simp; omega) (by simp)
  refine ⟨⟨a, (r == 0), b⟩, q, fun k hk => ?_, ⟨by have := h2.1; omega, by have := h2.2; omega⟩, ha, h3, h4⟩
  unfold spec_l2Fun.f
  rw [hr k (by omega)]
  simp only [Option.bind_some]
  rw [hn k (by omega)]
  simp only [Option.bind_some]
  rw [h1 k (by omega)]
theorem l2Unit_l0 (l : List Int) (hl : Bytes l) : ∀ (n : Nat) (p : Int) (u : List S30), 0 ≤ p → p + 40 * n < 500000000000 → u.length + n ≤ 3 → (1 ≤ u.length ∨ 1 ≤ n) → (∀ x ∈ u, SmallF 5 x) →
    ∃ (u' : List S30) (q : Int), (∀ k, n + 30 ≤ k → spec_l2Unit.l0 k u (n : Int) l p = some (u', q)) ∧ On p q (40 * n) ∧ 1 ≤ u'.length ∧ u'.length ≤ 3 ∧ ∀ x ∈ u', SmallF 5 x
  | 0, p, u, hp, hp', hu, h1, hs => by
    refine ⟨u, p, fun k hk => ?_, ⟨by omega, by omega⟩, by omega, by omega, hs⟩
    obtain ⟨k, rfl, _⟩ := succ_of (show 29 < k by omega)
    simp only [spec_l2Unit.l0]
    rw [if_neg (by omega)]
  | n + 1, p, u, hp, hp', hu, h1, hs => by
    obtain ⟨s, hn, hm⟩ := spec_l1Name_f l hl p hp (by omega)
    obtain ⟨x, q, hx, hq, hsm⟩ := spec_l2Fun_f l hl (p + 1) (by omega) (by omega) s (names6_size hm)
    have q0 := hq.1
    have q1 := hq.2
    have hw : wrap64 (((n + 1 : Nat) : Int) - 1) = (n : Int) := by rw [wrap_id (by omega) (by omega)]; push_cast; omega
    have step : ∀ k, n + 30 ≤ k → spec_l2Unit.l0 (k + 1) u ((n + 1 : Nat) : Int) l p = if findI u s < 0 then spec_l2Unit.l0 k (u ++ [x]) (n : Int) l q else spec_l2Unit.l0 k u (n : Int) l (p + 1) := by
      intro k hk
      simp only [spec_l2Unit.l0]
      rw [if_pos (by push_cast; omega), hn k (by omega)]
      simp only [Option.bind_some]
      rw [spec_l2Find_f u (by omega) s k (by omega)]
      simp only [Option.bind_some]
      rw [hw, hx k (by omega)]
      simp only [Option.bind_some]
      rw [if_pos (show u.length < 2932031007402 by omega)]
    by_cases hf : findI u s < 0
    · obtain ⟨u', q', g1, g2, g3, g4, g5⟩ := l2Unit_l0 l hl n q (u ++ [x]) (by omega) (by push_cast at hp'; omega) (by rw [List.length_append]; simp; omega) (.inl (by rw [List.length_append]; simp)) (fun y hy => by
        rcases List.mem_append.mp hy with h | h
        · exact hs y h
        · rw [List.mem_singleton.mp h]; exact hsm)
      refine ⟨u', q', fun k hk => ?_, ⟨by have := g2.1; omega, by have := g2.2; push_cast; omega⟩, g3, g4, g5⟩
      obtain ⟨k, rfl, hk'⟩ := succ_of (show n + 30 < k by omega)
      rw [step k hk', if_pos hf, g1 k hk']
    · have hne : 1 ≤ u.length := by
        cases u with
        | nil => exact absurd (show findI ([] : List S30) s < 0 from by unfold findI; simp [idxFrom]) hf
        | cons _ _ => simp
      obtain ⟨u', q', g1, g2, g3, g4, g5⟩ := l2Unit_l0 l hl n (p + 1) u (by omega) (by push_cast at hp'; omega) (by omega) (.inl hne) hs
      refine ⟨u', q', fun k hk => ?_, ⟨by have := g2.1; omega, by have := g2.2; push_cast; omega⟩, g3, g4, g5⟩
      obtain ⟨k, rfl, hk'⟩ := succ_of (show n + 30 < k by omega)
      rw [step k hk', if_neg hf, g1 k hk']
theorem spec_l2Unit_f (l : List Int) (hl : Bytes l) (p : Int) (hp : 0 ≤ p) (hp' : p < 400000000000) :
    ∃ (u : List S30) (q : Int), (∀ k, 40 ≤ k → spec_l2Unit.f k l p = some (u, q)) ∧ On p q 130 ∧ 1 ≤ u.length ∧ u.length ≤ 3 ∧ ∀ x ∈ u, SmallF 5 x := by
  obtain ⟨n, hn, n0, n1⟩ := spec_l13Rd_pick_f l hl p 3 hp (by omega) (by omega)
  obtain ⟨m, rfl⟩ : ∃ m : Nat, n = m := ⟨n.toNat, by omega⟩
  obtain ⟨u, q, h1, h2, h3, h4, h5⟩ := l2Unit_l0 l hl (m + 1) (p + 1) [] (by omega) (by push_cast; omega) (by simp; omega) (.inr (by omega)) (by simp)
  refine ⟨u, q, fun k hk => ?_, ⟨by have := h2.1; omega, by have := h2.2; push_cast at this; omega⟩, h3, h4, h5⟩
  unfold spec_l2Unit.f
  rw [hn k (by omega)]
  simp only [Option.bind_some]
  rw [show wrap64 (1 + (m : Int)) = ((m + 1 : Nat) : Int) from by rw [wrap_id (by omega) (by omega)]; push_cast; omega, h1 k (by omega)]
theorem SmallF.mono {n m : Nat} {x : S30} (h : SmallF n x) (hm : n ≤ m) : SmallF m x := ⟨h.1, Nat.le_trans h.2.1 hm, h.2.2⟩
theorem set_small {u : List S30} (hs : ∀ x ∈ u, SmallF 5 x) (i : Nat) (y : S30) (hy : SmallF 6 y) : ∀ x ∈ u.set i y, SmallF 6 x := fun x hx => by
  rcases List.mem_or_eq_of_mem_set hx with h | h
  · exact (hs x h).mono (by omega)
  · rw [h]; exact hy
theorem spec_l2Bent_f (l : List Int) (hl : Bytes l) (p : Int) (hp : 0 ≤ p) (hp' : p < 300000000000) :
    ∃ (u : List S30) (q : Int), (∀ k, 50 ≤ k → spec_l2Bent.f k l p = some (u, q)) ∧ On p q 150 ∧ SmallU u := by
  obtain ⟨u, q1, hu, hq1, hn1, hn2, hs⟩ := spec_l2Unit_f l hl p hp (by omega)
  have o0 := hq1.1
  have o1 := hq1.2
  obtain ⟨ix, hix, i0, i1⟩ := spec_l13Rd_pick_f l hl q1 (u.length : Int) (by omega) (by omega) (by omega)
  obtain ⟨c, hc, c0, c1⟩ := spec_l13Rd_pick_f l hl (q1 + 1) 40 (by omega) (by omega) (by omega)
  obtain ⟨s, hS, hm⟩ := spec_l13Rd_of_f l hl (q1 + 1 + 1) (by omega) (by omega) ([(⟨#[]⟩ : ByteArray), (⟨#[65]⟩ : ByteArray), (⟨#[109, 97, 105, 110]⟩ : ByteArray)] : List ByteArray) (by decide)
  have hz : s.size ≤ 7 := by
    simp only [List.mem_cons, List.not_mem_nil, or_false] at hm
    rcases hm with rfl | rfl | rfl <;> decide
  obtain ⟨b0, b1, b2, q2, hb, hq2, hbz⟩ := spec_l1Bent_f l hl (q1 + 1 + 1) (by omega) (by omega)
  have o2 := hq2.1
  have o3 := hq2.2
  have hx : SmallF 5 (rd_T30 u ix) := hs _ (getD_mem (by omega))
  have base : ∀ k, 50 ≤ k → spec_l2Bent.f k l p = if c = 0 then some (u.set ix.toNat ⟨s, (rd_T30 u ix).f1, (rd_T30 u ix).f2⟩, q1 + 1 + 1 + 1) else if c = 1 then some (u.set ix.toNat ⟨(rd_T30 u ix).f0, (rd_T30 u ix).f1, []⟩, q1 + 1 + 1) else if c = 2 then some (u.set ix.toNat ⟨(rd_T30 u ix).f0, (rd_T30 u ix).f1, (rd_T30 u ix).f2 ++ [⟨b0, b1, b2⟩]⟩, q2) else if c = 3 then some (u ++ [rd_T30 u ix], q1 + 1 + 1) else some (u, q1 + 1 + 1) := by
    intro k hk
    unfold spec_l2Bent.f
    rw [hu k (by omega)]
    simp only [Option.bind_some]
    rw [hix k (by omega)]
    simp only [Option.bind_some]
    rw [hc k (by omega)]
    simp only [Option.bind_some]
    rw [if_pos ⟨i0, i1, by omega, by have := hx.2.1; omega⟩, hS k (by omega), hb k (by omega)]
    simp only [Option.bind_some]
  by_cases e0 : c = 0
  · refine ⟨u.set ix.toNat ⟨s, (rd_T30 u ix).f1, (rd_T30 u ix).f2⟩, q1 + 1 + 1 + 1, fun k hk => by rw [base k hk, if_pos e0], ⟨by omega, by omega⟩, by rw [List.length_set]; omega, by rw [List.length_set]; omega, set_small hs _ _ ⟨hz, Nat.le_trans hx.2.1 (by omega), hx.2.2⟩⟩
  by_cases e1 : c = 1
  · refine ⟨u.set ix.toNat ⟨(rd_T30 u ix).f0, (rd_T30 u ix).f1, []⟩, q1 + 1 + 1, fun k hk => by rw [base k hk, if_neg e0, if_pos e1], ⟨by omega, by omega⟩, by rw [List.length_set]; omega, by rw [List.length_set]; omega, set_small hs _ _ ⟨hx.1, Nat.zero_le _, fun y hy => absurd hy (by simp)⟩⟩
  by_cases e2 : c = 2
  · refine ⟨u.set ix.toNat ⟨(rd_T30 u ix).f0, (rd_T30 u ix).f1, (rd_T30 u ix).f2 ++ [⟨b0, b1, b2⟩]⟩, q2, fun k hk => by rw [base k hk, if_neg e0, if_neg e1, if_pos e2], ⟨by omega, by omega⟩, by rw [List.length_set]; omega, by rw [List.length_set]; omega, set_small hs _ _ ⟨hx.1, by have := hx.2.1; rw [List.length_append]; simp; omega, fun y hy => ?_⟩⟩
    rcases List.mem_append.mp hy with h | h
    · exact hx.2.2 y h
    · rw [List.mem_singleton.mp h]; exact hbz
  by_cases e3 : c = 3
  · refine ⟨u ++ [rd_T30 u ix], q1 + 1 + 1, fun k hk => by rw [base k hk, if_neg e0, if_neg e1, if_neg e2, if_pos e3], ⟨by omega, by omega⟩, by rw [List.length_append]; simp, by rw [List.length_append]; simp; omega, fun x hx2 => ?_⟩
    rcases List.mem_append.mp hx2 with h | h
    · exact (hs x h).mono (by omega)
    · rw [List.mem_singleton.mp h]; exact hx.mono (by omega)
  · exact ⟨u, q1 + 1 + 1, fun k hk => by rw [base k hk, if_neg e0, if_neg e1, if_neg e2, if_neg e3], ⟨by omega, by omega⟩, by omega, by omega, fun x hx2 => (hs x hx2).mono (by omega)⟩
end Go.Proofs.Ytpckkkcaffhhnaa.L

-- made by printx.py (own driver over the kit's print); Lean checks it
namespace Go.Proofs.Ytpckkkcaffhhnaa.P
open Go.RowKit Go.Proofs.YtpckkkcaffhhnaaW.PrintWords Go.Proofs.YtpckkkcaffhhnaaW.PrintLast Go.Proofs.YtpckkkcaffhhnaaW.PrintMore
attribute [local go_sem] max2_int min2_int max_two min_two max_three min_three max_four min_four   -- for this text's walks alone
set_option linter.unusedVariables false
set_option linter.unusedSimpArgs false

/-! ### impl_FunRefs: function 20 -/
def impl_FunRefs.f (k : Nat) (a0_0 : ByteArray) (a0_1 : Bool) (l0_2 : List (S38)) : Option (List ByteArray) := (impl_FunOk.f a0_0 a0_1 l0_2).bind fun t297 => (if t297 = true then ((impl_Fun_refs.f k a0_0 a0_1 l0_2).bind fun t298 => (some t298)) else (some ([] : List ByteArray)))
end Go.Proofs.Ytpckkkcaffhhnaa.P

-- made by printx.py (own driver over the kit's print); Lean checks it
namespace Go.Proofs.Ytpckkkcaffhhnaa.P
open Go.RowKit Go.Proofs.YtpckkkcaffhhnaaW.PrintWords Go.Proofs.YtpckkkcaffhhnaaW.PrintLast Go.Proofs.YtpckkkcaffhhnaaW.PrintMore
attribute [local go_sem] max2_int min2_int max_two min_two max_three min_three max_four min_four   -- for this text's walks alone
set_option linter.unusedVariables false
set_option linter.unusedSimpArgs false

/-! ### spec_FunRefs: function 21 -/
def spec_FunRefs.f (k : Nat) (a0_0 : ByteArray) (a0_1 : Bool) (l0_2 : List (S38)) : Option (List ByteArray) := (spec_FunOk.f k a0_0 a0_1 l0_2).bind fun t315 => (if t315 = true then ((spec_l2Refs.f k l0_2).bind fun t316 => (some t316)) else (some (([] : List ByteArray))))
end Go.Proofs.Ytpckkkcaffhhnaa.P

/- The names in a function; marks in texts. -/
namespace Go.Proofs.Ytpckkkcaffhhnaa.L
open Go.RowKit Go.Proofs.YtpckkkcaffhhnaaW.PrintWords Go.Proofs.YtpckkkcaffhhnaaW.PrintLast Go.Proofs.YtpckkkcaffhhnaaW.PrintMore Go.Proofs.Ytpckkkcaffhhnaa.P
set_option linter.unusedVariables false
set_option linter.unusedSimpArgs false
def hasB (l : List ByteArray) (a : ByteArray) : Bool := l.any fun x => x.toList == a.toList
def refsAdd (x : S38) (s : List ByteArray) : List ByteArray := if refersB x.f0 && !hasB s x.f2 then s ++ [x.f2] else s
def refsV (l : List S38) : List ByteArray := l.foldl (fun s x => refsAdd x s) []
theorem spec_l2Has_f (l : List ByteArray) (hn : l.length ≤ 9223372036854775806) (a : ByteArray) (k : Nat) (hk : l.length < k) : spec_l2Has.f k l a = some (hasB l a) := by
  have e : ∀ (l' : List ByteArray) (i : Nat), runS (fun _ x (_ : Unit) => if x.toList = a.toList then (.inr (some true) : Unit ⊕ Option Bool) else .inl ()) (fun _ => some false) l' i () = some (hasB l' a) := by
    intro l'
    induction l' with
    | nil => intro i; rfl
    | cons x l' ih =>
      intro i
      simp only [runS, hasB, List.any_cons]
      by_cases h : x.toList = a.toList
      · rw [if_pos h, beq_iff_eq.mpr h]; rfl
      · rw [if_neg h, beq_eq_false_iff_ne.mpr h]
        exact ih (i + 1)
  unfold spec_l2Has.f
  refine (loop_run (fun _ x (_ : Unit) => if x.toList = a.toList then (.inr (some true) : Unit ⊕ Option Bool) else .inl ()) (fun _ _ => some false) (fun _ _ => True) ByteArray.empty l hn (fun k _ i => spec_l2Has.l0 k l a i) 0 ?_ (fun _ _ _ _ _ _ => trivial) ?_ k (by omega) () trivial).trans (e l 0)
  · intro k i s _ hi _
    simp only [spec_l2Has.l0]
    rw [if_pos (by omega), if_pos (by omega)]
    show (if (l.getD i ByteArray.empty).toList = a.toList then _ else _) = _
    split <;> rfl
  · intro k s _ _
    simp only [spec_l2Has.l0]
    rw [if_neg (by omega)]
def funRefsV (x : S30) : List ByteArray := if funOkB x.f0 x.f2 = true then refsV x.f2 else []
end Go.Proofs.Ytpckkkcaffhhnaa.L

/- What the drawing functions of several units draw: some units, small. -/
namespace Go.Proofs.Ytpckkkcaffhhnaa.L
open Go.RowKit Go.Proofs.YtpckkkcaffhhnaaW.PrintWords Go.Proofs.YtpckkkcaffhhnaaW.PrintLast Go.Proofs.YtpckkkcaffhhnaaW.PrintMore Go.Proofs.Ytpckkkcaffhhnaa.P
set_option linter.unusedVariables false
set_option linter.unusedSimpArgs false
def SmallV (u : List S30) : Prop := u.length ≤ 4 ∧ ∀ x ∈ u, SmallF 6 x
def Small3 (u : List S30) : Prop := u.length ≤ 3 ∧ ∀ x ∈ u, SmallF 5 x
theorem Small3.v {u : List S30} (h : Small3 u) : SmallV u := ⟨by have := h.1; omega, fun x hx => (h.2 x hx).mono (by omega)⟩
theorem all_snoc {α : Type} {P : α → Prop} {l : List α} {a : α} (h : ∀ x ∈ l, P x) (ha : P a) : ∀ x ∈ l ++ [a], P x := fun x hx => by
  rcases List.mem_append.mp hx with h1 | h1
  · exact h x h1
  · rw [List.mem_singleton.mp h1]; exact ha
theorem l3Units_l0 (l : List Int) (hl : Bytes l) : ∀ (n : Nat) (p : Int) (us : List (List S30)), 0 ≤ p → p + 200 * n < 300000000000 → us.length + n ≤ 8 → (∀ u ∈ us, Small3 u) →
    ∃ (us' : List (List S30)) (q : Int), (∀ k, n + 50 ≤ k → spec_l3Units.l0 k us (n : Int) l p = some (us', q)) ∧ On p q (200 * n) ∧ us'.length = us.length + n ∧ ∀ u ∈ us', Small3 u
  | 0, p, us, hp, hp', hu, hs => by
    refine ⟨us, p, fun k hk => ?_, ⟨by omega, by omega⟩, by omega, hs⟩
    obtain ⟨k, rfl, _⟩ := succ_of (show 1 < k by omega)
    simp only [spec_l3Units.l0]
    rw [if_neg (by omega)]
  | n + 1, p, us, hp, hp', hu, hs => by
    obtain ⟨u, q, h, hq, h1, h2, h3⟩ := spec_l2Unit_f l hl p hp (by omega)
    have q0 := hq.1
    have q1 := hq.2
    have hw : wrap64 (((n + 1 : Nat) : Int) - 1) = (n : Int) := by rw [wrap_id (by omega) (by omega)]; push_cast; omega
    obtain ⟨us', q', g1, g2, g3, g4⟩ := l3Units_l0 l hl n q (us ++ [u]) (by omega) (by push_cast at hp'; omega) (by rw [List.length_append]; simp; omega) (all_snoc hs ⟨h2, h3⟩)
    refine ⟨us', q', fun k hk => ?_, ⟨by have := g2.1; omega, by have := g2.2; push_cast; omega⟩, by rw [g3, List.length_append]; simp; omega, g4⟩
    obtain ⟨k, rfl, hk'⟩ := succ_of (show n + 50 < k by omega)
    simp only [spec_l3Units.l0]
    rw [if_pos (by push_cast; omega), h k (by omega)]
    simp only [Option.bind_some]
    rw [if_pos (show us.length < 5864062014805 by omega), hw, g1 k hk']
theorem spec_l3Units_f (l : List Int) (hl : Bytes l) (p : Int) (hp : 0 ≤ p) (hp' : p < 200000000000) (a : Nat) (ha : a ≤ 6) :
    ∃ (us : List (List S30)) (q : Int), (∀ k, 70 ≤ k → spec_l3Units.f k l p (a : Int) = some (us, q)) ∧ On p q 2000 ∧ us.length ≤ a ∧ ∀ u ∈ us, Small3 u := by
  obtain ⟨n, hn, n0, n1⟩ := spec_l13Rd_pick_f l hl p ((a : Int) + 1) hp (by omega) (by omega)
  obtain ⟨m, rfl⟩ : ∃ m : Nat, n = m := ⟨n.toNat, by omega⟩
  obtain ⟨us, q, h1, h2, h3, h4⟩ := l3Units_l0 l hl m (p + 1) [] (by omega) (by omega) (by simp; omega) (by simp)
  refine ⟨us, q, fun k hk => ?_, ⟨by have := h2.1; omega, by have := h2.2; omega⟩, by rw [h3]; simp; omega, h4⟩
  unfold spec_l3Units.f
  rw [show wrap64 ((a : Int) + 1) = (a : Int) + 1 from wrap_id (by omega) (by omega), hn k (by omega)]
  simp only [Option.bind_some]
  rw [h1 k (by omega)]
theorem l3Thin_l1 (us : List (List S30)) (hus : ∀ u ∈ us, Small3 u) (i : Nat) (hi : i < us.length) (out : List (List S30)) (hout : out.length ≤ 8) : ∀ (m j : Nat) (acc : List S30) (names : List ByteArray), j + m = (us.getD i []).length → acc.length ≤ j → (∀ x ∈ acc, SmallF 5 x) → names.length + m ≤ 500 →
    ∃ (acc' : List S30) (names' : List ByteArray), (∀ k, 600 + m ≤ k → spec_l3Thin.l1 k us out names (i : Int) acc (j : Int) = spec_l3Thin.l0 (k - m - 1) us (out ++ [acc']) names' (wrap64 ((i : Int) + 1))) ∧ Small3 acc' ∧ names'.length ≤ names.length + m
  | 0, j, acc, names, hj, ha, hs, hn => by
    have hu := hus _ (getD_mem (d := []) hi)
    refine ⟨acc, names, fun k hk => ?_, ⟨by have := hu.1; omega, hs⟩, by omega⟩
    obtain ⟨k, rfl, _⟩ := succ_of (show 1 < k by omega)
    simp only [spec_l3Thin.l1]
    rw [show rd_L13 us (i : Int) = us.getD i [] from rfl, if_pos (by omega), if_pos (by omega), if_neg (by omega), if_pos (show out.length < 5864062014805 by omega)]
    rfl
  | m + 1, j, acc, names, hj, ha, hs, hn => by
    have hu := hus _ (getD_mem (d := []) hi)
    have hx : SmallF 5 ((us.getD i []).getD j z30) := hu.2 _ (getD_mem (by omega))
    have hw : wrap64 ((j : Int) + 1) = ((j + 1 : Nat) : Int) := by have := hu.1; rw [wrap_id (by omega) (by omega)]; push_cast; rfl
    have step : ∀ k, 600 ≤ k → spec_l3Thin.l1 (k + 1) us out names (i : Int) acc (j : Int) = if ((us.getD i []).getD j z30).f1 = true ∨ hasB names ((us.getD i []).getD j z30).f0 = false then spec_l3Thin.l1 k us out (names ++ [((us.getD i []).getD j z30).f0]) (i : Int) (acc ++ [(us.getD i []).getD j z30]) ((j + 1 : Nat) : Int) else spec_l3Thin.l1 k us out names (i : Int) acc ((j + 1 : Nat) : Int) := by
      intro k hk
      simp only [spec_l3Thin.l1]
      rw [show rd_L13 us (i : Int) = us.getD i [] from rfl, show rd_T30 (us.getD i []) (j : Int) = (us.getD i []).getD j z30 from rfl]
      rw [if_pos (by omega), if_pos (by omega), if_pos (by omega), if_pos (by omega), if_pos (show acc.length < 2932031007402 by have := hu.1; omega), if_pos (show names.length < 8796093022208 by omega), spec_l2Has_f names (by omega) _ k (by omega), hw]
      simp only [Option.bind_some]
      cases h1 : ((us.getD i []).getD j z30).f1 with
      | true => rw [if_pos rfl, if_pos (.inl rfl), ← h1]
      | false =>
        rw [if_neg (by decide)]
        cases h2 : hasB names ((us.getD i []).getD j z30).f0 with
        | true => rw [if_pos rfl, if_neg (by simp)]
        | false => rw [if_neg (by decide), if_pos (.inr rfl), ← h1]
    by_cases hc : ((us.getD i []).getD j z30).f1 = true ∨ hasB names ((us.getD i []).getD j z30).f0 = false
    · obtain ⟨acc', names', g1, g2, g3⟩ := l3Thin_l1 us hus i hi out hout m (j + 1) (acc ++ [(us.getD i []).getD j z30]) (names ++ [((us.getD i []).getD j z30).f0]) (by omega) (by rw [List.length_append]; simp; omega) (all_snoc hs hx) (by rw [List.length_append]; simp; omega)
      refine ⟨acc', names', fun k hk => ?_, g2, by rw [List.length_append] at g3; simp at g3; omega⟩
      obtain ⟨k, rfl, hk'⟩ := succ_of (show 600 + m < k by omega)
      rw [step k (by omega), if_pos hc, g1 k hk', show k + 1 - (m + 1) - 1 = k - m - 1 by omega]
    · obtain ⟨acc', names', g1, g2, g3⟩ := l3Thin_l1 us hus i hi out hout m (j + 1) acc names (by omega) (by omega) hs (by omega)
      refine ⟨acc', names', fun k hk => ?_, g2, by omega⟩
      obtain ⟨k, rfl, hk'⟩ := succ_of (show 600 + m < k by omega)
      rw [step k (by omega), if_neg hc, g1 k hk', show k + 1 - (m + 1) - 1 = k - m - 1 by omega]
theorem l3Thin_l0 (us : List (List S30)) (hus : ∀ u ∈ us, Small3 u) (hl : us.length ≤ 8) : ∀ (m i : Nat) (out : List (List S30)) (names : List ByteArray), i + m = us.length → out.length = i → (∀ u ∈ out, Small3 u) → names.length + 3 * m ≤ 400 →
    ∃ us' : List (List S30), (∀ k, 700 + 10 * m ≤ k → spec_l3Thin.l0 k us out names (i : Int) = some us') ∧ us'.length = us.length ∧ ∀ u ∈ us', Small3 u
  | 0, i, out, names, hi, ho, hs, hn => by
    refine ⟨out, fun k hk => ?_, by omega, hs⟩
    obtain ⟨k, rfl, _⟩ := succ_of (show 1 < k by omega)
    simp only [spec_l3Thin.l0]
    rw [if_neg (by omega)]
  | m + 1, i, out, names, hi, ho, hs, hn => by
    have hu := hus _ (getD_mem (d := []) (show i < us.length by omega))
    have hu1 := hu.1
    obtain ⟨acc, names', g1, g2, g3⟩ := l3Thin_l1 us hus i (by omega) out (by omega) (us.getD i []).length 0 [] names (by omega) (by simp) (by simp) (by omega)
    obtain ⟨us', f1, f2, f3⟩ := l3Thin_l0 us hus hl m (i + 1) (out ++ [acc]) names' (by omega) (by rw [List.length_append]; simp; omega) (all_snoc hs g2) (by omega)
    refine ⟨us', fun k hk => ?_, f2, f3⟩
    obtain ⟨k, rfl, hk'⟩ := succ_of (show 700 + 10 * m + 9 < k by omega)
    simp only [spec_l3Thin.l0]
    rw [if_pos (by omega)]
    have e := g1 k (by omega)
    rw [show ((0 : Nat) : Int) = 0 from rfl] at e
    rw [e, show wrap64 ((i : Int) + 1) = ((i + 1 : Nat) : Int) from by rw [wrap_id (by omega) (by omega)]; push_cast; rfl]
    exact f1 _ (by omega)
theorem spec_l3Thin_f (us : List (List S30)) (hus : ∀ u ∈ us, Small3 u) (hl : us.length ≤ 8) : ∃ us' : List (List S30), (∀ k, 1000 ≤ k → spec_l3Thin.f k us = some us') ∧ us'.length = us.length ∧ ∀ u ∈ us', Small3 u := by
  obtain ⟨us', h1, h2, h3⟩ := l3Thin_l0 us hus hl us.length 0 [] [] (by omega) rfl (by simp) (by simp; omega)
  exact ⟨us', fun k hk => h1 k (by omega), h2, h3⟩
theorem l3Bent_l0 (l : List Int) (p : Int) : ∀ (m : Nat) (us : List (List S30)), us.length + m = 9 → (∀ u ∈ us, SmallV u) → ∃ us' : List (List S30), (∀ k, m + 2 ≤ k → spec_l3Bent.l0 k us l p = some (us', p)) ∧ us'.length ≤ 9 ∧ ∀ u ∈ us', SmallV u
  | 0, us, h, hs => by
    refine ⟨us, fun k hk => ?_, by omega, hs⟩
    obtain ⟨k, rfl, _⟩ := succ_of (show 1 < k by omega)
    simp only [spec_l3Bent.l0]
    rw [if_neg (by omega)]
  | m + 1, us, h, hs => by
    obtain ⟨us', g1, g2, g3⟩ := l3Bent_l0 l p m (us ++ [[]]) (by rw [List.length_append]; simp; omega) (all_snoc hs ⟨by simp, by simp⟩)
    refine ⟨us', fun k hk => ?_, g2, g3⟩
    obtain ⟨k, rfl, hk'⟩ := succ_of (show m + 2 < k by omega)
    simp only [spec_l3Bent.l0]
    rw [if_pos (by omega), if_pos (by omega), g1 k hk']
theorem l3Bent_j0 (l : List Int) (hl : Bytes l) (us : List (List S30)) (hn : us.length ≤ 8) (hs : ∀ u ∈ us, SmallV u) (p : Int) (hp : 0 ≤ p) (hp' : p < 200000000000) :
    ∃ (us' : List (List S30)) (q : Int), (∀ k, 100 ≤ k → spec_l3Bent.j0 k us l p = some (us', q)) ∧ On p q 300 ∧ us'.length ≤ 9 ∧ ∀ u ∈ us', SmallV u := by
  obtain ⟨c, hc, c0, c1⟩ := spec_l13Rd_pick_f l hl p 30 hp (by omega) (by omega)
  obtain ⟨u, q, hu, hq, hsu⟩ := spec_l2Bent_f l hl (p + 1) (by omega) (by omega)
  have q0 := hq.1
  have q1 := hq.2
  obtain ⟨us', g1, g2, g3⟩ := l3Bent_l0 l (p + 1) (9 - us.length) us (by omega) hs
  by_cases e0 : c = 0
  · refine ⟨us ++ [u], q, fun k hk => ?_, ⟨by omega, by omega⟩, by rw [List.length_append]; simp; omega, all_snoc hs ⟨hsu.2.1, hsu.2.2⟩⟩
    obtain ⟨k, rfl, _⟩ := succ_of (show 90 < k by omega)
    simp only [spec_l3Bent.j0]
    rw [hc k (by omega)]
    simp only [Option.bind_some]
    rw [if_pos e0, hu k (by omega)]
    simp only [Option.bind_some]
    rw [if_pos (show us.length < 5864062014805 by omega)]
  · by_cases e1 : c = 1
    · refine ⟨us', p + 1, fun k hk => ?_, ⟨by omega, by omega⟩, g2, g3⟩
      obtain ⟨k, rfl, _⟩ := succ_of (show 90 < k by omega)
      simp only [spec_l3Bent.j0]
      rw [hc k (by omega)]
      simp only [Option.bind_some]
      rw [if_neg e0, if_pos e1, g1 k (by omega)]
    · refine ⟨us, p + 1, fun k hk => ?_, ⟨by omega, by omega⟩, by omega, hs⟩
      obtain ⟨k, rfl, _⟩ := succ_of (show 90 < k by omega)
      simp only [spec_l3Bent.j0]
      rw [hc k (by omega)]
      simp only [Option.bind_some]
      rw [if_neg e0, if_neg e1]
theorem spec_l3Bent_f (l : List Int) (hl : Bytes l) (p : Int) (hp : 0 ≤ p) (hp' : p < 100000000000) (a : Nat) (ha : a ≤ 6) :
    ∃ (us : List (List S30)) (q : Int), (∀ k, 2000 ≤ k → spec_l3Bent.f k l p (a : Int) = some (us, q)) ∧ On p q 3000 ∧ us.length ≤ 9 ∧ ∀ u ∈ us, SmallV u := by
  obtain ⟨us, q, h, hq, hn, hs⟩ := spec_l3Units_f l hl p hp (by omega) a ha
  have q0 := hq.1
  have q1 := hq.2
  obtain ⟨c, hc, c0, c1⟩ := spec_l13Rd_pick_f l hl q 3 (by omega) (by omega) (by omega)
  obtain ⟨ut, ht, htn, hts⟩ := spec_l3Thin_f us hs (by omega)
  obtain ⟨r1, p1, g1, g2, g3, g4⟩ := l3Bent_j0 l hl ut (by omega) (fun u hu => (hts u hu).v) (q + 1) (by omega) (by omega)
  obtain ⟨r2, p2, f1, f2, f3, f4⟩ := l3Bent_j0 l hl us (by omega) (fun u hu => (hs u hu).v) (q + 1) (by omega) (by omega)
  by_cases e : c > 0
  · refine ⟨r1, p1, fun k hk => ?_, ⟨by have := g2.1; omega, by have := g2.2; omega⟩, g3, g4⟩
    unfold spec_l3Bent.f
    rw [h k (by omega)]
    simp only [Option.bind_some]
    rw [hc k (by omega)]
    simp only [Option.bind_some]
    rw [if_pos e, ht k (by omega)]
    simp only [Option.bind_some]
    rw [g1 k (by omega)]
  · refine ⟨r2, p2, fun k hk => ?_, ⟨by have := f2.1; omega, by have := f2.2; omega⟩, f3, f4⟩
    unfold spec_l3Bent.f
    rw [h k (by omega)]
    simp only [Option.bind_some]
    rw [hc k (by omega)]
    simp only [Option.bind_some]
    rw [if_neg e, f1 k (by omega)]
end Go.Proofs.Ytpckkkcaffhhnaa.L

/- What is found in ok units: places and names. -/
namespace Go.Proofs.Ytpckkkcaffhhnaa.L
open Go.RowKit Go.Proofs.YtpckkkcaffhhnaaW.PrintWords Go.Proofs.YtpckkkcaffhhnaaW.PrintLast Go.Proofs.YtpckkkcaffhhnaaW.PrintMore Go.Proofs.Ytpckkkcaffhhnaa.P
set_option linter.unusedVariables false
theorem SmallV.fit {u : UnitV} (h : SmallV u) : FitU u := ⟨by have := h.1; omega, fun x hx => (h.2 x hx).fit (by omega)⟩
theorem unitsOk_at {l : List UnitV} {n : Int} (h : unitsOkB l n = true) : ∀ u ∈ l, unitOkB u = true := by
  intro u hu
  unfold unitsOkB at h
  simp only [Bool.and_eq_true, decide_eq_true_eq, Bool.not_eq_true', List.any_eq_false] at h
  have h3 := h.2 u hu
  revert h3
  cases unitOkB u <;> simp
def hit (u : UnitV) (a : ByteArray) (b : Bool) : Prop := 0 ≤ findI u a ∧ weakAt u a = b
theorem hitS_some (b : Bool) (a : ByteArray) : ∀ (l : List UnitV) (i : Nat) (p : Nat × Int), hitS b a l i = some p → ∃ n, p = (i + n, findI (l.getD n []) a) ∧ n < l.length ∧ hit (l.getD n []) a b ∧ ∀ m, m < n → ¬ hit (l.getD m []) a b
  | [], i, p, h => by simp [hitS] at h
  | u :: l, i, p, h => by
    simp only [hitS] at h
    by_cases hc : 0 ≤ findI u a ∧ weakAt u a = b
    · rw [if_pos hc] at h
      exact ⟨0, by simpa using (Option.some.inj h).symm, by simp, hc, fun m hm => absurd hm (by omega)⟩
    · rw [if_neg hc] at h
      obtain ⟨n, h1, h2, h3, h4⟩ := hitS_some b a l (i + 1) p h
      refine ⟨n + 1, by rw [h1]; simp; omega, by simpa using h2, by simpa using h3, fun m hm => ?_⟩
      cases m with
      | zero => exact hc
      | succ m => simpa using h4 m (by omega)
end Go.Proofs.Ytpckkkcaffhhnaa.L

/- The contracts of slices.Sort and slices.Compact at []string, laid at this program; what a row is behind them. -/
namespace Go.Proofs
open Go.RowKit Go.Shelf Go.Sort
shelf_lay Lays.n190 Nm 190 at Try as Try.laysSort
shelf_lay Lays.n194 Nm 194 at Try as Try.laysCompact
end Go.Proofs
namespace Go.Proofs.Ytpckkkcaffhhnaa.L
open Go.RowKit Go.Sort Go.Proofs.YtpckkkcaffhhnaaW.PrintWords Go.Proofs.YtpckkkcaffhhnaaW.PrintLast Go.Proofs.YtpckkkcaffhhnaaW.PrintMore Go.Proofs.Ytpckkkcaffhhnaa.P
set_option linter.unusedVariables false
set_option linter.unusedSimpArgs false
/-- The bytes of texts, and back. -/
def bytesL (l : List ByteArray) : List (List UInt8) := l.map (·.data.toList)
def textsL (l : List (List UInt8)) : List ByteArray := l.map fun b => ⟨b.toArray⟩
def sortV (l : List (List UInt8)) : List (List UInt8) := l.mergeSort fun x y => decide (x ≤ y)
/-- Texts in order, each once. -/
def orderedV (l : List ByteArray) : List ByteArray := textsL (Lib.compact (sortV (bytesL l)))
end Go.Proofs.Ytpckkkcaffhhnaa.L

/- A weak function behind does not matter, a strong one does: for every code, the law on PickAt's choice answers true. -/
namespace Go.Proofs.Ytpckkkcaffhhnaa.Pure
open Go.RowKit Go.Proofs.Ytpckkkcaffhhnaa.P Go.Proofs.Ytpckkkcaffhhnaa.L Go.Proofs.YtpckkkcaffhhnaaW.PrintWords
set_option linter.unusedVariables false
theorem draw_at6 (l : List Int) (hl : Bytes l) : ∃ us s, (∀ k, 2000 ≤ k → spec_DrawPickAt.f k l = some (us, s)) ∧ us.length ≤ 9 ∧ (∀ u ∈ us, SmallV u) ∧ s ∈ names6 := by
  obtain ⟨l', e, hl', _⟩ := spec_l13Open_f l hl
  obtain ⟨us, q, h, hq, hn, hu⟩ := spec_l3Bent_f l' hl' 0 (by decide) (by decide) 4 (by decide)
  obtain ⟨s, hs, hm⟩ := spec_l1Name_f l' hl' q (by have := hq.1; omega) (by have := hq.2; omega)
  refine ⟨us, s, fun k hk => ?_, hn, hu, hm⟩
  unfold spec_DrawPickAt.f
  rw [e]; simp only [Option.bind_some]
  rw [show (4 : Int) = ((4 : Nat) : Int) from rfl, h k (by omega)]; simp only [Option.bind_some]
  rw [hs k (by omega)]; rfl
def oneF (s : ByteArray) (b : Bool) : S30 := ⟨s, b, [⟨6, 0, ⟨#[]⟩⟩]⟩
theorem name6_ok {s : ByteArray} (h : s ∈ names6) : nameOk s = true := by
  simp only [names6, List.mem_cons, List.not_mem_nil, or_false] at h
  rcases h with rfl | rfl | rfl | rfl | rfl | rfl <;> decide
theorem one_find (s : ByteArray) (b : Bool) : findI [oneF s b] s = 0 := by
  unfold findI named oneF
  simp [idxFrom]
theorem one_weak (s : ByteArray) (b : Bool) : weakAt [oneF s b] s = b := by
  unfold weakAt
  rw [one_find]
  rfl
theorem one_ok {s : ByteArray} (h : s ∈ names6) (b : Bool) : unitOkB [oneF s b] = true := by
  have h1 : insOkB 6 0 (⟨#[]⟩ : ByteArray) = true := by
    unfold insOkB
    rw [Lib.toList_data]
    decide
  have h2 : funOkB s [(⟨6, 0, ⟨#[]⟩⟩ : S38)] = true := by
    unfold funOkB
    rw [name6_ok h]
    simp only [List.any_cons, List.any_nil, h1]
    decide
  have h3 := one_find s b
  have h4 : (oneF s b).f0 = s := rfl
  have h5 : (oneF s b).f2 = [(⟨6, 0, ⟨#[]⟩⟩ : S38)] := rfl
  unfold unitOkB unitGood
  simp only [allFrom, h4, h5, h2, h3, List.length_cons, List.length_nil]
  rfl
theorem one_fit {s : ByteArray} (h : s ∈ names6) (b : Bool) : FitU [oneF s b] := by
  have hz := names6_size h
  refine ⟨by simp, fun x hx => ?_⟩
  rw [List.mem_singleton.mp hx]
  exact ⟨by show s.size ≤ _; omega, by simp [oneF], fun y hy => by
    have : y = ⟨6, 0, ⟨#[]⟩⟩ := by simpa [oneF] using hy
    rw [this]; decide⟩
theorem hitS_add (b : Bool) (a : ByteArray) (u : UnitV) : ∀ (l : List UnitV) (i : Nat), hitS b a (l ++ [u]) i = match hitS b a l i with | some p => some p | none => if 0 ≤ findI u a ∧ weakAt u a = b then some (i + l.length, findI u a) else none
  | [], i => by simp [hitS]
  | v :: l, i => by
    simp only [List.cons_append, hitS]
    by_cases h : 0 ≤ findI v a ∧ weakAt v a = b
    · rw [if_pos h, if_pos h]
    · rw [if_neg h, if_neg h, hitS_add b a u l (i + 1)]
      cases hitS b a l (i + 1) with
      | some p => rfl
      | none => simp only [List.length_cons]; rw [show i + 1 + l.length = i + (l.length + 1) by omega]
theorem pick_weak (us : List UnitV) (s : ByteArray) : pickV (us ++ [[oneF s true]]) s = match hitS false s us 0 with
    | some p => ((p.1 : Int), p.2, true)
    | none => match hitS true s us 0 with
      | some p => ((p.1 : Int), p.2, true)
      | none => ((us.length : Int), 0, true) := by
  unfold pickV
  rw [hitS_add, hitS_add, one_find, one_weak]
  cases hitS false s us 0 with
  | some p => rfl
  | none =>
    simp only [Bool.true_eq_false, and_false, if_false]
    cases hitS true s us 0 with
    | some p => rfl
    | none => simp
theorem pick_strong (us : List UnitV) (s : ByteArray) : pickV (us ++ [[oneF s false]]) s = match hitS false s us 0 with
    | some p => ((p.1 : Int), p.2, true)
    | none => ((us.length : Int), 0, true) := by
  unfold pickV
  rw [hitS_add, one_find, one_weak]
  cases hitS false s us 0 with
  | some p => rfl
  | none => simp
theorem ok_add {us : List UnitV} (hok : ∀ u ∈ us, unitOkB u = true) (hl : us.length ≤ 4) {u : UnitV} (hu : unitOkB u = true) : unitsOkB (us ++ [u]) 8 = true := by
  unfold unitsOkB
  simp only [Bool.and_eq_true, decide_eq_true_eq, Bool.not_eq_true', List.any_eq_false, List.length_append, List.length_cons, List.length_nil]
  refine ⟨by omega, fun v hv => ?_⟩
  have : unitOkB v = true := by
    rcases List.mem_append.mp hv with h | h
    · exact hok v h
    · rw [List.mem_singleton.mp h]; exact hu
  rw [this]; decide
theorem ok_of {us : List UnitV} (hok : ∀ u ∈ us, unitOkB u = true) (hl : us.length ≤ 4) : unitsOkB us 8 = true := by
  unfold unitsOkB
  simp only [Bool.and_eq_true, decide_eq_true_eq, Bool.not_eq_true', List.any_eq_false]
  exact ⟨by omega, fun v hv => by rw [hok v hv]; decide⟩
theorem fits_add {us : List UnitV} (h : ∀ u ∈ us, FitU u) {u : UnitV} (hu : FitU u) : ∀ v ∈ us ++ [u], FitU v := fun v hv => by
  rcases List.mem_append.mp hv with h1 | h1
  · exact h v h1
  · rw [List.mem_singleton.mp h1]; exact hu
theorem strong_end (us : List UnitV) (s : ByteArray) (hs : s ∈ names6) (hl : us.length ≤ 4) (hf : ∀ u ∈ us, FitU u) (hlen : ∀ u ∈ us, u.length ≤ 4) (hok : ∀ u ∈ us, unitOkB u = true) (k : Nat) (hk : 500000000000000 < k) :
    laws_FnPickStrong.l0 k us s (pickAtV us s).1 (pickAtV us s).2.2 ((us.length : Nat) : Int) = some true := by
  obtain ⟨k, rfl, _⟩ := succ_of (show 0 < k by omega)
  have hpa : pickAtV us s = pickV us s := by unfold pickAtV; rw [if_pos (ok_of hok hl)]
  have hw : pickAtV (us ++ [[oneF s true]]) s = pickV (us ++ [[oneF s true]]) s := by unfold pickAtV; rw [if_pos (ok_add hok hl (one_ok hs true))]
  have hst : pickAtV (us ++ [[oneF s false]]) s = pickV (us ++ [[oneF s false]]) s := by unfold pickAtV; rw [if_pos (ok_add hok hl (one_ok hs false))]
  have iw := impl_PickAt_f (us ++ [[oneF s true]]) (fits_add hf (one_fit hs true)) s k (by omega)
  have ist := impl_PickAt_f (us ++ [[oneF s false]]) (fits_add hf (one_fit hs false)) s k (by omega)
  rw [hw, pick_weak] at iw
  rw [hst, pick_strong] at ist
  unfold oneF at iw ist
  simp only [laws_FnPickStrong.l0]
  rw [if_neg (by omega)]
  simp only [Option.bind_some, List.nil_append, List.length_nil]
  rw [if_pos (by omega), if_pos (by omega), iw]
  simp only [Option.bind_some]
  rw [if_pos (by omega), if_pos (by omega), ist]
  simp only [Option.bind_some]
  rw [hpa]
  unfold pickV
  have fin (n : Nat) (b : Bool) (hn : n < us.length) (hh : hit (us.getD n []) s b) (g : Int → Bool → Option Bool) (hg : g (findI (us.getD n []) s) b = some true) :
      (if (0 : Int) ≤ (n : Int) then (if (n : Int) < (us.length : Int) then ((impl_UnitFind.f k (rd_L13 us (n : Int)) s).bind fun t => (if 0 ≤ t then (if t < ((rd_L13 us (n : Int)).length : Int) then g t ((rd_T30 (rd_L13 us (n : Int)) t).f1) else none) else none)) else none) else none) = some true := by
    have hm := getD_mem (d := []) hn
    have hfu := hf _ hm
    have hlu := hlen _ hm
    rw [if_pos (by omega), if_pos (by omega), show rd_L13 us (n : Int) = us.getD n [] from rfl, impl_UnitFind_f _ hfu.1 hfu.2 s k (by omega)]
    simp only [Option.bind_some]
    have e1 : unitFindI (us.getD n []) s = findI (us.getD n []) s := by unfold unitFindI; rw [if_pos (hok _ hm)]
    have h0 := hh.1
    have h1 := (findI_lo (us.getD n []) s).2
    rw [e1, if_pos h0, if_pos h1]
    have e2 : (rd_T30 (us.getD n []) (findI (us.getD n []) s)).f1 = b := hh.2
    rw [e2]
    exact hg
  cases h1 : hitS false s us 0 with
  | some p =>
    obtain ⟨n, rfl, hn, hh, _⟩ := hitS_some false s us 0 p h1
    simp only [Nat.zero_add, if_true]
    exact fin n false hn hh (fun t b => if (b = true) then (if (¬ (b = true)) then (some false) else (some ((n : Int) == (us.length : Int)))) else some true) (by simp)
  | none =>
    cases h2 : hitS true s us 0 with
    | some p =>
      obtain ⟨n, rfl, hn, hh, _⟩ := hitS_some true s us 0 p h2
      simp only [Nat.zero_add, if_true]
      exact fin n true hn hh (fun t b => if (b = true) then (if (¬ (b = true)) then (some false) else (some ((us.length : Int) == (us.length : Int)))) else (if (us.length : Int) = (n : Int) then (some true) else (if (¬ (b = true)) then (some false) else (some ((us.length : Int) == (us.length : Int)))))) (by simp)
    | none => simp
theorem FnPickStrong : laws_FnPickStrong.Pure := by
  intro l _ _ hw
  unfold laws_FnPickStrong.f
  by_cases h : (l.length : Int) > 1048576
  · exact ⟨1, by rw [if_pos h]⟩
  obtain ⟨us, s, hd, hl, hsm, hs⟩ := draw_at6 l ⟨by omega, hw⟩
  have hf : ∀ u ∈ us, FitU u := fun u hu => (hsm u hu).fit
  have hlen : ∀ u ∈ us, u.length ≤ 4 := fun u hu => (hsm u hu).1
  obtain ⟨K, hK⟩ : ∃ K : Nat, 1000000000000000 ≤ K := ⟨_, Nat.le_refl _⟩
  refine ⟨K + 3, ?_⟩
  rw [if_neg h]
  simp only [laws_FnPickStrong.j0]
  rw [hd _ (by omega)]; simp only [Option.bind_some]
  rw [impl_PickAt_f us hf s _ (by omega), spec_PickAt_f us (by omega) hf s _ (by omega)]
  simp only [Option.bind_some, if_true, bne_self_eq_false, Bool.false_eq_true, if_false, laws_FnPickStrong.j1]
  by_cases h4 : (us.length : Int) > 4
  · rw [if_pos (decide_eq_true h4)]; simp
  · rw [if_neg (by rw [decide_eq_false h4]; decide)]
    simp only [laws_FnPickStrong.j2]
    have key : ∀ (m x k : Nat), x + m = us.length → (∀ y, y < x → unitOkB (us.getD y []) = true) → 600000000000000 + 10 * m ≤ k → laws_FnPickStrong.l0 k us s (pickAtV us s).1 (pickAtV us s).2.2 (x : Int) = some true := by
      intro m
      induction m with
      | zero =>
        intro x k hx ho hk
        have hok : ∀ u ∈ us, unitOkB u = true := fun u hu => by
          obtain ⟨i, hi, rfl⟩ := List.mem_iff_getElem.mp hu
          have := ho i (by omega)
          rw [List.getD_eq_getElem?_getD, List.getElem?_eq_getElem hi] at this
          exact this
        rw [show x = us.length by omega]
        exact strong_end us s hs (by omega) hf hlen hok k (by omega)
      | succ m ih =>
        intro x k hx ho hk
        obtain ⟨k, rfl⟩ : ∃ q, k = q + 2 := ⟨k - 2, by omega⟩
        have hm := getD_mem (d := []) (show x < us.length by omega)
        have hfu := hf _ hm
        simp only [laws_FnPickStrong.l0]
        rw [if_pos (by omega)]
        simp only [laws_FnPickStrong.j4]
        rw [if_pos (by omega), if_pos (by omega), show rd_L13 us (x : Int) = us.getD x [] from rfl, spec_UnitOk_f _ hfu.1 hfu.2 k (by have := hlen _ hm; omega)]
        simp only [Option.bind_some]
        cases hx2 : unitOkB (us.getD x []) with
        | true =>
          rw [if_pos rfl, show wrap64 ((x : Int) + 1) = ((x + 1 : Nat) : Int) from by rw [wrap_id (by omega) (by omega)]; push_cast; rfl]
          exact ih (x + 1) k (by omega) (fun y hy => by
            by_cases e : y = x
            · rw [e]; exact hx2
            · exact ho y (by omega)) (by omega)
        | false =>
          rw [if_neg (by decide)]
          have e : pickAtV us s = (0, 0, false) := by
            unfold pickAtV
            rw [if_neg ?_]
            intro h5
            have := unitsOk_at h5 _ hm
            rw [hx2] at this
            exact absurd this (by decide)
          rw [e]
          rfl
    exact key us.length 0 _ (Nat.zero_add _) (fun y hy => absurd hy (by omega)) (by omega)
end Go.Proofs.Ytpckkkcaffhhnaa.Pure
