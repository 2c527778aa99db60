-- put together by squash.py
import Derived.Test.YtppmalfpggkpdaaSqFnGraphBy3
import Derived.Test.YtppmalfpggkpdaaSqFnGraphBy4
import Derived.Test.YtppmalfpggkpdaaSqFnGraphBy5
import Derived.Lib.RowBridge
import Derived.Sort.Walk0
set_option linter.unusedVariables false
set_option linter.unusedSimpArgs false

namespace Go.Proofs.Ytppmalfpggkpdaa.P
open Go.RowKit Go.Proofs.YtppmalfpggkpdaaW.PrintWords Go.Proofs.YtppmalfpggkpdaaW.PrintLast Go.Proofs.YtppmalfpggkpdaaW.PrintMore
attribute [local go_sem] max2_int min2_int max_two min_two max_three min_three max_four min_four
def spec_UnitOk.l0 : Nat → List (S52) → Int → Option (Bool)
  | 0, _, _ => none
  | k + 1, x0, x3 => if x3 < (x0.length : Int) then (if 0 ≤ x3 then ((spec_FunOk.f k ((rd_T52 x0 x3).f0) ((rd_T52 x0 x3).f1) ((rd_T52 x0 x3).f2)).bind fun t121 => (if t121 = true then ((spec_l2Find.f k x0 ((rd_T52 x0 x3).f0)).bind fun t123 => (if t123 = x3 then (spec_UnitOk.l0 k x0 (wrap64 (x3 + 1))) else (some false))) else (some false))) else (none)) else (some (decide ((x0.length : Int) ≤ 5)))
def spec_UnitOk.f (k : Nat) (l0 : List (S52)) : Option (Bool) := spec_UnitOk.l0 k l0 0
end Go.Proofs.Ytppmalfpggkpdaa.P
namespace Go.Proofs.Ytppmalfpggkpdaa.L
open Go.RowKit Go.Proofs.YtppmalfpggkpdaaW.PrintWords Go.Proofs.YtppmalfpggkpdaaW.PrintLast Go.Proofs.YtppmalfpggkpdaaW.PrintMore Go.Proofs.Ytppmalfpggkpdaa.P
def FitF (x : S52) : Prop := x.f0.size ≤ 140737488351232 ∧ x.f2.length ≤ 140737488351232 ∧ ∀ y ∈ x.f2, y.f2.size ≤ 140737488351232
def named (a : ByteArray) (x : S52) : Bool := x.f0.toList == a.toList
def findI (l : List S52) (a : ByteArray) : Int := idxFrom (named a) l 0
def unitGood (l : List S52) : Bool := allFrom (fun i x => funOkB x.f0 x.f2 && (findI l x.f0 == (i : Int))) l 0
def unitOkB (l : List S52) : Bool := unitGood l && decide (l.length ≤ 5)
theorem impl_FunOk_f (x : S52) (h : FitF x) : impl_FunOk.f x.f0 x.f1 x.f2 = some (funOkB x.f0 x.f2) := by
  unfold impl_FunOk.f
  rw [if_pos ⟨h.1, h.2.2⟩]
theorem spec_FunOk_l0 (x : S52) (h : FitF x) (k : Nat) (hk : 140737488351236 + x.f2.length < k) : spec_FunOk.l0 k (x.f2.length : Int) 0 x.f0 x.f1 x.f2 = some (!(x.f2.any fun y => !insOkB y.f0 y.f1 y.f2)) := by
  have e := loop_all (fun _ (y : S110) => insOkB y.f0 y.f1 y.f2) z110 x.f2 true (by have := h.2.1; omega) (fun k i => spec_FunOk.l0 k (x.f2.length : Int) i x.f0 x.f1 x.f2) 140737488351236 ?_ ?_ ?_ k hk
  · rw [e, allFrom_all, Bool.and_true, all_not_any]
  · intro k i hK hi hq
    simp only [spec_FunOk.l0]
    have e := spec_InsOk_f (rd_T110 x.f2 (i : Int)).f0 (rd_T110 x.f2 (i : Int)).f1 (rd_T110 x.f2 (i : Int)).f2 (h.2.2 _ (getD_mem hi)) k (by have : (rd_T110 x.f2 (i : Int)).f2.size ≤ 140737488351232 := h.2.2 _ (getD_mem hi); omega)
    rw [show insOkB (rd_T110 x.f2 (i : Int)).f0 (rd_T110 x.f2 (i : Int)).f1 (rd_T110 x.f2 (i : Int)).f2 = true from hq] at e
    rw [if_pos (by omega), if_pos (by omega), if_pos (by omega), e]
    rfl
  · intro k i hK hi hq
    simp only [spec_FunOk.l0]
    have e := spec_InsOk_f (rd_T110 x.f2 (i : Int)).f0 (rd_T110 x.f2 (i : Int)).f1 (rd_T110 x.f2 (i : Int)).f2 (h.2.2 _ (getD_mem hi)) k (by have : (rd_T110 x.f2 (i : Int)).f2.size ≤ 140737488351232 := h.2.2 _ (getD_mem hi); omega)
    rw [show insOkB (rd_T110 x.f2 (i : Int)).f0 (rd_T110 x.f2 (i : Int)).f1 (rd_T110 x.f2 (i : Int)).f2 = false from hq] at e
    rw [if_pos (by omega), if_pos (by omega), if_pos (by omega), e]
    rfl
  · intro k hK
    simp only [spec_FunOk.l0]
    rw [if_neg (by omega)]
theorem spec_FunOk_f (x : S52) (h : FitF x) (k : Nat) (hk : 140737488351240 + x.f2.length < k) : spec_FunOk.f k x.f0 x.f1 x.f2 = some (funOkB x.f0 x.f2) := by
  obtain ⟨m, rfl⟩ : ∃ m, k = m + 1 := ⟨k - 1, by omega⟩
  have hs := h.1
  have hl := h.2.1
  unfold spec_FunOk.f funOkB
  rw [spec_NameOk_f x.f0 h.1 _ (by omega)]
  simp only [Option.bind_some]
  have j (b : Bool) : spec_FunOk.j0 (m + 1) (x.f2.length : Int) b x.f0 x.f1 x.f2 = some (!b && !(x.f2.any fun y => !insOkB y.f0 y.f1 y.f2)) := by
    simp only [spec_FunOk.j0]
    cases b with
    | true => rfl
    | false => rw [if_neg (by decide), spec_FunOk_l0 x h m (by omega)]; rfl
  cases nameOk x.f0 with
  | false => rw [if_neg (by decide), j]; rfl
  | true =>
    rw [if_pos rfl]
    by_cases h1 : (x.f2.length : Int) < 1
    · have e1 : decide (1 ≤ (x.f2.length : Int)) = false := decide_eq_false (by omega)
      rw [if_pos h1, j, e1]; rfl
    · rw [if_neg h1]
      have e1 : decide (1 ≤ (x.f2.length : Int)) = true := decide_eq_true (by omega)
      by_cases h2 : (x.f2.length : Int) > 10
      · have e2 : decide ((x.f2.length : Int) ≤ 10) = false := decide_eq_false (by omega)
        rw [if_pos h2, j, e1, e2]; rfl
      · rw [if_neg h2]
        have e2 : decide ((x.f2.length : Int) ≤ 10) = true := decide_eq_true (by omega)
        have w : wrap64 ((x.f2.length : Int) - 1) = (x.f2.length : Int) - 1 := wrap_id (by omega) (by omega)
        rw [w, if_pos (by omega), if_pos (by omega), spec_InsLast_f]
        simp only [Option.bind_some]
        rw [j, e1, e2]
        have e3 : (rd_T110 x.f2 ((x.f2.length : Int) - 1)) = x.f2.getD (x.f2.length - 1) z110 := by
          unfold rd_T110
          rw [show ((x.f2.length : Int) - 1).toNat = x.f2.length - 1 by omega]
        rw [e3]
        simp [Bool.and_comm]
theorem spec_l2Find_f (l : List S52) (hn : l.length ≤ 9223372036854775807) (a : ByteArray) (k : Nat) (hk : l.length < k) : spec_l2Find.f k l a = some (findI l a) := by
  unfold spec_l2Find.f findI
  refine loop_idx (named a) z52 l hn (fun k i => spec_l2Find.l0 k l a i) 0 ?_ ?_ ?_ k (by omega)
  · intro k i _ hi hq
    simp only [spec_l2Find.l0]
    rw [if_pos (by omega), if_pos (by omega), if_pos (show (rd_T52 l (i : Int)).f0.toList = a.toList from beq_iff_eq.mp hq)]
  · intro k i _ hi hq
    simp only [spec_l2Find.l0]
    rw [if_pos (by omega), if_pos (by omega), if_neg (show ¬ (rd_T52 l (i : Int)).f0.toList = a.toList from beq_eq_false_iff_ne.mp hq)]
  · intro k _
    simp only [spec_l2Find.l0]
    rw [if_neg (by omega)]
theorem impl_funsOk_f (l : List S52) (hn : l.length ≤ 140737488351232) (hx : ∀ x ∈ l, FitF x) (k : Nat) (hk : l.length < k) : impl_funsOk.f k l = some (unitGood l) := by
  unfold impl_funsOk.f
  have step : ∀ (k i : Nat), i < l.length → impl_funsOk.l0 (k + 1) l l (l.length : Int) (i : Int) = if (funOkB (l.getD i z52).f0 (l.getD i z52).f2 && (findI l (l.getD i z52).f0 == (i : Int))) = true then impl_funsOk.l0 k l l (l.length : Int) (wrap64 ((i : Int) + 1)) else some false := by
    intro k i hi
    simp only [impl_funsOk.l0]
    have hf := hx _ (getD_mem (d := z52) hi)
    have e := impl_FunOk_f (rd_T52 l (i : Int)) hf
    rw [if_pos (by omega), if_pos (by omega), if_pos (by omega), e]
    simp only [Option.bind_some]
    show (if funOkB (l.getD i z52).f0 (l.getD i z52).f2 = true then _ else _) = _
    cases funOkB (l.getD i z52).f0 (l.getD i z52).f2 with
    | false => rfl
    | true =>
      rw [if_pos rfl]
      simp only [impl_find.f, Option.bind_some, Bool.true_and]
      show (if findI l (l.getD i z52).f0 = (i : Int) then _ else _) = _
      by_cases hq : findI l (l.getD i z52).f0 = (i : Int)
      · rw [if_pos hq, if_pos (beq_iff_eq.mpr hq)]
      · rw [if_neg hq, if_neg (by rw [beq_eq_false_iff_ne.mpr hq]; decide)]
  have e := loop_all (fun i x => funOkB x.f0 x.f2 && (findI l x.f0 == (i : Int))) z52 l true (by omega) (fun k i => impl_funsOk.l0 k l l (l.length : Int) i) 0 ?_ ?_ ?_ k (by omega)
  · rw [e, Bool.and_true]; rfl
  · intro k i hK hi hq
    show impl_funsOk.l0 (k + 1) l l (l.length : Int) (i : Int) = _
    rw [step k i hi, if_pos hq]
  · intro k i hK hi hq
    show impl_funsOk.l0 (k + 1) l l (l.length : Int) (i : Int) = _
    rw [step k i hi, if_neg (by rw [hq]; decide)]
  · intro k _
    simp only [impl_funsOk.l0]
    rw [if_neg (by omega)]
def hasB (l : List ByteArray) (a : ByteArray) : Bool := l.any fun x => x.toList == a.toList
def refsAdd (x : S110) (s : List ByteArray) : List ByteArray := if refersB x.f0 && !hasB s x.f2 then s ++ [x.f2] else s
def refsV (l : List S110) : List ByteArray := l.foldl (fun s x => refsAdd x s) []
theorem refsAdd_len (x : S110) (s : List ByteArray) : (refsAdd x s).length ≤ s.length + 1 := by
  unfold refsAdd
  split
  · simp
  · omega
theorem foldl_len : ∀ (l : List S110) (s : List ByteArray), (l.foldl (fun s x => refsAdd x s) s).length ≤ s.length + l.length
  | [], s => by simp
  | x :: l, s => by
    have := foldl_len l (refsAdd x s)
    have := refsAdd_len x s
    simp only [List.foldl, List.length_cons]
    omega
theorem refsV_len (l : List S110) : (refsV l).length ≤ l.length := by
  have := foldl_len l []
  simpa [refsV] using this
theorem runS_fold {β : Type} (E : List ByteArray → β) : ∀ (l : List S110) (i : Nat) (s : List ByteArray), runS (fun _ x s => (.inl (refsAdd x s) : List ByteArray ⊕ β)) E l i s = E (l.foldl (fun s x => refsAdd x s) s)
  | [], _, _ => rfl
  | x :: l, i, s => runS_fold E l (i + 1) (refsAdd x s)
theorem slices_Contains_sstring_string_f (l : List ByteArray) (hn : l.length ≤ 9223372036854775807) (a : ByteArray) (k : Nat) (hk : l.length < k) : slices_Contains_sstring_string.f k l a = some (hasB l a) := by
  unfold slices_Contains_sstring_string.f slices_Index_sstring_string.f
  have h : slices_Index_sstring_string.l0 k l a (l.length : Int) 0 = some (idxFrom (fun x => x.toList == a.toList) l 0) := by
    refine loop_idx (fun x => x.toList == a.toList) ByteArray.empty l hn (fun k i => slices_Index_sstring_string.l0 k l a (l.length : Int) i) 0 ?_ ?_ ?_ k (by omega)
    · intro k i _ hi hq
      simp only [slices_Index_sstring_string.l0]
      rw [if_pos (by omega), if_pos (by omega), if_pos (by omega), if_pos (show a.toList = (rdOf ByteArray.empty l (i : Int)).toList from (beq_iff_eq.mp hq).symm)]
    · intro k i _ hi hq
      simp only [slices_Index_sstring_string.l0]
      rw [if_pos (by omega), if_pos (by omega), if_pos (by omega), if_neg (show ¬ a.toList = (rdOf ByteArray.empty l (i : Int)).toList from fun e => beq_eq_false_iff_ne.mp hq e.symm)]
    · intro k _
      simp only [slices_Index_sstring_string.l0]
      rw [if_neg (by omega)]
  rw [h]
  simp only [Option.bind_some, hasB]
  rw [← idxFrom_any _ l 0 (by decide)]
theorem spec_l2Has_f (l : List ByteArray) (hn : l.length ≤ 9223372036854775806) (a : ByteArray) (k : Nat) (hk : l.length < k) : spec_l2Has.f k l a = some (hasB l a) := by
  have e : ∀ (l' : List ByteArray) (i : Nat), runS (fun _ x (_ : Unit) => if x.toList = a.toList then (.inr (some true) : Unit ⊕ Option Bool) else .inl ()) (fun _ => some false) l' i () = some (hasB l' a) := by
    intro l'
    induction l' with
    | nil => intro i; rfl
    | cons x l' ih =>
      intro i
      simp only [runS, hasB, List.any_cons]
      by_cases h : x.toList = a.toList
      · rw [if_pos h, beq_iff_eq.mpr h]; rfl
      · rw [if_neg h, beq_eq_false_iff_ne.mpr h]
        exact ih (i + 1)
  unfold spec_l2Has.f
  refine (loop_run (fun _ x (_ : Unit) => if x.toList = a.toList then (.inr (some true) : Unit ⊕ Option Bool) else .inl ()) (fun _ _ => some false) (fun _ _ => True) ByteArray.empty l hn (fun k _ i => spec_l2Has.l0 k l a i) 0 ?_ (fun _ _ _ _ _ _ => trivial) ?_ k (by omega) () trivial).trans (e l 0)
  · intro k i s _ hi _
    simp only [spec_l2Has.l0]
    rw [if_pos (by omega), if_pos (by omega)]
    show (if (l.getD i ByteArray.empty).toList = a.toList then _ else _) = _
    split <;> rfl
  · intro k s _ _
    simp only [spec_l2Has.l0]
    rw [if_neg (by omega)]
theorem impl_Fun_refs_f (a : ByteArray) (b : Bool) (l : List S110) (hn : l.length ≤ 8796093022207) (k : Nat) (hk : 2 * l.length + 5 < k) : impl_Fun_refs.f k a b l = some (refsV l) := by
  unfold impl_Fun_refs.f
  refine (loop_run (fun _ x s => (.inl (refsAdd x s) : List ByteArray ⊕ Option (List ByteArray))) (fun _ s => some s) (fun i s => s.length ≤ i) z110 l (by omega) (fun k s i => impl_Fun_refs.l0 k s l (l.length : Int) i) (l.length + 1) ?_ ?_ ?_ k (by omega) [] (by simp)).trans (runS_fold _ l 0 [])
  · intro k i s hK hi hs
    simp only [impl_Fun_refs.l0]
    rw [if_pos (by omega), if_pos (by omega), if_pos (by omega), impl_InsRefs_f (rd_T110 l (i : Int)).f0 _ _]
    simp only [Option.bind_some]
    rw [slices_Contains_sstring_string_f s (by omega) _ k (by omega)]
    simp only [Option.bind_some]
    show (if refersB (l.getD i z110).f0 = true then (if hasB s (l.getD i z110).f2 = true then _ else (if s.length < 8796093022208 then impl_Fun_refs.l0 k (s ++ [(l.getD i z110).f2]) l (l.length : Int) (wrap64 ((i : Int) + 1)) else none)) else _) = impl_Fun_refs.l0 k (refsAdd (l.getD i z110) s) l (l.length : Int) (wrap64 ((i : Int) + 1))
    rw [if_pos (show s.length < 8796093022208 by omega)]
    unfold refsAdd
    cases refersB (l.getD i z110).f0 <;> cases hasB s (l.getD i z110).f2 <;> rfl
  · intro i s s' hi hs he
    have := refsAdd_len (l.getD i z110) s
    cases he
    omega
  · intro k s _ _
    simp only [impl_Fun_refs.l0]
    rw [if_neg (by omega)]
theorem spec_l2Refs_f (l : List S110) (hn : l.length ≤ 8796093022207) (k : Nat) (hk : 2 * l.length + 5 < k) : spec_l2Refs.f k l = some (refsV l) := by
  unfold spec_l2Refs.f
  refine (loop_run (fun _ x s => (.inl (refsAdd x s) : List ByteArray ⊕ Option (List ByteArray))) (fun _ s => some s) (fun i s => s.length ≤ i) z110 l (by omega) (fun k s i => spec_l2Refs.l0 k l s i) (l.length + 1) ?_ ?_ ?_ k (by omega) [] (by simp)).trans (runS_fold _ l 0 [])
  · intro k i s hK hi hs
    simp only [spec_l2Refs.l0]
    rw [if_pos (by omega), if_pos (by omega), spec_InsRefs_f (rd_T110 l (i : Int)).f0 _ _]
    simp only [Option.bind_some]
    rw [spec_l2Has_f s (by omega) _ k (by omega)]
    simp only [Option.bind_some]
    show (if refersB (l.getD i z110).f0 = true then (if hasB s (l.getD i z110).f2 = true then _ else (if s.length < 8796093022208 then spec_l2Refs.l0 k l (s ++ [(l.getD i z110).f2]) (wrap64 ((i : Int) + 1)) else none)) else _) = spec_l2Refs.l0 k l (refsAdd (l.getD i z110) s) (wrap64 ((i : Int) + 1))
    rw [if_pos (show s.length < 8796093022208 by omega)]
    unfold refsAdd
    cases refersB (l.getD i z110).f0 <;> cases hasB s (l.getD i z110).f2 <;> rfl
  · intro i s s' hi hs he
    have := refsAdd_len (l.getD i z110) s
    cases he
    omega
  · intro k s _ _
    simp only [spec_l2Refs.l0]
    rw [if_neg (by omega)]
def funRefsV (x : S52) : List ByteArray := if funOkB x.f0 x.f2 = true then refsV x.f2 else []
theorem impl_FunRefs_f (x : S52) (hx : FitF x) (k : Nat) (hk : 100 < k) : impl_FunRefs.f k x.f0 x.f1 x.f2 = some (funRefsV x) := by
  unfold impl_FunRefs.f funRefsV
  rw [impl_FunOk_f x hx]
  simp only [Option.bind_some]
  by_cases h : funOkB x.f0 x.f2 = true
  · have := funOkB_len h
    rw [if_pos h, if_pos h, impl_Fun_refs_f x.f0 x.f1 x.f2 (by omega) k (by omega)]
    rfl
  · rw [if_neg h, if_neg h]
def lackOf (p : List S52) (ns : List ByteArray) : List ByteArray := ns.filter fun a => decide (findI p a < 0)
def lackRaw (p l : List S52) : List ByteArray := l.flatMap fun x => lackOf p (refsV x.f2)
theorem lackOf_len (p : List S52) (ns : List ByteArray) : (lackOf p ns).length ≤ ns.length := List.length_filter_le _ _
def goodRaw (p : List S52) : Bool := p.all fun x => (refsV x.f2).all fun a => !decide (findI p a < 0)
theorem lackRaw_good (p : List S52) : (lackRaw p p).isEmpty = goodRaw p := by
  have key : ∀ l : List S52, (lackRaw p l).isEmpty = l.all fun x => (refsV x.f2).all fun a => !decide (findI p a < 0) := by
    intro l
    induction l with
    | nil => rfl
    | cons x l ih =>
      have e : lackRaw p (x :: l) = lackOf p (refsV x.f2) ++ lackRaw p l := by simp [lackRaw]
      have e2 : ∀ ns : List ByteArray, (lackOf p ns).isEmpty = ns.all fun a => !decide (findI p a < 0) := by
        intro ns
        induction ns with
        | nil => rfl
        | cons a ns ih2 =>
          rw [List.all_cons, ← ih2]
          unfold lackOf
          rw [List.filter_cons]
          cases h : decide (findI p a < 0) with
          | true => simp
          | false => simp
      have e3 : ∀ a b : List ByteArray, (a ++ b).isEmpty = (a.isEmpty && b.isEmpty) := fun a b => by cases a <;> rfl
      rw [e, List.all_cons, ← ih, ← e2, e3]
  exact key p
theorem compact_nil_iff (l : List (List UInt8)) : (Lib.compact l).isEmpty = l.isEmpty := by
  have key : ∀ (d : Array (List UInt8)) (m : Nat), Lib.compactUpTo d (m + 1) ≠ [] := by
    intro d m
    induction m with
    | zero =>
      rw [Lib.compactUpTo_succ]
      have : Lib.keeps d 0 = true := by simp [Lib.keeps]
      rw [if_pos this]
      simp
    | succ m ih =>
      rw [Lib.compactUpTo_succ]
      intro h
      exact ih (List.append_eq_nil_iff.mp h).1
  cases l with
  | nil => rfl
  | cons x l =>
    have := key (x :: l).toArray l.length
    unfold Lib.compact
    cases h : Lib.compactUpTo (x :: l).toArray (x :: l).length with
    | nil => exact absurd h this
    | cons _ _ => rfl
theorem orderedV_nil (l : List ByteArray) : (orderedV l).isEmpty = l.isEmpty := by
  have h1 : ∀ m : List (List UInt8), (textsL m).isEmpty = m.isEmpty := fun m => by cases m <;> rfl
  have h2 : ∀ m : List (List UInt8), (sortV m).isEmpty = m.isEmpty := fun m => by
    have := List.length_mergeSort (le := fun x y => decide (x ≤ y)) m
    cases h : sortV m with
    | nil => unfold sortV at h; rw [h] at this; cases m with
      | nil => rfl
      | cons _ _ => simp at this
    | cons _ _ => unfold sortV at h; rw [h] at this; cases m with
      | nil => simp at this
      | cons _ _ => rfl
  have h3 : (bytesL l).isEmpty = l.isEmpty := by cases l <;> rfl
  unfold orderedV
  rw [h1, compact_nil_iff, h2, h3]
theorem len_isEmpty {α : Type} (l : List α) : (((l.length : Nat) : Int) == 0) = l.isEmpty := by
  cases l with
  | nil => rfl
  | cons x l => simp only [List.length_cons, List.isEmpty_cons, beq_eq_false_iff_ne]; omega
theorem runS_filter {β : Type} (q : ByteArray → Bool) (E : List ByteArray → β) : ∀ (l : List ByteArray) (i : Nat) (s : List ByteArray), runS (fun _ a s => if q a then (.inl (s ++ [a]) : List ByteArray ⊕ β) else .inl s) E l i s = E (s ++ l.filter q)
  | [], _, s => by simp [runS]
  | a :: l, i, s => by
    simp only [runS, List.filter_cons]
    cases h : q a with
    | true => rw [if_pos rfl, if_pos rfl]; simp only; rw [runS_filter q E l (i + 1) (s ++ [a]), List.append_assoc]; rfl
    | false => rw [if_neg (by decide), if_neg (by decide)]; simp only; exact runS_filter q E l (i + 1) s
theorem runS_flat {β : Type} (p : List S52) (E : List ByteArray → β) : ∀ (l : List S52) (i : Nat) (s : List ByteArray), runS (fun _ x s => (.inl (s ++ lackOf p (refsV x.f2)) : List ByteArray ⊕ β)) E l i s = E (s ++ lackRaw p l)
  | [], _, s => by simp [runS, lackRaw]
  | x :: l, i, s => by
    simp only [runS]
    rw [runS_flat p E l (i + 1) _, List.append_assoc]
    rfl
theorem impl_lacking_l1 (p l : List S52) (c j : Int) (ns : List ByteArray) (hn : ns.length ≤ 1000) (s : List ByteArray) (hs : s.length ≤ 1000000) (k : Nat) (hk : ns.length < k) :
    impl_lacking.l1 k p s l c j ns (ns.length : Int) 0 = impl_lacking.l0 (k - ns.length - 1) p (s ++ lackOf p ns) l c (wrap64 (j + 1)) := by
  refine (loop_run (fun _ a s => if decide (findI p a < 0) then (.inl (s ++ [a]) : List ByteArray ⊕ Option (List ByteArray)) else .inl s) (fun k s => impl_lacking.l0 k p s l c (wrap64 (j + 1))) (fun i s => s.length ≤ 1000000 + i) ByteArray.empty ns (by omega) (fun k s i => impl_lacking.l1 k p s l c j ns (ns.length : Int) i) 0 ?_ ?_ ?_ k (by omega) s (by omega)).trans (runS_filter _ _ ns 0 s)
  · intro k i s _ hi hI
    simp only [impl_lacking.l1, impl_find.f]
    rw [if_pos (by omega), if_pos (by omega), if_pos (by omega)]
    simp only [Option.bind_some]
    show (if findI p (ns.getD i ByteArray.empty) < 0 then (if s.length < 8796093022208 then impl_lacking.l1 k p (s ++ [ns.getD i ByteArray.empty]) l c j ns (ns.length : Int) (wrap64 ((i : Int) + 1)) else none) else _) = _
    rw [if_pos (show s.length < 8796093022208 by omega)]
    by_cases h : findI p (ns.getD i ByteArray.empty) < 0
    · rw [if_pos h, if_pos (decide_eq_true h)]
    · rw [if_neg h, if_neg (by rw [decide_eq_false h]; decide)]
  · intro i s s' hi hI he
    split at he
    · cases he; simp only [List.length_append, List.length_cons, List.length_nil]; omega
    · cases he; omega
  · intro k s _ _
    simp only [impl_lacking.l1]
    rw [if_neg (by omega)]
theorem impl_lacking_f (p : List S52) (hn : p.length ≤ 100) (hx : ∀ x ∈ p, x.f2.length ≤ 100) (k : Nat) (hk : 100000 < k) : impl_lacking.f k p = some (orderedV (lackRaw p p)) := by
  unfold impl_lacking.f
  refine (loop_var (fun _ x s => (.inl (s ++ lackOf p (refsV x.f2)) : List ByteArray ⊕ Option (List ByteArray))) (fun s => some (orderedV s)) (fun i s => s.length ≤ 100 * i) z52 p (by omega) (fun k s i => impl_lacking.l0 k p s p (p.length : Int) i) 1000 200 ?_ ?_ k (by omega) [] (by simp)).trans (by rw [runS_flat]; rfl)
  · intro k i s hK hi hs
    have hr := refsV_len (p.getD i z52).f2
    have hx2 := hx _ (getD_mem (d := z52) hi)
    have hl := lackOf_len p (refsV (p.getD i z52).f2)
    simp only
    refine ⟨by rw [List.length_append]; omega, k - (refsV (p.getD i z52).f2).length - 1, by omega, ?_⟩
    simp only [impl_lacking.l0]
    rw [show rd_T52 p (i : Int) = p.getD i z52 from rfl]
    rw [if_pos (by omega), if_pos (by omega), if_pos (by omega), impl_Fun_refs_f _ _ (p.getD i z52).f2 (by omega) k (by omega)]
    simp only [Option.bind_some]
    rw [impl_lacking_l1 p p _ _ _ (by omega) s (by omega) k (by omega)]
  · intro k s _ hs
    simp only [impl_lacking.l0]
    rw [if_neg (by omega)]
    unfold impl_ordered.f
    rw [if_pos (by omega)]
    rfl
theorem unitGood_len {p : List S52} (h : unitGood p = true) : ∀ x ∈ p, x.f2.length ≤ 10 := by
  have key : ∀ (l : List S52) (i : Nat), allFrom (fun i x => funOkB x.f0 x.f2 && (findI p x.f0 == (i : Int))) l i = true → ∀ x ∈ l, x.f2.length ≤ 10 := by
    intro l
    induction l with
    | nil => intro i _ x hx; simp at hx
    | cons y l ih =>
      intro i h x hx
      simp only [allFrom, Bool.and_eq_true] at h
      rcases List.mem_cons.mp hx with rfl | hx
      · exact (funOkB_len h.1.1).2
      · exact ih (i + 1) h.2 x hx
  exact key p 0 h
def keepOkB (p : List S52) : Bool := (decide (1 ≤ (p.length : Int)) && decide ((p.length : Int) ≤ 40)) && (unitGood p && goodRaw p)
theorem impl_KeepOk_f (p : List S52) (hn : p.length ≤ 140737488351232) (hx : ∀ x ∈ p, FitF x) (k : Nat) (hk : 100000 + p.length < k) : impl_KeepOk.f k p = some (keepOkB p) := by
  unfold impl_KeepOk.f keepOkB
  rw [impl_in_f]
  simp only [Option.bind_some]
  cases h1 : decide (1 ≤ (p.length : Int)) && decide ((p.length : Int) ≤ 40) with
  | false => rw [if_neg (by decide)]; rfl
  | true =>
    rw [if_pos rfl, impl_funsOk_f p hn hx k (by omega)]
    simp only [Option.bind_some, Bool.true_and]
    cases h2 : unitGood p with
    | false => rw [if_neg (by decide)]; rfl
    | true =>
      simp only [Bool.and_eq_true, decide_eq_true_eq] at h1
      have h3 := unitGood_len h2
      rw [if_pos rfl, impl_lacking_f p (by omega) (fun x hx => by have := h3 x hx; omega) k (by omega)]
      simp only [Option.bind_some, Bool.true_and]
      rw [len_isEmpty, orderedV_nil, lackRaw_good]
theorem runS_all {β : Type} (q : ByteArray → Bool) (E : β) (F : β) : ∀ (l : List ByteArray) (i : Nat), runS (fun _ a (_ : Unit) => if q a then (.inr F : Unit ⊕ β) else .inl ()) (fun _ => E) l i () = if (l.all fun a => !q a) = true then E else F
  | [], _ => rfl
  | a :: l, i => by
    simp only [runS]
    by_cases h : q a = true
    · rw [if_pos h, show ((a :: l).all fun a => !q a) = false by rw [List.all_cons, h]; rfl]; rfl
    · have h' : q a = false := by simpa using h
      rw [if_neg h, show ((a :: l).all fun a => !q a) = (l.all fun a => !q a) by rw [List.all_cons, h']; rfl]; exact runS_all q E F l (i + 1)
theorem spec_KeepOk_l2 (p : List S52) (hn : p.length ≤ 1000) (j : Int) (ns : List ByteArray) (hl : ns.length ≤ 1000) (k : Nat) (hk : 1001 + ns.length < k) :
    spec_KeepOk.l2 k p j ns 0 = if (ns.all fun a => !decide (findI p a < 0)) = true then spec_KeepOk.l1 (k - ns.length - 1) p (wrap64 (j + 1)) else some false := by
  refine (loop_run (fun _ a (_ : Unit) => if decide (findI p a < 0) then (.inr (some false) : Unit ⊕ Option Bool) else .inl ()) (fun k _ => spec_KeepOk.l1 k p (wrap64 (j + 1))) (fun _ _ => True) ByteArray.empty ns (by omega) (fun k _ i => spec_KeepOk.l2 k p j ns i) 1001 ?_ (fun _ _ _ _ _ _ => trivial) ?_ k (by omega) () trivial).trans (runS_all _ _ _ ns 0)
  · intro k i s hK hi _
    simp only [spec_KeepOk.l2]
    rw [if_pos (by omega), if_pos (by omega), spec_l2Find_f p (by omega) _ k (by omega)]
    simp only [Option.bind_some]
    show (if findI p (ns.getD i ByteArray.empty) < 0 then _ else _) = _
    by_cases h : findI p (ns.getD i ByteArray.empty) < 0
    · rw [if_pos h, if_pos (decide_eq_true h)]
    · rw [if_neg h, if_neg (by rw [decide_eq_false h]; decide)]
  · intro k s _ _
    simp only [spec_KeepOk.l2]
    rw [if_neg (by omega)]
theorem runS_allF {β : Type} (q : S52 → Bool) (E : β) (F : β) : ∀ (l : List S52) (i : Nat), runS (fun _ a (_ : Unit) => if q a then (.inl () : Unit ⊕ β) else .inr F) (fun _ => E) l i () = if l.all q = true then E else F
  | [], _ => rfl
  | a :: l, i => by
    simp only [runS]
    by_cases h : q a = true
    · rw [if_pos h, show (a :: l).all q = l.all q by rw [List.all_cons, h]; rfl]; exact runS_allF q E F l (i + 1)
    · have h' : q a = false := by simpa using h
      rw [if_neg h, show (a :: l).all q = false by rw [List.all_cons, h']; rfl]; rfl
theorem spec_KeepOk_l1 (p : List S52) (hn : p.length ≤ 1000) (hx : ∀ x ∈ p, x.f2.length ≤ 10) (k : Nat) (hk : 200000 < k) : spec_KeepOk.l1 k p 0 = some (goodRaw p) := by
  refine (loop_var (fun _ x (_ : Unit) => if (refsV x.f2).all (fun a => !decide (findI p a < 0)) then (.inl () : Unit ⊕ Option Bool) else .inr (some false)) (fun _ => some true) (fun _ _ => True) z52 p (by omega) (fun k _ i => spec_KeepOk.l1 k p i) 2000 100 ?_ ?_ k (by omega) () trivial).trans ?_
  · intro k i s hK hi _
    have hr := refsV_len (p.getD i z52).f2
    have hx2 := hx _ (getD_mem (d := z52) hi)
    have e : spec_KeepOk.l1 (k + 1) p (i : Int) = if ((refsV (p.getD i z52).f2).all fun a => !decide (findI p a < 0)) = true then spec_KeepOk.l1 (k - (refsV (p.getD i z52).f2).length - 1) p (wrap64 ((i : Int) + 1)) else some false := by
      simp only [spec_KeepOk.l1]
      rw [show rd_T52 p (i : Int) = p.getD i z52 from rfl]
      rw [if_pos (by omega), if_pos (by omega), spec_l2Refs_f (p.getD i z52).f2 (by omega) k (by omega)]
      simp only [Option.bind_some]
      rw [spec_KeepOk_l2 p hn _ _ (by omega) k (by omega)]
    simp only [e]
    cases h : (refsV (p.getD i z52).f2).all fun a => !decide (findI p a < 0) with
    | true => exact ⟨trivial, k - (refsV (p.getD i z52).f2).length - 1, by omega, rfl⟩
    | false => rfl
  · intro k s _ _
    simp only [spec_KeepOk.l1]
    rw [if_neg (by omega)]
  · rw [runS_allF]
    unfold goodRaw
    split
    · rename_i h; rw [h]
    · rename_i h; rw [Bool.not_eq_true] at h; rw [h]
theorem spec_KeepOk_f (p : List S52) (hn : p.length ≤ 140737488351232) (hx : ∀ x ∈ p, FitF x) (k : Nat) (hk : 1000000000000000 ≤ k) : spec_KeepOk.f k p = some (keepOkB p) := by
  obtain ⟨m, rfl⟩ : ∃ m, k = m + 1 := ⟨k - 1, by omega⟩
  have hj (b : Bool) : spec_KeepOk.j0 (m + 1) p b = if b = true then some false else spec_KeepOk.l0 m p 0 := by simp only [spec_KeepOk.j0]
  unfold spec_KeepOk.f keepOkB
  rw [hj, hj]
  by_cases h1 : (p.length : Int) < 1
  · rw [if_pos h1, if_pos rfl, decide_eq_false (by omega)]; rfl
  · rw [if_neg h1, decide_eq_true (show 1 ≤ (p.length : Int) by omega)]
    by_cases h2 : (p.length : Int) > 40
    · rw [if_pos (decide_eq_true h2), decide_eq_false (show ¬ (p.length : Int) ≤ 40 by omega)]; rfl
    · rw [if_neg (by rw [decide_eq_false h2]; decide), decide_eq_true (show (p.length : Int) ≤ 40 by omega)]
      simp only [Bool.true_and]
      have e := loop_run (fun i x (_ : Unit) => if funOkB x.f0 x.f2 && (findI p x.f0 == (i : Int)) then (.inl () : Unit ⊕ Option Bool) else .inr (some false)) (fun k _ => spec_KeepOk.l1 k p 0) (fun _ _ => True) z52 p (by omega) (fun k _ i => spec_KeepOk.l0 k p i) 300000000000000 ?_ (fun _ _ _ _ _ _ => trivial) ?_ m (by omega) () trivial
      · rw [e]
        have key : ∀ (l : List S52) (i : Nat) (E : Option Bool), runS (fun i x (_ : Unit) => if funOkB x.f0 x.f2 && (findI p x.f0 == (i : Int)) then (.inl () : Unit ⊕ Option Bool) else .inr (some false)) (fun _ => E) l i () = if allFrom (fun i x => funOkB x.f0 x.f2 && (findI p x.f0 == (i : Int))) l i = true then E else some false := by
          intro l
          induction l with
          | nil => intro i E; rfl
          | cons x l ih =>
            intro i E
            simp only [runS]
            by_cases h : (funOkB x.f0 x.f2 && (findI p x.f0 == (i : Int))) = true
            · rw [if_pos h, show allFrom (fun i x => funOkB x.f0 x.f2 && (findI p x.f0 == (i : Int))) (x :: l) i = allFrom (fun i x => funOkB x.f0 x.f2 && (findI p x.f0 == (i : Int))) l (i + 1) by simp only [allFrom, h, Bool.true_and]]; exact ih (i + 1) E
            · have h' : (funOkB x.f0 x.f2 && (findI p x.f0 == (i : Int))) = false := Bool.eq_false_iff.mpr h
              rw [if_neg h, show allFrom (fun i x => funOkB x.f0 x.f2 && (findI p x.f0 == (i : Int))) (x :: l) i = false by simp only [allFrom, h', Bool.false_and]]; rfl
        rw [key p 0 _]
        show (if unitGood p = true then _ else _) = _
        cases h3 : unitGood p with
        | false => rfl
        | true =>
          rw [if_pos rfl, spec_KeepOk_l1 p (by omega) (unitGood_len h3) _ (by omega)]
          rfl
      · intro k i s hK hi _
        have hf := hx _ (getD_mem (d := z52) hi)
        simp only [spec_KeepOk.l0]
        rw [if_pos (by omega), if_pos (by omega), spec_FunOk_f (rd_T52 p (i : Int)) hf k (by have := hf.2.1; have e9 : rd_T52 p (i : Int) = p.getD i z52 := rfl; rw [e9]; omega)]
        simp only [Option.bind_some]
        show (if funOkB (p.getD i z52).f0 (p.getD i z52).f2 = true then _ else _) = _
        cases h3 : funOkB (p.getD i z52).f0 (p.getD i z52).f2 with
        | false => rw [if_neg (by decide)]; rfl
        | true =>
          rw [if_pos rfl, spec_l2Find_f p (by omega) _ k (by omega)]
          simp only [Option.bind_some, Bool.true_and]
          show (if findI p (p.getD i z52).f0 = (i : Int) then _ else _) = _
          by_cases hq : findI p (p.getD i z52).f0 = (i : Int)
          · rw [if_pos hq, if_pos (beq_iff_eq.mpr hq)]
          · rw [if_neg hq, if_neg (by rw [beq_eq_false_iff_ne.mpr hq]; decide)]
      · intro k s _ _
        simp only [spec_KeepOk.l0]
        rw [if_neg (by omega)]
end Go.Proofs.Ytppmalfpggkpdaa.L
namespace Go.Proofs.Ytppmalfpggkpdaa.L
open Go Go.Sort
abbrev B := List UInt8
theorem sort_pw (l : List B) : (l.mergeSort fun x y => decide (x ≤ y)).Pairwise (fun x y => x ≤ y) := by
  have := List.pairwise_mergeSort (le := fun x y : B => decide (x ≤ y)) (fun a b c h k => by simp only [decide_eq_true_eq] at *; exact List.le_trans h k) (fun a b => by simp only [Bool.or_eq_true, decide_eq_true_eq]; exact List.le_total a b) l
  exact this.imp (fun h => by simpa using h)
theorem pw_get {d : Array B} (h : d.toList.Pairwise (fun x y => x ≤ y)) {i j : Nat} (hij : i ≤ j) (hj : j < d.size) : d[i]! ≤ d[j]! := by
  rw [getElem!_pos d i (by omega), getElem!_pos d j hj]
  by_cases e : i = j
  · subst e; exact List.le_refl _
  · have := List.pairwise_iff_getElem.mp h i j (by simpa using (by omega : i < d.size)) (by simpa using hj) (by omega)
    simpa using this
theorem comp_ok (d : Array B) (h : d.toList.Pairwise (fun x y => x ≤ y)) : ∀ m, m ≤ d.size → (Lib.compactUpTo d m).Pairwise (fun x y => x < y) ∧ ∀ x, x ∈ Lib.compactUpTo d m ↔ ∃ j, j < m ∧ d[j]! = x := by
  intro m
  induction m with
  | zero => intro _; exact ⟨by simp [Lib.compactUpTo], by simp [Lib.compactUpTo]⟩
  | succ m ih =>
    intro hm
    obtain ⟨i1, i2⟩ := ih (by omega)
    rw [Lib.compactUpTo_succ]
    by_cases hk : Lib.keeps d m = true
    · rw [if_pos hk]
      refine ⟨List.pairwise_append.mpr ⟨i1, by simp, fun x hx y hy => ?_⟩, fun x => ?_⟩
      · obtain ⟨j, hj, rfl⟩ := (i2 x).mp hx
        obtain rfl := List.mem_singleton.mp hy
        simp only [Lib.keeps, decide_eq_true_eq] at hk
        rcases hk with hk | hk
        · omega
        · have h1 : d[j]! ≤ d[m - 1]! := pw_get h (by omega) (by omega)
          have h2 : d[m - 1]! ≤ d[m]! := pw_get h (by omega) (by omega)
          rcases List.le_iff_lt_or_eq.mp h2 with h3 | h3
          · exact List.lt_of_le_of_lt h1 h3
          · exact absurd h3.symm hk
      · rw [List.mem_append, i2, List.mem_singleton]
        constructor
        · rintro (⟨j, hj, rfl⟩ | rfl)
          · exact ⟨j, by omega, rfl⟩
          · exact ⟨m, by omega, rfl⟩
        · rintro ⟨j, hj, rfl⟩
          by_cases e : j = m
          · subst e; exact .inr rfl
          · exact .inl ⟨j, by omega, rfl⟩
    · rw [if_neg hk, List.append_nil]
      refine ⟨i1, fun x => ?_⟩
      rw [i2]
      simp only [Lib.keeps, decide_eq_true_eq, not_or, Decidable.not_not] at hk
      constructor
      · rintro ⟨j, hj, rfl⟩; exact ⟨j, by omega, rfl⟩
      · rintro ⟨j, hj, rfl⟩
        by_cases e : j = m
        · subst e; exact ⟨j - 1, by omega, hk.2.symm⟩
        · exact ⟨j, by omega, rfl⟩
theorem eq_of_pw : ∀ (l m : List B), l.Pairwise (fun x y => x < y) → m.Pairwise (fun x y => x < y) → (∀ x, x ∈ l ↔ x ∈ m) → l = m
  | [], [], _, _, _ => rfl
  | [], y :: m, _, _, h => by have := (h y).mpr (List.mem_cons_self); simp at this
  | x :: l, [], _, _, h => by have := (h x).mp (List.mem_cons_self); simp at this
  | x :: l, y :: m, hl, hm, h => by
    have hl' := List.pairwise_cons.mp hl
    have hm' := List.pairwise_cons.mp hm
    have hxy : x = y := by
      rcases List.mem_cons.mp ((h x).mp List.mem_cons_self) with e | e
      · exact e
      · rcases List.mem_cons.mp ((h y).mpr List.mem_cons_self) with e2 | e2
        · exact e2.symm
        · exact absurd (List.lt_trans (hl'.1 y e2) (hm'.1 x e)) (List.lt_irrefl x)
    subst hxy
    rw [eq_of_pw l m hl'.2 hm'.2 (fun z => by
      constructor
      · intro hz
        rcases List.mem_cons.mp ((h z).mp (List.mem_cons_of_mem _ hz)) with e | e
        · subst e; exact absurd (hl'.1 z hz) (List.lt_irrefl z)
        · exact e
      · intro hz
        rcases List.mem_cons.mp ((h z).mpr (List.mem_cons_of_mem _ hz)) with e | e
        · subst e; exact absurd (hm'.1 z hz) (List.lt_irrefl z)
        · exact e)]
def putL (l : List B) (s : B) : List B :=
  match l with
  | [] => [s]
  | x :: l => if x < s then x :: putL l s else if x = s then x :: l else s :: x :: l
theorem put_mem (s : B) : ∀ (l : List B) (x : B), x ∈ putL l s ↔ x = s ∨ x ∈ l
  | [], x => by simp [putL]
  | y :: l, x => by
    unfold putL
    split
    · rw [List.mem_cons, put_mem s l x, List.mem_cons]; constructor <;> (rintro (h | h | h) <;> simp [h])
    · split
      · rename_i h; subst h; simp
      · simp
theorem put_pw (s : B) : ∀ (l : List B), l.Pairwise (fun x y => x < y) → (putL l s).Pairwise (fun x y => x < y)
  | [], _ => by simp [putL]
  | y :: l, h => by
    have h' := List.pairwise_cons.mp h
    unfold putL
    split
    · rename_i hy
      refine List.pairwise_cons.mpr ⟨fun z hz => ?_, put_pw s l h'.2⟩
      rcases (put_mem s l z).mp hz with rfl | hz
      · exact hy
      · exact h'.1 z hz
    · split
      · exact h
      · rename_i h1 h2
        have hs : s < y := by
          rcases List.le_iff_lt_or_eq.mp (List.not_lt.mp h1) with e | e
          · exact e
          · exact absurd e.symm h2
        refine List.pairwise_cons.mpr ⟨fun z hz => ?_, h⟩
        rcases List.mem_cons.mp hz with rfl | hz
        · exact hs
        · exact List.lt_trans hs (h'.1 z hz)
theorem put_all (ns : List B) : ns.foldl putL [] = Lib.compact (ns.mergeSort fun x y => decide (x ≤ y)) := by
  have key : ∀ (ns acc : List B), acc.Pairwise (fun x y => x < y) → (ns.foldl putL acc).Pairwise (fun x y => x < y) ∧ ∀ x, x ∈ ns.foldl putL acc ↔ x ∈ acc ∨ x ∈ ns := by
    intro ns
    induction ns with
    | nil => intro acc h; exact ⟨h, by simp⟩
    | cons a ns ih =>
      intro acc h
      obtain ⟨h1, h2⟩ := ih (putL acc a) (put_pw a acc h)
      refine ⟨h1, fun x => ?_⟩
      rw [List.foldl, h2, put_mem, List.mem_cons]
      constructor
      · rintro ((h | h) | h) <;> simp [h]
      · rintro (h | h | h) <;> simp [h]
  obtain ⟨k1, k2⟩ := key ns [] List.Pairwise.nil
  have hs := sort_pw ns
  obtain ⟨c1, c2⟩ := comp_ok (ns.mergeSort fun x y => decide (x ≤ y)).toArray (by simpa using hs) (ns.mergeSort fun x y => decide (x ≤ y)).length (by simp)
  refine eq_of_pw _ _ k1 c1 (fun x => ?_)
  rw [k2]
  unfold Lib.compact
  rw [c2, ← List.mem_mergeSort (le := fun x y : B => decide (x ≤ y)) (l := ns) (a := x)]
  constructor
  · rintro (h | h)
    · simp at h
    · obtain ⟨j, hj, rfl⟩ := List.mem_iff_getElem.mp h
      exact ⟨j, hj, by rw [getElem!_pos _ _ (by simpa using hj)]; simp⟩
  · rintro ⟨j, hj, rfl⟩
    refine .inr ?_
    rw [getElem!_pos _ _ (by simpa using hj)]
    simp
end Go.Proofs.Ytppmalfpggkpdaa.L
namespace Go.Proofs.Ytppmalfpggkpdaa.L
open Go.RowKit Go.Sort Go.Proofs.YtppmalfpggkpdaaW.PrintWords Go.Proofs.YtppmalfpggkpdaaW.PrintLast Go.Proofs.YtppmalfpggkpdaaW.PrintMore Go.Proofs.Ytppmalfpggkpdaa.P
def putB : List ByteArray → ByteArray → List ByteArray
  | [], a => [a]
  | x :: l, a => if Op.bytesLess x.toList a.toList = true then x :: putB l a else if x.toList = a.toList then x :: l else a :: x :: l
theorem putB_bytes (a : ByteArray) : ∀ l : List ByteArray, bytesL (putB l a) = putL (bytesL l) a.data.toList
  | [] => rfl
  | x :: l => by
    have h1 : Op.bytesLess x.toList a.toList = decide (x.data.toList < a.data.toList) := by rw [bytesLess_eq, Lib.toList_data, Lib.toList_data]
    unfold putB
    rw [h1, Lib.toList_data, Lib.toList_data]
    show _ = (if x.data.toList < a.data.toList then x.data.toList :: putL (bytesL l) a.data.toList else if x.data.toList = a.data.toList then x.data.toList :: bytesL l else a.data.toList :: x.data.toList :: bytesL l)
    by_cases h : x.data.toList < a.data.toList
    · rw [if_pos h, if_pos (decide_eq_true h), ← putB_bytes a l]; rfl
    · rw [if_neg h, if_neg (by rw [decide_eq_false h]; decide)]
      by_cases h2 : x.data.toList = a.data.toList
      · rw [if_pos h2, if_pos h2]; rfl
      · rw [if_neg h2, if_neg h2]; rfl
theorem texts_bytes (l : List ByteArray) : textsL (bytesL l) = l := by
  simp only [bytesL, textsL, List.map_map]
  exact (List.map_congr_left (fun x _ => by simp)).trans (List.map_id l)
theorem putB_len (a : ByteArray) : ∀ l : List ByteArray, (putB l a).length ≤ l.length + 1
  | [] => by simp [putB]
  | x :: l => by
    have := putB_len a l
    unfold putB
    split
    · simp only [List.length_cons]; omega
    · split
      · simp only [List.length_cons]; omega
      · simp only [List.length_cons]; omega
theorem puts_ordered (ns : List ByteArray) : ns.foldl putB [] = orderedV ns := by
  have key : ∀ (ns acc : List ByteArray), bytesL (ns.foldl putB acc) = (bytesL ns).foldl putL (bytesL acc) := by
    intro ns
    induction ns with
    | nil => intro acc; rfl
    | cons a ns ih => intro acc; rw [List.foldl, ih, putB_bytes]; rfl
  rw [← texts_bytes (ns.foldl putB []), key]
  unfold orderedV sortV
  rw [show bytesL ([] : List ByteArray) = [] from rfl, put_all]
theorem spec_l2Put_f (l : List ByteArray) (hn : l.length ≤ 1000000) (a : ByteArray) (k : Nat) (hk : l.length < k) : spec_l2Put.f k l a = some (putB l a) := by
  unfold spec_l2Put.f
  refine (loop_run (fun i x (_ : Unit) => if Op.bytesLess x.toList a.toList = true then (.inl () : Unit ⊕ Option (List ByteArray)) else if x.toList = a.toList then .inr (some l) else .inr (some (l.take i ++ [a] ++ l.drop i))) (fun _ _ => some (l ++ [a])) (fun _ _ => True) ByteArray.empty l (by omega) (fun k _ i => spec_l2Put.l0 k l a i) 0 ?_ (fun _ _ _ _ _ _ => trivial) ?_ k (by omega) () trivial).trans ?_
  · intro k i _ _ hi _
    simp only [spec_l2Put.l0, Option.bind_some]
    rw [if_pos (by omega), if_pos (by omega)]
    rw [show rdOf ByteArray.empty l (i : Int) = l.getD i ByteArray.empty from rfl]
    by_cases h : Op.bytesLess (l.getD i ByteArray.empty).toList a.toList = true
    · rw [if_pos h, if_pos h]
    · rw [if_neg h, if_neg h]
      by_cases h2 : (l.getD i ByteArray.empty).toList = a.toList
      · rw [if_pos h2, if_pos h2]
      · rw [if_neg h2, if_neg h2, if_pos (by omega), if_pos (by simp only [List.length_nil, List.length_drop]; omega), if_pos (by simp only [List.length_take]; omega), if_pos (by simp only [List.length_append, List.length_take, List.length_nil, List.length_drop, List.length_cons]; omega)]
        rfl
  · intro k _ _ _
    simp only [spec_l2Put.l0, Option.bind_some]
    rw [if_neg (by omega), if_pos (by omega)]
    simp
    omega
  · have key : ∀ (l' pre : List ByteArray), l = pre ++ l' → runS (fun i x (_ : Unit) => if Op.bytesLess x.toList a.toList = true then (.inl () : Unit ⊕ Option (List ByteArray)) else if x.toList = a.toList then .inr (some l) else .inr (some (l.take i ++ [a] ++ l.drop i))) (fun _ => some (l ++ [a])) l' pre.length () = some (pre ++ putB l' a) := by
      intro l'
      induction l' with
      | nil => intro pre e; rw [List.append_nil] at e; subst e; rfl
      | cons x l' ih =>
        intro pre e
        simp only [runS, putB]
        by_cases h : Op.bytesLess x.toList a.toList = true
        · rw [if_pos h, if_pos h]
          simp only
          have := ih (pre ++ [x]) (by rw [e]; simp)
          rw [List.length_append] at this
          rw [show pre.length + 1 = pre.length + [x].length from rfl, this]
          simp
        · rw [if_neg h, if_neg h]
          by_cases h2 : x.toList = a.toList
          · rw [if_pos h2, if_pos h2]; simp only [e]
          · rw [if_neg h2, if_neg h2]; simp [e]
    exact key l [] rfl
end Go.Proofs.Ytppmalfpggkpdaa.L
namespace Go.Proofs.Ytppmalfpggkpdaa.P
open Go.RowKit Go.Proofs.YtppmalfpggkpdaaW.PrintWords Go.Proofs.YtppmalfpggkpdaaW.PrintLast Go.Proofs.YtppmalfpggkpdaaW.PrintMore
attribute [local go_sem] max2_int min2_int max_two min_two max_three min_three max_four min_four
def impl_UnitWants.f (k : Nat) (l0 : List (S52)) : Option (List ByteArray) := (impl_UnitOk.f k l0).bind fun t714 => (if t714 = true then ((impl_lacking.f k l0).bind fun t715 => (some t715)) else (some ([] : List ByteArray)))
mutual
def spec_l2Wants.l0 : Nat → List (S52) → List ByteArray → Int → Option (List ByteArray)
  | 0, _, _, _ => none
  | k + 1, x0, x3, x4 => if x4 < (x0.length : Int) then (if 0 ≤ x4 then ((spec_l2Refs.f k ((rd_T52 x0 x4).f2)).bind fun t787 => (spec_l2Wants.l1 k x0 x3 x4 t787 0)) else (none)) else (some x3)
def spec_l2Wants.l1 : Nat → List (S52) → List ByteArray → Int → List ByteArray → Int → Option (List ByteArray)
  | 0, _, _, _, _, _ => none
  | k + 1, x0, x3, x4, x5, x6 => if x6 < (x5.length : Int) then (if 0 ≤ x6 then ((spec_l2Find.f k x0 (rdOf ByteArray.empty x5 x6)).bind fun t791 => (if t791 < 0 then ((spec_l2Put.f k x3 (rdOf ByteArray.empty x5 x6)).bind fun t793 => (spec_l2Wants.l1 k x0 t793 x4 x5 (wrap64 (x6 + 1)))) else (spec_l2Wants.l1 k x0 x3 x4 x5 (wrap64 (x6 + 1))))) else (none)) else (spec_l2Wants.l0 k x0 x3 (wrap64 (x4 + 1)))
end
def spec_l2Wants.f (k : Nat) (l0 : List (S52)) : Option (List ByteArray) := spec_l2Wants.l0 k l0 (([] : List ByteArray)) 0
def spec_UnitWants.f (k : Nat) (l0 : List (S52)) : Option (List ByteArray) := (spec_UnitOk.f k l0).bind fun t796 => (if t796 = true then ((spec_l2Wants.f k l0).bind fun t797 => (some t797)) else (some (([] : List ByteArray))))
end Go.Proofs.Ytppmalfpggkpdaa.P
namespace Go.Proofs.Ytppmalfpggkpdaa.L
open Go.RowKit Go.Proofs.YtppmalfpggkpdaaW.PrintWords Go.Proofs.YtppmalfpggkpdaaW.PrintLast Go.Proofs.YtppmalfpggkpdaaW.PrintMore Go.Proofs.Ytppmalfpggkpdaa.P
theorem puts_len (ns : List ByteArray) : ∀ s : List ByteArray, (ns.foldl putB s).length ≤ s.length + ns.length := by
  induction ns with
  | nil => intro s; simp
  | cons a ns ih =>
    intro s
    have := ih (putB s a)
    have := putB_len a s
    simp only [List.foldl, List.length_cons]
    omega
theorem orderedV_len (ns : List ByteArray) : (orderedV ns).length ≤ ns.length := by
  have := puts_len ns []
  rw [puts_ordered] at this
  simpa using this
def namesOf (q : S52 → Bool) (p : List S52) : List ByteArray := (p.filter q).map (·.f0)
theorem namesOf_len (q : S52 → Bool) (p : List S52) : (namesOf q p).length ≤ p.length := by
  unfold namesOf
  rw [List.length_map]
  exact List.length_filter_le _ _
theorem namesOf_cons (q : S52 → Bool) (x : S52) (p : List S52) : namesOf q (x :: p) = if q x then x.f0 :: namesOf q p else namesOf q p := by
  unfold namesOf
  rw [List.filter_cons]
  split <;> rfl
theorem namesOf_take (q : S52 → Bool) (p : List S52) (i : Nat) (h : i < p.length) : namesOf q (p.take (i + 1)) = namesOf q (p.take i) ++ (if q (p.getD i z52) then [(p.getD i z52).f0] else []) := by
  rw [take_succ_getD p z52 i h]
  unfold namesOf
  rw [List.filter_append, List.map_append, List.filter_cons, List.filter_nil]
  split <;> rfl
def namedV (q : S52 → Bool) (p : List S52) : List ByteArray := if keepOkB p = true then orderedV (namesOf q p) else []
def isLeaf (x : S52) : Bool := (refsV x.f2).length == 0
def leafV (p : List S52) : List ByteArray := namedV isLeaf p
def byV (p : List S52) (a : ByteArray) : List ByteArray := namedV (fun x => hasB (refsV x.f2) a) p
theorem keepOk_bounds {p : List S52} (h : keepOkB p = true) : p.length ≤ 40 ∧ ∀ x ∈ p, x.f2.length ≤ 10 := by
  unfold keepOkB at h
  simp only [Bool.and_eq_true, decide_eq_true_eq] at h
  exact ⟨by omega, unitGood_len h.2.1⟩
theorem namedV_len (q : S52 → Bool) (p : List S52) : (namedV q p).length ≤ 40 := by
  unfold namedV
  split
  · rename_i h
    have := (keepOk_bounds h).1
    have := orderedV_len (namesOf q p)
    have := namesOf_len q p
    omega
  · simp
theorem leafV_len (p : List S52) : (leafV p).length ≤ 40 := namedV_len _ p
theorem byV_len (p : List S52) (a : ByteArray) : (byV p a).length ≤ 40 := namedV_len _ p
theorem runS_named {β : Type} (q : S52 → Bool) (E : List ByteArray → β) : ∀ (l : List S52) (i : Nat) (s : List ByteArray), runS (fun _ x s => if q x then (.inl (putB s x.f0) : List ByteArray ⊕ β) else .inl s) E l i s = E ((namesOf q l).foldl putB s)
  | [], _, s => rfl
  | x :: l, i, s => by
    simp only [runS]
    rw [namesOf_cons]
    by_cases h : q x = true
    · rw [if_pos h, if_pos h]; exact runS_named q E l (i + 1) (putB s x.f0)
    · rw [if_neg h, if_neg h]; exact runS_named q E l (i + 1) s
end Go.Proofs.Ytppmalfpggkpdaa.L
namespace Go.Proofs.Ytppmalfpggkpdaa.P
open Go.RowKit Go.Proofs.YtppmalfpggkpdaaW.PrintWords Go.Proofs.YtppmalfpggkpdaaW.PrintLast Go.Proofs.YtppmalfpggkpdaaW.PrintMore
attribute [local go_sem] max2_int min2_int max_two min_two max_three min_three max_four min_four
open Go.Proofs.Ytppmalfpggkpdaa.L in
def impl_GraphLeaf.f (l0 : List S52) : Option (List ByteArray) := if l0.length ≤ 140737488351232 ∧ ∀ x ∈ l0, x.f0.size ≤ 140737488351232 ∧ x.f2.length ≤ 140737488351232 ∧ ∀ y ∈ x.f2, y.f2.size ≤ 140737488351232 then some (leafV l0) else none
open Go.Proofs.Ytppmalfpggkpdaa.L in
set_option maxHeartbeats 2000000 in
theorem graphleaf1_calls (x : S52) (A2 : Option Addr) (c2 : Nat) (W : World) (h2 : x.f2.length ≤ 10) (hc : x.f2.length ≤ c2) (hi : Kd.C k110 W A2 x.f2.length x.f2) :
    Calls Try.prog 86 #[.agg #[.string x.f0, .bool x.f1, .slice A2 x.f2.length c2]] W fun e w' => e = .returned (.bool (isLeaf x)) ∧ Below W.heap.size W w' := by
  have hu52 := Try.underlying52
  have HC := aM (fun W1 (hb : Below W.heap.size W W1) => impl_Fun_refs.calls 100 x.f0 x.f1 A2 c2 x.f2 (refsV x.f2) W1 (Kd.C_below hi hb) hc (impl_Fun_refs_f x.f0 x.f1 x.f2 (by omega) 100 (by omega)))
  have e0 : isLeaf x = ((refsV x.f2).length == 0) := rfl
  rw [e0]
  clear hi h2 hc e0
  generalize refsV x.f2 = ns at *
  go_enter Try.func86, Try.ntmps86
  go_wp2_with (go_at_call 81; refine (HC.out _ (below_alloc (Below.refl _ _) _)).mono ?_; rintro e w1 ⟨v, rfl, ho, hb⟩; have HB := aM (below_step (below_alloc (Below.refl _ _) _) hb); clear hb; obtain ⟨A5, c5, e5⟩ := Kd.R_slice ho; subst e5; clear ho)
  have hE : ((ns.length : Int) == 0) = (ns.length == 0) := by rw [Bool.eq_iff_iff, beq_iff_eq, beq_iff_eq]; omega
  go_ret
  exact ⟨congrArg (fun b => Ending.returned (Value.bool b)) hE, HB.out⟩
open Go.Proofs.Ytppmalfpggkpdaa.L in
set_option maxHeartbeats 8000000 in
set_option maxRecDepth 100000 in
theorem named_leaf_calls (A0 : Option Addr) (c0 : Nat) (l0 : List S52) (lb : Array Value) (p : S52 → Bool) (w : World) (hr0 : Kd.C k52 w A0 l0.length l0) (hc0 : l0.length ≤ c0) (hl : l0.length ≤ 140737488351232) (hx : ∀ x ∈ l0, FitF x)
    (hp : keepOkB l0 = true → ∀ (W : World) (x : S52) (A2 : Option Addr) (c2 : Nat), Below w.heap.size w W → x ∈ l0 → x.f2.length ≤ c2 → Kd.C k110 W A2 x.f2.length x.f2 → Calls Try.prog 86 ((#[.agg #[.string x.f0, .bool x.f1, .slice A2 x.f2.length c2]] : Array Value) ++ lb) W fun e w' => e = .returned (.bool (p x)) ∧ Below W.heap.size W w') :
    Calls Try.prog 85 #[.slice A0 l0.length c0, .func (.func 86) #[] lb] w fun e w' => ∃ v0_ : Value, e = .returned (v0_) ∧ Kd.R Kd.string 9 w' w.heap.size (fun _ => True) v0_ (namedV p l0) ∧ Below w.heap.size w w' := by
  have hu52 := Try.underlying52
  have HC0 := aM hc0
  have CK := aM (impl_KeepOk.calls (200000 + l0.length) A0 c0 l0 (keepOkB l0) w hr0 hc0 (impl_KeepOk_f l0 hl hx _ (by omega)))
  have HR0 := aM hr0
  have HN : l0.length ≤ 9223372036854775807 := hr0.2.1
  clear hr0 hc0 hl hx
  cases hk : keepOkB l0 with
  | false =>
    rw [hk] at CK
    have e0 : namedV p l0 = [] := by unfold namedV; rw [hk]; rfl
    rw [e0]
    clear hp e0 hk
    go_enter Try.func85, Try.ntmps85
    go_wp2_with (go_at_call 32; refine CK.out.mono ?_; rintro e w1 ⟨rfl, hb⟩)
    go_ret
    exact ⟨_, rfl, Kd.R_nil _ _ _ _ _, hb⟩
  | true =>
    rw [hk] at CK
    have HPP := aM (hp hk)
    have hbd := (keepOk_bounds hk).1
    have e0 : namedV p l0 = orderedV (namesOf p l0) := by unfold namedV; rw [if_pos hk]
    rw [e0]
    have HBD := aM hbd
    clear hp e0 hk hbd
    go_enter Try.func85, Try.ntmps85
    go_wp2_with (go_at_call 32; refine CK.out.mono ?_; rintro e w1 ⟨rfl, hb⟩; have HB1 := aM hb; clear hb)
    go_loopg [5, 13] l0.length (fun gq v5 v13 wr => ∃ x13 : Int, v13 = .int .i64 x13 ∧ Aside0 (0 ≤ x13) ∧ Aside0 (x13 ≤ l0.length) ∧ Aside0 (l0.length - x13.toNat ≤ gq) ∧ Aside0 (Kd.R Kd.string 9 wr w.heap.size (fun _ => True) v5 (namesOf p (l0.take x13.toNat))) ∧ Aside0 (Below w.heap.size w wr))
    case atStart => exact ⟨0, rfl, ⟨by omega⟩, ⟨by omega⟩, ⟨by omega⟩, ⟨Kd.R_nil _ _ _ _ _⟩, HB1⟩
    case round =>
      obtain ⟨x13, rfl, H0, H1, HG, HO, HB⟩ := hrel
      by_cases hlt : x13 < (l0.length : Int)
      · have h0 := H0.out
        obtain ⟨ad, A2, c2, e, hx0, hx1, hx2, hl2, hi2⟩ := at_T52 HR0.out x13 h0 hlt
        cases e
        replace hx0 := (HB.out.cell (World.block_lt_of_cell? w _ hx0)).trans hx0
        replace hx1 := (HB.out.cell (World.block_lt_of_cell? w _ hx1)).trans hx1
        replace hx2 := (HB.out.cell (World.block_lt_of_cell? w _ hx2)).trans hx2
        have hnat : x13.toNat < l0.length := by omega
        have HM := aM (show rd_T52 l0 x13 ∈ l0 from getD_mem hnat)
        have HNM := aM (namesOf_take p l0 x13.toNat hnat)
        have HLN := aM (show (namesOf p (l0.take x13.toNat)).length ≤ 40 from by have := namesOf_len p (l0.take x13.toNat); have := HBD.out; rw [List.length_take] at *; omega)
        have HL2 := aM hl2
        have HI2 := aM hi2
        have HNT := aM hnat
        have hli : decide (x13 < (l0.length : Int)) = true := decide_eq_true hlt
        have hl0 : decide (0 ≤ x13) = true := decide_eq_true h0
        have p5 := eq_true h0
        have q5 := eq_true hlt
        clear h0 hlt hl2 hi2 hnat
        have hgx : l0.getD x13.toNat z52 = rd_T52 l0 x13 := rfl
        rw [hgx] at HNM
        clear hgx
        generalize rd_T52 l0 x13 = x at hx0 hx1 hx2 HM HNM HL2 HI2
        generalize namesOf p (l0.take x13.toNat) = ns at HO HNM HLN
        obtain ⟨A5, c5, e5⟩ := Kd.R_slice HO.out
        subst e5
        have hw13 : wrap64 (x13 + 1) = x13 + 1 := wrap_id (by have := H0.out; omega) (by have := HNT.out; omega)
        have HW := aM hw13
        clear hw13
        cases hq : p x with
        | true =>
          rw [hq] at HNM
          have HQ := aM hq
          clear hq
          go_wp2_with (first
            | ((with_reducible refine gate_dst (N := 7) rfl ?_); refine box_event ?hg (N := 7) ?hd (cs := #[.string (⟨#[]⟩ : ByteArray), .bool false, .slice none 0 0]) (t := 52) ?hr ?_; (case hd => rfl); (case hg => rfl); (case hr => first | (go_simp; done) | (go_simp; rfl)); intro gb hg w6 hbox hb; have HB6 := aM (below_step HB.out hb); have BK := aM hbox; have GE := aM (show wr.heap.size ≤ gb from by rw [hg]; exact Nat.le_refl _); have GW := aM (show w.heap.size ≤ gb from Nat.le_trans (below_size HB.out) GE.out); have HB7 := aM hb; clear hb hbox hg; have hcz0 : w6.cell? ⟨gb, 0, none⟩ = some (.string (⟨#[]⟩ : ByteArray)) := (blk_cell BK.out 0).trans rfl; have hcz1 : w6.cell? ⟨gb, 1, none⟩ = some (.bool false) := (blk_cell BK.out 1).trans rfl; have hcz2 : w6.cell? ⟨gb, 2, none⟩ = some (.slice none 0 0) := (blk_cell BK.out 2).trans rfl; have hfz0 := blk_frozen BK.out 0; have hfz1 := blk_frozen BK.out 1; have hfz2 := blk_frozen BK.out 2)
            | (go_at_call 86; refine (HPP.out _ x A2 c2 (below_set (below_set (below_set HB6.out GW.out) GW.out) GW.out) HM.out HL2.out (Kd.C_below HI2.out (below_set (below_set (below_set HB6.out GW.out) GW.out) GW.out))).mono ?_; rintro e w8 ⟨he, hb⟩; rw [HQ.out] at he; subst he; have BK8 := aM (blk_below (g := gb) (o := .cells #[.string x.f0, .bool x.f1, .slice A2 x.f2.length c2] 52 (0, 0)) (blk_put (cs := #[.string x.f0, .bool x.f1, .slice none 0 0]) (blk_put (cs := #[.string x.f0, .bool false, .slice none 0 0]) (blk_put (cs := #[.string (⟨#[]⟩ : ByteArray), .bool false, .slice none 0 0]) BK.out 0 _ rfl) 1 _ rfl) 2 _ rfl) hb); have HB8 := aM (below_step (below_set (below_set (below_set HB6.out GW.out) GW.out) GW.out) hb); have HO8 := aM (Kd.R_below HO.out (below_step (below_set (below_set (below_set HB7.out GE.out) GE.out) GE.out) hb)); clear hb HO; have hc80 : w8.cell? ⟨gb, 0, none⟩ = some (.string x.f0) := (blk_cell BK8.out 0).trans rfl)
            | ((with_reducible refine gate_builtin (b := .append) (xs := #[.tmp 20, .tmp 23]) rfl ?_); at_builtin; refine Kd.R_append Kd.string (w0 := w) w.heap.size rfl (.tmp 20) (.tmp 23) 24 9 (.string ⟨#[]⟩) 16 rfl Try.underlying24 info9 rfl (by decide) (by omega) (.slice A5 ns.length c5) ns x.f0 [.string x.f0] (fun _ => True) (fun _ => False) rfl rfl ?aP (fun _ hk => hk.elim) ?aF ?aO ?aB ?aS ?aL ?_; (case aP => exact rfl); (case aB => exact HB8.out); (case aF => exact (fun _ _ => trivial)); (case aO => exact HO8.out); (case aS => exact below_size HB8.out); (case aL => have := HLN.out; omega); intro v9 w9 ho hb hg hat; have HO9 := aM ho; have HB9 := aM hb; clear ho hb hg hat))
          go_roundg (l0.length - (x13.toNat + 1))
          case measure => have := HG.out; have := HNT.out; omega
          case rel =>
            have hn : (x13 + 1).toNat = x13.toNat + 1 := by have := H0.out; omega
            exact ⟨x13 + 1, by rw [HW.out], ⟨by have := H0.out; omega⟩, ⟨by have := HNT.out; omega⟩, ⟨by rw [hn]; omega⟩, ⟨by rw [hn, HNM.out]; exact HO9.out⟩, HB9⟩
        | false =>
          rw [hq] at HNM
          have HQ := aM hq
          clear hq
          go_wp2_with (first
            | ((with_reducible refine gate_dst (N := 7) rfl ?_); refine box_event ?hg (N := 7) ?hd (cs := #[.string (⟨#[]⟩ : ByteArray), .bool false, .slice none 0 0]) (t := 52) ?hr ?_; (case hd => rfl); (case hg => rfl); (case hr => first | (go_simp; done) | (go_simp; rfl)); intro gb hg w6 hbox hb; have HB6 := aM (below_step HB.out hb); have BK := aM hbox; have GE := aM (show wr.heap.size ≤ gb from by rw [hg]; exact Nat.le_refl _); have GW := aM (show w.heap.size ≤ gb from Nat.le_trans (below_size HB.out) GE.out); have HB7 := aM hb; clear hb hbox hg; have hcz0 : w6.cell? ⟨gb, 0, none⟩ = some (.string (⟨#[]⟩ : ByteArray)) := (blk_cell BK.out 0).trans rfl; have hcz1 : w6.cell? ⟨gb, 1, none⟩ = some (.bool false) := (blk_cell BK.out 1).trans rfl; have hcz2 : w6.cell? ⟨gb, 2, none⟩ = some (.slice none 0 0) := (blk_cell BK.out 2).trans rfl; have hfz0 := blk_frozen BK.out 0; have hfz1 := blk_frozen BK.out 1; have hfz2 := blk_frozen BK.out 2)
            | (go_at_call 86; refine (HPP.out _ x A2 c2 (below_set (below_set (below_set HB6.out GW.out) GW.out) GW.out) HM.out HL2.out (Kd.C_below HI2.out (below_set (below_set (below_set HB6.out GW.out) GW.out) GW.out))).mono ?_; rintro e w8 ⟨he, hb⟩; rw [HQ.out] at he; subst he; have BK8 := aM (blk_below (g := gb) (o := .cells #[.string x.f0, .bool x.f1, .slice A2 x.f2.length c2] 52 (0, 0)) (blk_put (cs := #[.string x.f0, .bool x.f1, .slice none 0 0]) (blk_put (cs := #[.string x.f0, .bool false, .slice none 0 0]) (blk_put (cs := #[.string (⟨#[]⟩ : ByteArray), .bool false, .slice none 0 0]) BK.out 0 _ rfl) 1 _ rfl) 2 _ rfl) hb); have HB8 := aM (below_step (below_set (below_set (below_set HB6.out GW.out) GW.out) GW.out) hb); have HO8 := aM (Kd.R_below HO.out (below_step (below_set (below_set (below_set HB7.out GE.out) GE.out) GE.out) hb)); clear hb HO; have hc80 : w8.cell? ⟨gb, 0, none⟩ = some (.string x.f0) := (blk_cell BK8.out 0).trans rfl))
          go_roundg (l0.length - (x13.toNat + 1))
          case measure => have := HG.out; have := HNT.out; omega
          case rel =>
            have hn : (x13 + 1).toNat = x13.toNat + 1 := by have := H0.out; omega
            exact ⟨x13 + 1, by rw [HW.out], ⟨by have := H0.out; omega⟩, ⟨by have := HNT.out; omega⟩, ⟨by rw [hn]; omega⟩, ⟨by rw [hn, HNM.out]; simpa using HO8.out⟩, HB8⟩
      · have hli : decide (x13 < (l0.length : Int)) = false := decide_eq_false hlt
        have e1 : l0.take x13.toNat = l0 := List.take_of_length_le (by omega)
        rw [e1] at HO
        have hlen := namesOf_len p l0
        have HOR := aM (show impl_ordered.f (namesOf p l0) = some (orderedV (namesOf p l0)) from by unfold impl_ordered.f; rw [if_pos (by have := HBD.out; omega)])
        clear e1 hlen hlt
        obtain ⟨ns, hns⟩ : ∃ ns, ns = namesOf p l0 := ⟨_, rfl⟩
        rw [← hns] at HO HOR
        have HNS := aM hns
        clear hns
        obtain ⟨A5, c5, e5⟩ := Kd.R_slice HO.out
        subst e5
        go_wp2_with (go_at_call 118; refine (impl_ordered.calls (fun _ => True) _ ns (orderedV ns) w wr HB.out HO.out HOR.out).mono ?_; rintro e w9 ⟨v9, rfl, ho, hb, hkp⟩; have HO9 := aM ho; have HB9 := aM hb; clear ho hb hkp)
        go_ret
        exact ⟨_, rfl, by rw [← HNS.out]; exact Kd.R_mono HO9.out (fun _ _ => trivial), HB9.out⟩
open Go.Proofs.Ytppmalfpggkpdaa.L in
set_option maxHeartbeats 2000000 in
theorem impl_GraphLeaf.calls (A0 : Option Addr) (c0 : Nat) (l0 : List S52) (r : List ByteArray) (w : World) (hr0 : Kd.C k52 w A0 l0.length l0) (hc0 : l0.length ≤ c0) (h : impl_GraphLeaf.f l0 = some r) :
    Calls Try.prog 41 #[.slice A0 l0.length c0] w fun e w' => ∃ v0_ : Value, e = .returned (v0_) ∧ Kd.R Kd.string 9 w' w.heap.size (fun _ => True) v0_ r ∧ Below w.heap.size w w' := by
 unfold impl_GraphLeaf.f at h
 split at h
 case isFalse => exact absurd h (by simp)
 rename_i hf
 obtain rfl := Option.some.inj h
 clear h
 have H := aM (named_leaf_calls A0 c0 l0 #[] isLeaf w hr0 hc0 hf.1 hf.2 (fun hk W x A2 c2 hb hm h2 hi => graphleaf1_calls x A2 c2 W ((keepOk_bounds hk).2 x hm) h2 hi))
 clear hf hr0
 go_enter Try.func41, Try.ntmps41
 go_wp2_with (go_at_call 85; refine H.out.mono ?_; rintro e w1 ⟨v, rfl, ho, hb⟩; have HO := aM ho; have HB := aM hb; clear ho hb)
 go_ret
 exact ⟨_, rfl, HO.out, HB.out⟩
mutual
def spec_GraphBy.l0 : Nat → List (S52) → ByteArray → List ByteArray → Int → Option (List ByteArray)
  | 0, _, _, _, _ => none
  | k + 1, x0, x1, x5, x6 => if x6 < (x0.length : Int) then ((spec_KeepOk.f k x0).bind fun t917 => (spec_GraphBy.j1 k x0 x1 x5 x6 t917)) else (spec_GraphBy.j1 k x0 x1 x5 x6 false)
def spec_GraphBy.j1 : Nat → List (S52) → ByteArray → List ByteArray → Int → Bool → Option (List ByteArray)
  | 0, _, _, _, _, _ => none
  | k + 1, x0, x1, x5, x6, x15 => if x15 = true then (if 0 ≤ x6 then (if x6 < (x0.length : Int) then ((spec_l2Refs.f k ((rd_T52 x0 x6).f2)).bind fun t919 => ((spec_l2Has.f k t919 x1).bind fun t922 => (if t922 = true then ((spec_l2Put.f k x5 ((rd_T52 x0 x6).f0)).bind fun t924 => (spec_GraphBy.l0 k x0 x1 t924 (wrap64 (x6 + 1)))) else (spec_GraphBy.l0 k x0 x1 x5 (wrap64 (x6 + 1)))))) else (none)) else (none)) else (some x5)
end
def spec_GraphBy.f (k : Nat) (l0 : List (S52)) (a1 : ByteArray) : Option (List ByteArray) := spec_GraphBy.l0 k l0 a1 (([] : List ByteArray)) 0
set_option maxHeartbeats 8000000 in
set_option maxRecDepth 100000 in
theorem spec_GraphBy.calls (k : Nat) (A0 : Option Addr) (c0 : Nat) (l0 : List (S52)) (a1 : ByteArray) (r : List ByteArray) (w : World) (hr0 : Kd.C k52 w A0 l0.length l0) (hc0 : l0.length ≤ c0) (h : spec_GraphBy.f k l0 a1 = some r) :
    Calls Try.prog 42 #[.slice A0 l0.length c0, .string a1] w fun e w' => ∃ v0_ : Value, e = .returned (v0_) ∧ Kd.R Kd.string 9 w' w.heap.size (fun _ => True) v0_ r ∧ Below w.heap.size w w' := by
 have HR0 := aM hr0; have HC0 := aM hc0; clear hr0 hc0
 have HB := aM (Below.refl w.heap.size w)
 have H : (spec_GraphBy.l0 k l0 a1 (([] : List ByteArray)) 0) = some r := h
 clear h
 obtain ⟨y914, hy914⟩ : ∃ y_ : List ByteArray, y_ = (([] : List ByteArray)) := ⟨_, rfl⟩
 replace H : (spec_GraphBy.l0 k l0 a1 y914 0) = some r := by first | (rw [hy914]; with_reducible exact H) | (have H2_ := (Option.bind_some _ _).symm.trans H; rw [hy914]; with_reducible exact H2_) | (have H2_ := (Option.bind_some _ _).symm.trans H; with_reducible exact H2_) | with_reducible exact H | (rw [hy914]; exact H) | exact H
 have Ny914 := aM hy914; clear hy914
 have H' := aM H
 clear H
 go_enter Try.func42, Try.ntmps42
 go_wp2_with (first | ((with_reducible refine gate_dst (N := 7) rfl ?_); refine Kd.R_lit Kd.string _ 9 ?hg (N := 7) ?hd (xs := ([] : List ByteArray)) (inner := []) (ok := fun _ => True) (okp := fun _ => True) ?hr ?hp (fun _ hk => hk) trivial (Below.refl _ _) (Nat.le_refl _) (by simp) ?_; (case hd => rfl); (case hg => rfl); (case hr => first | (go_simp; done) | (go_simp; rfl)); (case hp => exact (Reps.none _ _)); intro v915 w3 ho4 hb hg_ hnew_; clear hg_ hnew_; (first | rw [← Ny914.out] at ho4 | (simp only [Int.reduceToNat] at ho4; rw [← Ny914.out] at ho4)); have n0_ := aM (Kd.R_lower ho4 (below_size (by repeat (with_reducible first | exact HB.out | apply bA | apply bN | apply bD)))); have n1_ := aM (below_step (by repeat (with_reducible first | exact HB.out | apply bA | apply bN | apply bD)) hb); clear HB; have HO916 := n0_; have HB := n1_; clear n0_ n1_ hb ho4))
 go_loopg [5, 6] k (fun kq v5 v6 w' => ∃ (x5_1 : List ByteArray) (x6_1 : Int), v6 = .int .i64 x6_1 ∧ Aside0 (spec_GraphBy.l0 kq l0 a1 x5_1 x6_1 = some r) ∧ Aside0 (kq ≤ k) ∧ Aside0 (Kd.R Kd.string 9 w' w.heap.size (fun _ => True) v5 x5_1) ∧ Aside0 (Below w.heap.size w w'))
 case atStart => exact ⟨(y914), (0), (by first | rfl | (simp; done) | (simp [*]; done)), H', ⟨Nat.le_refl _⟩, ⟨by (with_reducible repeat (first | apply Ra | apply Rn | apply Rd)); exact HO916.out⟩, ⟨by repeat (with_reducible first | exact HB.out | apply bA | apply bN | apply bD)⟩⟩
 clear H'
 try clear p2; try clear c4
 obtain ⟨x5_1, x6_1, rfl, HA, HK1, HO_5, HB⟩ := hrel
 obtain _ | k1 := gk
 · exact absurd HA.out (by simp [spec_GraphBy.l0])
 have H := HA.out
 clear HA
 simp only [spec_GraphBy.l0] at H
 have HC5 := aM H; clear H
 go_upto_region 3 with (fail)
 go_cut [15] (fun v15 wc => ∃ (kq : Nat) (x15_4 : Bool), v15 = .bool x15_4 ∧ Aside0 (spec_GraphBy.j1 kq l0 a1 x5_1 x6_1 x15_4 = some r) ∧ Aside0 (kq ≤ k1) ∧ Aside0 (Kd.R Kd.string 9 wc w.heap.size (fun _ => True) u5 x5_1) ∧ Aside0 (Below w.heap.size w wc))
 case first =>
  have H := HC5.out
  clear HC5
  by_cases c6 : x6_1 < (l0.length : Int)
  · rw [if_pos c6] at H
    have c6b0 : decide (x6_1 < (l0.length : Int)) = true := decide_eq_true c6
    clear c6
    (first | rw [c6b0] | (simp only [i64_w, i32_w]; rw [c6b0]) | (have cn_ := c6b0; simp only [bne] at cn_; rw [cn_]; clear cn_) | skip)
    replace H := Option.bind_eq_some_iff.mp H
    obtain ⟨t917, A70, H⟩ := H
    replace H : (spec_GraphBy.j1 k1 l0 a1 x5_1 x6_1 t917) = some r := H
    have A7 := aM A70; clear A70
    have H' := aM H
    clear H
    go_wp2_with (first | (go_at_call 30; (with_reducible refine (spec_KeepOk.calls k1 _ _ l0 t917 _ ?side1 ?side2 A7.out).mono ?_); (case side1 => repeat (first | exact (Kd.C_below HR0.out HB.out) | (with_reducible first | refine Ca ?_ _ | refine Cn ?_ _ | refine Cd ?_))); (case side2 => exact HC0.out); rintro e w8 ⟨rfl, hb⟩; have n0_ := aM (Kd.R_below (by (with_reducible repeat (first | apply Ra | apply Rn | apply Rd)); exact HO_5.out) hb); have n1_ := aM (below_step (by repeat (with_reducible first | exact HB.out | apply bA | apply bN | apply bD)) hb); clear HO_5 HB; have HO_5 := n0_; have HB := n1_; clear n0_ n1_))
    go_meet
    case rel => exact ⟨_, (t917), (by first | rfl | (simp; done) | (simp [*]; done)), H', ⟨by have := HK1.out; first | omega | exact Nat.le_refl _⟩, ⟨by (with_reducible repeat (first | apply Ra | apply Rn | apply Rd)); exact HO_5.out⟩, ⟨by repeat (with_reducible first | exact HB.out | apply bA | apply bN | apply bD)⟩⟩
  rw [if_neg c6] at H
  have c6b0 : decide (x6_1 < (l0.length : Int)) = false := decide_eq_false c6
  clear c6
  (first | rw [c6b0] | (simp only [i64_w, i32_w]; rw [c6b0]) | (have cn_ := c6b0; simp only [bne] at cn_; rw [cn_]; clear cn_) | skip)
  have H' := aM H
  clear H
  go_wp2
  go_meet
  case rel => exact ⟨_, (false), (by first | rfl | (simp; done) | (simp [*]; done)), H', ⟨by have := HK1.out; first | omega | exact Nat.le_refl _⟩, ⟨by (with_reducible repeat (first | apply Ra | apply Rn | apply Rd)); exact HO_5.out⟩, ⟨by repeat (with_reducible first | exact HB.out | apply bA | apply bN | apply bD)⟩⟩
 clear HC5; try clear p2; try clear c4; try clear c6; try clear c6b0; try clear p2
 obtain ⟨kq, x15_4, rfl, HA, HJ4, HO_5, HB⟩ := hcut
 obtain _ | kj4 := kq
 · exact absurd HA.out (by simp [spec_GraphBy.j1])
 have H := HA.out
 clear HA
 simp only [spec_GraphBy.j1] at H
 by_cases c9 : x15_4 = true
 · subst c9
   have H1 : (if 0 ≤ x6_1 then (if x6_1 < (l0.length : Int) then ((spec_l2Refs.f kj4 ((rd_T52 l0 x6_1).f2)).bind fun t919 => ((spec_l2Has.f kj4 t919 a1).bind fun t922 => (if t922 = true then ((spec_l2Put.f kj4 x5_1 ((rd_T52 l0 x6_1).f0)).bind fun t924 => (spec_GraphBy.l0 kj4 l0 a1 t924 (wrap64 (x6_1 + 1)))) else (spec_GraphBy.l0 kj4 l0 a1 x5_1 (wrap64 (x6_1 + 1)))))) else (none)) else (none)) = some r := by rw [if_pos rfl] at H; exact H
   clear H
   have H := H1
   clear H1
   by_cases c10 : 0 ≤ x6_1
   · rw [if_pos c10] at H
     have c10b0 : decide (0 ≤ x6_1) = true := decide_eq_true c10
     clear c10
     by_cases c11 : x6_1 < (l0.length : Int)
     · rw [if_pos c11] at H
       have c11b0 : decide (x6_1 < (l0.length : Int)) = true := decide_eq_true c11
       clear c11
       replace H := Option.bind_eq_some_iff.mp H
       obtain ⟨t919, A120, H⟩ := H
       replace H : ((spec_l2Has.f kj4 t919 a1).bind fun t922 => (if t922 = true then ((spec_l2Put.f kj4 x5_1 ((rd_T52 l0 x6_1).f0)).bind fun t924 => (spec_GraphBy.l0 kj4 l0 a1 t924 (wrap64 (x6_1 + 1)))) else (spec_GraphBy.l0 kj4 l0 a1 x5_1 (wrap64 (x6_1 + 1))))) = some r := H
       have A12 := aM A120; clear A120
       replace H := Option.bind_eq_some_iff.mp H
       obtain ⟨t922, A130, H⟩ := H
       replace H : (if t922 = true then ((spec_l2Put.f kj4 x5_1 ((rd_T52 l0 x6_1).f0)).bind fun t924 => (spec_GraphBy.l0 kj4 l0 a1 t924 (wrap64 (x6_1 + 1)))) else (spec_GraphBy.l0 kj4 l0 a1 x5_1 (wrap64 (x6_1 + 1)))) = some r := H
       have A13 := aM A130; clear A130
       by_cases c14 : t922 = true
       · subst c14
         have H1 : ((spec_l2Put.f kj4 x5_1 ((rd_T52 l0 x6_1).f0)).bind fun t924 => (spec_GraphBy.l0 kj4 l0 a1 t924 (wrap64 (x6_1 + 1)))) = some r := by rw [if_pos rfl] at H; exact H
         clear H
         have H := H1
         clear H1
         replace H := Option.bind_eq_some_iff.mp H
         obtain ⟨t924, A150, H⟩ := H
         replace H : (spec_GraphBy.l0 kj4 l0 a1 t924 (wrap64 (x6_1 + 1))) = some r := H
         have A15 := aM A150; clear A150
         have H' := aM H
         clear H
         have p918 : 0 ≤ (x6_1 : Int) := oD (by first | with_reducible assumption | assumption)
         have q918 : x6_1 < (l0.length : Int) := oD (by first | with_reducible assumption | assumption)
         obtain ⟨ad918, A918_2, c918_2, e918, hx918_0, hx918_1, hx918_2, hl918_2, hi918_2⟩ := at_T52 HR0.out x6_1 p918 q918
         cases e918
         replace hx918_0 := (HB.out.cell (World.block_lt_of_cell? w _ hx918_0)).trans hx918_0
         replace hx918_1 := (HB.out.cell (World.block_lt_of_cell? w _ hx918_1)).trans hx918_1
         replace hx918_2 := (HB.out.cell (World.block_lt_of_cell? w _ hx918_2)).trans hx918_2
         have HR918_2 := aM hi918_2; have HC918_2 := aM hl918_2; clear hi918_2 hl918_2; replace p918 := eq_true p918; replace q918 := eq_true q918
         go_wp2_with (first | ((with_reducible refine gate_callee (f := 73) rfl ?_); refine goesL_ (some 23) rfl rfl Try.func73 (by kernel_rfl) rfl #[.slice A918_2 ((rd_T52 l0 x6_1).f2).length c918_2] rfl (by (try simp only [List.map_toArray, List.map_cons, List.map_nil]); first | done | rfl) ?_; (with_reducible refine (spec_l2Refs.calls kj4 _ _ ((rd_T52 l0 x6_1).f2) t919 _ ?side1 ?side2 A12.out).mono ?_); (case side1 => repeat (first | exact (Kd.C_below HR918_2.out HB.out) | (with_reducible first | refine Ca ?_ _ | refine Cn ?_ _ | refine Cd ?_))); (case side2 => exact HC918_2.out); rintro e w16 ⟨v920, rfl, ho0, hb⟩; refine ⟨_, rfl, ?_⟩; have n0_ := aM (Kd.R_elder' (by (with_reducible repeat (first | apply Ra | apply Rn | apply Rd)); exact HO_5.out) (Kd.R_base ho0) hb); have n1_ := aM (Kd.R_lower (Kd.R_new' ho0 (Kd.R_lt (by (with_reducible repeat (first | apply Ra | apply Rn | apply Rd)); exact HO_5.out))) (below_size (by repeat (with_reducible first | exact HB.out | apply bA | apply bN | apply bD)))); have n2_ := aM (below_step (by repeat (with_reducible first | exact HB.out | apply bA | apply bN | apply bD)) hb); clear HO_5 HB; have HO_5 := n0_; have HO921 := n1_; have HB := n2_; clear n0_ n1_ n2_; (try clear ho0); obtain ⟨Ao17, co17, eo17⟩ := Kd.R_slice HO921.out; subst eo17) | ((with_reducible refine gate_callee (f := 87) rfl ?_); refine goesL_ (some 25) rfl rfl Try.func87 (by kernel_rfl) rfl #[.slice Ao17 t919.length co17, .string a1] rfl (by (try simp only [List.map_toArray, List.map_cons, List.map_nil]); first | done | rfl) ?_; (with_reducible refine (spec_l2Has.calls kj4 _ _ t919 a1 true _ ?side1 ?side2 A13.out).mono ?_); (case side1 => repeat (first | exact (Kd.R_reads' HO921.out).2.2 | (with_reducible first | refine Ca ?_ _ | refine Cn ?_ _ | refine Cd ?_))); (case side2 => exact (Kd.R_reads' HO921.out).2.1); rintro e w' ⟨rfl, ⟨nd, rfl⟩⟩; refine ⟨_, rfl, ?_⟩; have p923 : 0 ≤ (x6_1 : Int) := oD (by first | with_reducible assumption | assumption); have q923 : x6_1 < (l0.length : Int) := oD (by first | with_reducible assumption | assumption); obtain ⟨ad923, A923_2, c923_2, e923, hx923_0, hx923_1, hx923_2, hl923_2, hi923_2⟩ := at_T52 HR0.out x6_1 p923 q923; obtain rfl : ad918 = ad923 := (by injection e923); replace hx923_0 := (HB.out.cell (World.block_lt_of_cell? w _ hx923_0)).trans hx923_0; replace hx923_1 := (HB.out.cell (World.block_lt_of_cell? w _ hx923_1)).trans hx923_1; replace hx923_2 := (HB.out.cell (World.block_lt_of_cell? w _ hx923_2)).trans hx923_2; have HR923_2 := aM hi923_2; have HC923_2 := aM hl923_2; clear hi923_2 hl923_2; replace p923 := eq_true p923; replace q923 := eq_true q923; obtain ⟨Ao18, co18, eo18⟩ := Kd.R_slice HO_5.out; subst eo18) | ((with_reducible refine gate_callee (f := 84) rfl ?_); refine goesL_ (some 32) rfl rfl Try.func84 (by kernel_rfl) rfl #[.slice Ao18 x5_1.length co18, .string ((rd_T52 l0 x6_1).f0)] rfl (by (try simp only [List.map_toArray, List.map_cons, List.map_nil]); first | done | rfl) ?_; (with_reducible refine (spec_l2Put.calls kj4 (fun k_ => some k_ = (.slice Ao18 x5_1.length co18 : Value).ownBlock) (.slice Ao18 x5_1.length co18) x5_1 ((rd_T52 l0 x6_1).f0) t924 w _ ?side1 ?side2 A15.out).mono ?_); (case side1 => repeat (with_reducible first | exact HB.out | apply bA | apply bN | apply bD)); (case side2 => exact Kd.R_tight rfl HO_5.out); rintro e w19 ⟨v925, rfl, ho0, hb, hkp⟩; refine ⟨_, rfl, ?_⟩; have n0_ := aM (Kd.R_mono (ok' := fun k_ => some k_ ≠ (v925 : Value).ownBlock) (Kd.R_keptB (HO921.out) hkp (fun k_ hk_ hs_ => (hk_.2) hs_)) (fun k_ hk_ => fun e_ => Or.elim (ho0.1 k_ e_.symm) (fun hs_ => hk_.2.1 hs_) (fun hn_ => Nat.not_le.2 hk_.2.2 hn_))); have n1_ := aM (Kd.R_mono (ok' := fun k_ => some k_ ≠ (.slice Ao17 t919.length co17 : Value).ownBlock) ho0 (fun k_ hk_ => Or.elim hk_ (fun hs_ => fun e_ => (((HO921.out).1 k_ e_.symm).2) hs_) (fun hn_ => (Kd.fresh' (Kd.R_lt (by (with_reducible repeat (first | apply Ra | apply Rn | apply Rd)); exact HO921.out)) k_ hn_)))); have n2_ := aM (hb); clear HO921 HB HO_5; have HO921 := n0_; have HO926 := n1_; have HB := n2_; clear n0_ n1_ n2_; (try clear hkp); (try clear ho0)))
         go_roundg kj4
         case measure => have := HK1.out; have := HJ4.out; omega
         case rel => exact ⟨(t924), (wrap64 (x6_1 + 1)), (by first | rfl | (simp; done) | (simp [*]; done)), H', ⟨by have := HK1.out; have := HJ4.out; omega⟩, ⟨by (with_reducible repeat (first | apply Ra | apply Rn | apply Rd)); exact Kd.R_mono HO926.out (fun _ hk => trivial)⟩, ⟨by repeat (with_reducible first | exact HB.out | apply bA | apply bN | apply bD)⟩⟩
       replace c14 := Bool.eq_false_iff.mpr c14
       subst c14
       have H1 : (spec_GraphBy.l0 kj4 l0 a1 x5_1 (wrap64 (x6_1 + 1))) = some r := by rw [if_neg (show ¬ (false = true) by decide)] at H; exact H
       clear H
       have H := H1
       clear H1
       have H' := aM H
       clear H
       have p918 : 0 ≤ (x6_1 : Int) := oD (by first | with_reducible assumption | assumption)
       have q918 : x6_1 < (l0.length : Int) := oD (by first | with_reducible assumption | assumption)
       obtain ⟨ad918, A918_2, c918_2, e918, hx918_0, hx918_1, hx918_2, hl918_2, hi918_2⟩ := at_T52 HR0.out x6_1 p918 q918
       cases e918
       replace hx918_0 := (HB.out.cell (World.block_lt_of_cell? w _ hx918_0)).trans hx918_0
       replace hx918_1 := (HB.out.cell (World.block_lt_of_cell? w _ hx918_1)).trans hx918_1
       replace hx918_2 := (HB.out.cell (World.block_lt_of_cell? w _ hx918_2)).trans hx918_2
       have HR918_2 := aM hi918_2; have HC918_2 := aM hl918_2; clear hi918_2 hl918_2; replace p918 := eq_true p918; replace q918 := eq_true q918
       go_wp2_with (first | ((with_reducible refine gate_callee (f := 73) rfl ?_); refine goesL_ (some 23) rfl rfl Try.func73 (by kernel_rfl) rfl #[.slice A918_2 ((rd_T52 l0 x6_1).f2).length c918_2] rfl (by (try simp only [List.map_toArray, List.map_cons, List.map_nil]); first | done | rfl) ?_; (with_reducible refine (spec_l2Refs.calls kj4 _ _ ((rd_T52 l0 x6_1).f2) t919 _ ?side1 ?side2 A12.out).mono ?_); (case side1 => repeat (first | exact (Kd.C_below HR918_2.out HB.out) | (with_reducible first | refine Ca ?_ _ | refine Cn ?_ _ | refine Cd ?_))); (case side2 => exact HC918_2.out); rintro e w20 ⟨v920, rfl, ho0, hb⟩; refine ⟨_, rfl, ?_⟩; have n0_ := aM (Kd.R_elder' (by (with_reducible repeat (first | apply Ra | apply Rn | apply Rd)); exact HO_5.out) (Kd.R_base ho0) hb); have n1_ := aM (Kd.R_lower (Kd.R_new' ho0 (Kd.R_lt (by (with_reducible repeat (first | apply Ra | apply Rn | apply Rd)); exact HO_5.out))) (below_size (by repeat (with_reducible first | exact HB.out | apply bA | apply bN | apply bD)))); have n2_ := aM (below_step (by repeat (with_reducible first | exact HB.out | apply bA | apply bN | apply bD)) hb); clear HO_5 HB; have HO_5 := n0_; have HO921 := n1_; have HB := n2_; clear n0_ n1_ n2_; (try clear ho0); obtain ⟨Ao21, co21, eo21⟩ := Kd.R_slice HO921.out; subst eo21) | ((with_reducible refine gate_callee (f := 87) rfl ?_); refine goesL_ (some 25) rfl rfl Try.func87 (by kernel_rfl) rfl #[.slice Ao21 t919.length co21, .string a1] rfl (by (try simp only [List.map_toArray, List.map_cons, List.map_nil]); first | done | rfl) ?_; (with_reducible refine (spec_l2Has.calls kj4 _ _ t919 a1 false _ ?side1 ?side2 A13.out).mono ?_); (case side1 => repeat (first | exact (Kd.R_reads' HO921.out).2.2 | (with_reducible first | refine Ca ?_ _ | refine Cn ?_ _ | refine Cd ?_))); (case side2 => exact (Kd.R_reads' HO921.out).2.1); rintro e w' ⟨rfl, ⟨nd, rfl⟩⟩; refine ⟨_, rfl, ?_⟩))
       go_roundg kj4
       case measure => have := HK1.out; have := HJ4.out; omega
       case rel => exact ⟨(x5_1), (wrap64 (x6_1 + 1)), (by first | rfl | (simp; done) | (simp [*]; done)), H', ⟨by have := HK1.out; have := HJ4.out; omega⟩, ⟨by (with_reducible repeat (first | apply Ra | apply Rn | apply Rd)); exact Kd.R_mono HO_5.out (fun _ hk => trivial)⟩, ⟨by repeat (with_reducible first | exact HB.out | apply bA | apply bN | apply bD)⟩⟩
     rw [if_neg c11] at H
     exact absurd H (by simp)
   rw [if_neg c10] at H
   exact absurd H (by simp)
 replace c9 := Bool.eq_false_iff.mpr c9
 subst c9
 have H1 : (some x5_1) = some r := by rw [if_neg (show ¬ (false = true) by decide)] at H; exact H
 clear H
 have H := H1
 clear H1
 obtain rfl := Option.some.inj H
 go_wp2
 go_ret
 exact ⟨_, by first | rfl | (simp [*, errW_none, errW_some] <;> rfl), by (with_reducible repeat (first | apply Ra | apply Rn | apply Rd)); exact HO_5.out, by repeat (with_reducible first | exact HB.out | apply bA | apply bN | apply bD)⟩
open Go.Proofs.Ytppmalfpggkpdaa.L in
def impl_GraphBy.f (l0 : List S52) (a1 : ByteArray) : Option (List ByteArray) := if l0.length ≤ 140737488351232 ∧ ∀ x ∈ l0, x.f0.size ≤ 140737488351232 ∧ x.f2.length ≤ 140737488351232 ∧ ∀ y ∈ x.f2, y.f2.size ≤ 140737488351232 then some (byV l0 a1) else none
open Go.Proofs.Ytppmalfpggkpdaa.L in
set_option maxHeartbeats 2000000 in
theorem graphby1_calls (x : S52) (A2 : Option Addr) (c2 : Nat) (W : World) (B : Nat) (name : ByteArray) (hB : W.cell? ⟨B, 0, none⟩ = some (.string name)) (hlt : B < W.heap.size) (h2 : x.f2.length ≤ 10) (hc : x.f2.length ≤ c2) (hi : Kd.C k110 W A2 x.f2.length x.f2) :
    Calls Try.prog 88 #[.agg #[.string x.f0, .bool x.f1, .slice A2 x.f2.length c2], .pointer (some ⟨B, 0, none⟩)] W fun e w' => e = .returned (.bool (hasB (refsV x.f2) name)) ∧ Below W.heap.size W w' := by
  have hu52 := Try.underlying52
  have hrl := refsV_len x.f2
  have HC := aM (fun W1 (hb : Below W.heap.size W W1) => impl_Fun_refs.calls 100 x.f0 x.f1 A2 c2 x.f2 (refsV x.f2) W1 (Kd.C_below hi hb) hc (impl_Fun_refs_f x.f0 x.f1 x.f2 (by omega) 100 (by omega)))
  have HD := aM (slices_Contains_sstring_string_f (refsV x.f2) (by omega) name 100 (by omega))
  clear hi h2 hc hrl
  generalize hasB (refsV x.f2) name = b at *
  generalize refsV x.f2 = ns at *
  go_enter Try.func88, Try.ntmps88
  go_wp2
  go_region_with (first
    | (go_at_call 81; refine (HC.out _ (by repeat (first | (with_reducible exact Below.refl _ _) | apply bA | apply bN | apply bD))).mono ?_; rintro e w1 ⟨v, rfl, ho, hb⟩; have HB := aM (below_step (by repeat (first | (with_reducible exact Below.refl _ _) | apply bA | apply bN | apply bD)) hb : Below W.heap.size W w1); have HO := aM ho; clear hb ho; have hcB : w1.cell? ⟨B, 0, none⟩ = some (.string name) := (HB.out.cell (p := ⟨B, 0, none⟩) hlt).trans hB; obtain ⟨A5, c5, e5⟩ := Kd.R_slice HO.out; subst e5)
    | (go_at_call 89; (refine (slices_Contains_sstring_string.calls 100 A5 c5 ns name b _ ?hC ?hL HD.out).mono ?_); (case hC => repeat (first | exact (Kd.R_reads' HO.out).2.2 | (with_reducible first | refine Ca ?_ _ | refine Cn ?_ _ | refine Cd ?_))); (case hL => exact (Kd.R_reads' HO.out).2.1); rintro e w2 ⟨rfl, ⟨nd, rfl⟩⟩))
  all_goals
    go_wp2
    go_ret
    exact ⟨rfl, by repeat (first | (with_reducible exact HB.out) | apply bA | apply bN | apply bD)⟩
open Go.Proofs.Ytppmalfpggkpdaa.L in
set_option maxHeartbeats 8000000 in
set_option maxRecDepth 100000 in
theorem named_by_calls (A0 : Option Addr) (c0 : Nat) (l0 : List S52) (lb : Array Value) (p : S52 → Bool) (w : World) (hr0 : Kd.C k52 w A0 l0.length l0) (hc0 : l0.length ≤ c0) (hl : l0.length ≤ 140737488351232) (hx : ∀ x ∈ l0, FitF x)
    (hp : keepOkB l0 = true → ∀ (W : World) (x : S52) (A2 : Option Addr) (c2 : Nat), Below w.heap.size w W → x ∈ l0 → x.f2.length ≤ c2 → Kd.C k110 W A2 x.f2.length x.f2 → Calls Try.prog 88 ((#[.agg #[.string x.f0, .bool x.f1, .slice A2 x.f2.length c2]] : Array Value) ++ lb) W fun e w' => e = .returned (.bool (p x)) ∧ Below W.heap.size W w') :
    Calls Try.prog 85 #[.slice A0 l0.length c0, .func (.func 88) #[] lb] w fun e w' => ∃ v0_ : Value, e = .returned (v0_) ∧ Kd.R Kd.string 9 w' w.heap.size (fun _ => True) v0_ (namedV p l0) ∧ Below w.heap.size w w' := by
  have hu52 := Try.underlying52
  have HC0 := aM hc0
  have CK := aM (impl_KeepOk.calls (200000 + l0.length) A0 c0 l0 (keepOkB l0) w hr0 hc0 (impl_KeepOk_f l0 hl hx _ (by omega)))
  have HR0 := aM hr0
  have HN : l0.length ≤ 9223372036854775807 := hr0.2.1
  clear hr0 hc0 hl hx
  cases hk : keepOkB l0 with
  | false =>
    rw [hk] at CK
    have e0 : namedV p l0 = [] := by unfold namedV; rw [hk]; rfl
    rw [e0]
    clear hp e0 hk
    go_enter Try.func85, Try.ntmps85
    go_wp2_with (go_at_call 32; refine CK.out.mono ?_; rintro e w1 ⟨rfl, hb⟩)
    go_ret
    exact ⟨_, rfl, Kd.R_nil _ _ _ _ _, hb⟩
  | true =>
    rw [hk] at CK
    have HPP := aM (hp hk)
    have hbd := (keepOk_bounds hk).1
    have e0 : namedV p l0 = orderedV (namesOf p l0) := by unfold namedV; rw [if_pos hk]
    rw [e0]
    have HBD := aM hbd
    clear hp e0 hk hbd
    go_enter Try.func85, Try.ntmps85
    go_wp2_with (go_at_call 32; refine CK.out.mono ?_; rintro e w1 ⟨rfl, hb⟩; have HB1 := aM hb; clear hb)
    go_loopg [5, 13] l0.length (fun gq v5 v13 wr => ∃ x13 : Int, v13 = .int .i64 x13 ∧ Aside0 (0 ≤ x13) ∧ Aside0 (x13 ≤ l0.length) ∧ Aside0 (l0.length - x13.toNat ≤ gq) ∧ Aside0 (Kd.R Kd.string 9 wr w.heap.size (fun _ => True) v5 (namesOf p (l0.take x13.toNat))) ∧ Aside0 (Below w.heap.size w wr))
    case atStart => exact ⟨0, rfl, ⟨by omega⟩, ⟨by omega⟩, ⟨by omega⟩, ⟨Kd.R_nil _ _ _ _ _⟩, HB1⟩
    case round =>
      obtain ⟨x13, rfl, H0, H1, HG, HO, HB⟩ := hrel
      by_cases hlt : x13 < (l0.length : Int)
      · have h0 := H0.out
        obtain ⟨ad, A2, c2, e, hx0, hx1, hx2, hl2, hi2⟩ := at_T52 HR0.out x13 h0 hlt
        cases e
        replace hx0 := (HB.out.cell (World.block_lt_of_cell? w _ hx0)).trans hx0
        replace hx1 := (HB.out.cell (World.block_lt_of_cell? w _ hx1)).trans hx1
        replace hx2 := (HB.out.cell (World.block_lt_of_cell? w _ hx2)).trans hx2
        have hnat : x13.toNat < l0.length := by omega
        have HM := aM (show rd_T52 l0 x13 ∈ l0 from getD_mem hnat)
        have HNM := aM (namesOf_take p l0 x13.toNat hnat)
        have HLN := aM (show (namesOf p (l0.take x13.toNat)).length ≤ 40 from by have := namesOf_len p (l0.take x13.toNat); have := HBD.out; rw [List.length_take] at *; omega)
        have HL2 := aM hl2
        have HI2 := aM hi2
        have HNT := aM hnat
        have hli : decide (x13 < (l0.length : Int)) = true := decide_eq_true hlt
        have hl0 : decide (0 ≤ x13) = true := decide_eq_true h0
        have p5 := eq_true h0
        have q5 := eq_true hlt
        clear h0 hlt hl2 hi2 hnat
        have hgx : l0.getD x13.toNat z52 = rd_T52 l0 x13 := rfl
        rw [hgx] at HNM
        clear hgx
        generalize rd_T52 l0 x13 = x at hx0 hx1 hx2 HM HNM HL2 HI2
        generalize namesOf p (l0.take x13.toNat) = ns at HO HNM HLN
        obtain ⟨A5, c5, e5⟩ := Kd.R_slice HO.out
        subst e5
        have hw13 : wrap64 (x13 + 1) = x13 + 1 := wrap_id (by have := H0.out; omega) (by have := HNT.out; omega)
        have HW := aM hw13
        clear hw13
        cases hq : p x with
        | true =>
          rw [hq] at HNM
          have HQ := aM hq
          clear hq
          go_wp2_with (first
            | ((with_reducible refine gate_dst (N := 7) rfl ?_); refine box_event ?hg (N := 7) ?hd (cs := #[.string (⟨#[]⟩ : ByteArray), .bool false, .slice none 0 0]) (t := 52) ?hr ?_; (case hd => rfl); (case hg => rfl); (case hr => first | (go_simp; done) | (go_simp; rfl)); intro gb hg w6 hbox hb; have HB6 := aM (below_step HB.out hb); have BK := aM hbox; have GE := aM (show wr.heap.size ≤ gb from by rw [hg]; exact Nat.le_refl _); have GW := aM (show w.heap.size ≤ gb from Nat.le_trans (below_size HB.out) GE.out); have HB7 := aM hb; clear hb hbox hg; have hcz0 : w6.cell? ⟨gb, 0, none⟩ = some (.string (⟨#[]⟩ : ByteArray)) := (blk_cell BK.out 0).trans rfl; have hcz1 : w6.cell? ⟨gb, 1, none⟩ = some (.bool false) := (blk_cell BK.out 1).trans rfl; have hcz2 : w6.cell? ⟨gb, 2, none⟩ = some (.slice none 0 0) := (blk_cell BK.out 2).trans rfl; have hfz0 := blk_frozen BK.out 0; have hfz1 := blk_frozen BK.out 1; have hfz2 := blk_frozen BK.out 2)
            | (go_at_call 88; refine (HPP.out _ x A2 c2 (below_set (below_set (below_set HB6.out GW.out) GW.out) GW.out) HM.out HL2.out (Kd.C_below HI2.out (below_set (below_set (below_set HB6.out GW.out) GW.out) GW.out))).mono ?_; rintro e w8 ⟨he, hb⟩; rw [HQ.out] at he; subst he; have BK8 := aM (blk_below (g := gb) (o := .cells #[.string x.f0, .bool x.f1, .slice A2 x.f2.length c2] 52 (0, 0)) (blk_put (cs := #[.string x.f0, .bool x.f1, .slice none 0 0]) (blk_put (cs := #[.string x.f0, .bool false, .slice none 0 0]) (blk_put (cs := #[.string (⟨#[]⟩ : ByteArray), .bool false, .slice none 0 0]) BK.out 0 _ rfl) 1 _ rfl) 2 _ rfl) hb); have HB8 := aM (below_step (below_set (below_set (below_set HB6.out GW.out) GW.out) GW.out) hb); have HO8 := aM (Kd.R_below HO.out (below_step (below_set (below_set (below_set HB7.out GE.out) GE.out) GE.out) hb)); clear hb HO; have hc80 : w8.cell? ⟨gb, 0, none⟩ = some (.string x.f0) := (blk_cell BK8.out 0).trans rfl)
            | ((with_reducible refine gate_builtin (b := .append) (xs := #[.tmp 20, .tmp 23]) rfl ?_); at_builtin; refine Kd.R_append Kd.string (w0 := w) w.heap.size rfl (.tmp 20) (.tmp 23) 24 9 (.string ⟨#[]⟩) 16 rfl Try.underlying24 info9 rfl (by decide) (by omega) (.slice A5 ns.length c5) ns x.f0 [.string x.f0] (fun _ => True) (fun _ => False) rfl rfl ?aP (fun _ hk => hk.elim) ?aF ?aO ?aB ?aS ?aL ?_; (case aP => exact rfl); (case aB => exact HB8.out); (case aF => exact (fun _ _ => trivial)); (case aO => exact HO8.out); (case aS => exact below_size HB8.out); (case aL => have := HLN.out; omega); intro v9 w9 ho hb hg hat; have HO9 := aM ho; have HB9 := aM hb; clear ho hb hg hat))
          go_roundg (l0.length - (x13.toNat + 1))
          case measure => have := HG.out; have := HNT.out; omega
          case rel =>
            have hn : (x13 + 1).toNat = x13.toNat + 1 := by have := H0.out; omega
            exact ⟨x13 + 1, by rw [HW.out], ⟨by have := H0.out; omega⟩, ⟨by have := HNT.out; omega⟩, ⟨by rw [hn]; omega⟩, ⟨by rw [hn, HNM.out]; exact HO9.out⟩, HB9⟩
        | false =>
          rw [hq] at HNM
          have HQ := aM hq
          clear hq
          go_wp2_with (first
            | ((with_reducible refine gate_dst (N := 7) rfl ?_); refine box_event ?hg (N := 7) ?hd (cs := #[.string (⟨#[]⟩ : ByteArray), .bool false, .slice none 0 0]) (t := 52) ?hr ?_; (case hd => rfl); (case hg => rfl); (case hr => first | (go_simp; done) | (go_simp; rfl)); intro gb hg w6 hbox hb; have HB6 := aM (below_step HB.out hb); have BK := aM hbox; have GE := aM (show wr.heap.size ≤ gb from by rw [hg]; exact Nat.le_refl _); have GW := aM (show w.heap.size ≤ gb from Nat.le_trans (below_size HB.out) GE.out); have HB7 := aM hb; clear hb hbox hg; have hcz0 : w6.cell? ⟨gb, 0, none⟩ = some (.string (⟨#[]⟩ : ByteArray)) := (blk_cell BK.out 0).trans rfl; have hcz1 : w6.cell? ⟨gb, 1, none⟩ = some (.bool false) := (blk_cell BK.out 1).trans rfl; have hcz2 : w6.cell? ⟨gb, 2, none⟩ = some (.slice none 0 0) := (blk_cell BK.out 2).trans rfl; have hfz0 := blk_frozen BK.out 0; have hfz1 := blk_frozen BK.out 1; have hfz2 := blk_frozen BK.out 2)
            | (go_at_call 88; refine (HPP.out _ x A2 c2 (below_set (below_set (below_set HB6.out GW.out) GW.out) GW.out) HM.out HL2.out (Kd.C_below HI2.out (below_set (below_set (below_set HB6.out GW.out) GW.out) GW.out))).mono ?_; rintro e w8 ⟨he, hb⟩; rw [HQ.out] at he; subst he; have BK8 := aM (blk_below (g := gb) (o := .cells #[.string x.f0, .bool x.f1, .slice A2 x.f2.length c2] 52 (0, 0)) (blk_put (cs := #[.string x.f0, .bool x.f1, .slice none 0 0]) (blk_put (cs := #[.string x.f0, .bool false, .slice none 0 0]) (blk_put (cs := #[.string (⟨#[]⟩ : ByteArray), .bool false, .slice none 0 0]) BK.out 0 _ rfl) 1 _ rfl) 2 _ rfl) hb); have HB8 := aM (below_step (below_set (below_set (below_set HB6.out GW.out) GW.out) GW.out) hb); have HO8 := aM (Kd.R_below HO.out (below_step (below_set (below_set (below_set HB7.out GE.out) GE.out) GE.out) hb)); clear hb HO; have hc80 : w8.cell? ⟨gb, 0, none⟩ = some (.string x.f0) := (blk_cell BK8.out 0).trans rfl))
          go_roundg (l0.length - (x13.toNat + 1))
          case measure => have := HG.out; have := HNT.out; omega
          case rel =>
            have hn : (x13 + 1).toNat = x13.toNat + 1 := by have := H0.out; omega
            exact ⟨x13 + 1, by rw [HW.out], ⟨by have := H0.out; omega⟩, ⟨by have := HNT.out; omega⟩, ⟨by rw [hn]; omega⟩, ⟨by rw [hn, HNM.out]; simpa using HO8.out⟩, HB8⟩
      · have hli : decide (x13 < (l0.length : Int)) = false := decide_eq_false hlt
        have e1 : l0.take x13.toNat = l0 := List.take_of_length_le (by omega)
        rw [e1] at HO
        have hlen := namesOf_len p l0
        have HOR := aM (show impl_ordered.f (namesOf p l0) = some (orderedV (namesOf p l0)) from by unfold impl_ordered.f; rw [if_pos (by have := HBD.out; omega)])
        clear e1 hlen hlt
        obtain ⟨ns, hns⟩ : ∃ ns, ns = namesOf p l0 := ⟨_, rfl⟩
        rw [← hns] at HO HOR
        have HNS := aM hns
        clear hns
        obtain ⟨A5, c5, e5⟩ := Kd.R_slice HO.out
        subst e5
        go_wp2_with (go_at_call 118; refine (impl_ordered.calls (fun _ => True) _ ns (orderedV ns) w wr HB.out HO.out HOR.out).mono ?_; rintro e w9 ⟨v9, rfl, ho, hb, hkp⟩; have HO9 := aM ho; have HB9 := aM hb; clear ho hb hkp)
        go_ret
        exact ⟨_, rfl, by rw [← HNS.out]; exact Kd.R_mono HO9.out (fun _ _ => trivial), HB9.out⟩
open Go.Proofs.Ytppmalfpggkpdaa.L in
set_option maxHeartbeats 2000000 in
theorem impl_GraphBy.calls (A0 : Option Addr) (c0 : Nat) (l0 : List S52) (a1 : ByteArray) (r : List ByteArray) (w : World) (hr0 : Kd.C k52 w A0 l0.length l0) (hc0 : l0.length ≤ c0) (h : impl_GraphBy.f l0 a1 = some r) :
    Calls Try.prog 43 #[.slice A0 l0.length c0, .string a1] w fun e w' => ∃ v0_ : Value, e = .returned (v0_) ∧ Kd.R Kd.string 9 w' w.heap.size (fun _ => True) v0_ r ∧ Below w.heap.size w w' := by
 unfold impl_GraphBy.f at h
 split at h
 case isFalse => exact absurd h (by simp)
 rename_i hf
 obtain rfl := Option.some.inj h
 clear h
 have hcell : ∀ W : World, Below (w.alloc (.cells #[.string a1] 9)).heap.size (w.alloc (.cells #[.string a1] 9)) W → W.cell? ⟨w.heap.size, 0, none⟩ = some (.string a1) := fun W hb =>
   (hb.cell (p := ⟨w.heap.size, 0, none⟩) (by simp)).trans ((blk_cell (blk_new w _) 0).trans rfl)
 have H := aM (named_by_calls A0 c0 l0 #[.pointer (some ⟨w.heap.size, 0, none⟩)] (fun x => hasB (refsV x.f2) a1) (w.alloc (.cells #[.string a1] 9)) (Kd.C_below hr0 (below_alloc (Below.refl _ _) _)) hc0 hf.1 hf.2 (fun hk W x A2 c2 hb hm h2 hi => graphby1_calls x A2 c2 W w.heap.size a1 (hcell W hb) (Nat.lt_of_lt_of_le (by simp) hb.size) ((keepOk_bounds hk).2 x hm) h2 hi))
 clear hf hr0 hcell
 go_enter Try.func43, Try.ntmps43
 go_wp2_with (go_at_call 85; refine H.out.mono ?_; rintro e w1 ⟨v, rfl, ho, hb⟩; have HO := aM ho; have HB := aM hb; clear ho hb)
 go_ret
 exact ⟨_, rfl, Kd.R_lower HO.out (below_size (below_alloc (Below.refl _ _) _)), below_then (below_alloc (Below.refl _ _) _) (below_size (below_alloc (Below.refl _ _) _)) HB.out⟩
end Go.Proofs.Ytppmalfpggkpdaa.P
