-- LAllR, LRun, LRefs, PureFnExactFunRefs: put together by squash.py
import Derived.Test.YtchchfncnaeeoaaSqFnExactFunRefs3
import Derived.Test.YtchchfncnaeeoaaSqFnExactFunRefs7
import Derived.Test.YtchchfncnaeeoaaSqFnExactFunRefs5
import Derived.Test.YtchchfncnaeeoaaSqFnExactFunRefs4
import Derived.Test.YtchchfncnaeeoaaSqFnExactFunRefs1
import Derived.Test.YtchchfncnaeeoaaSqFnExactFunRefs2
import Derived.Test.YtchchfncnaeeoaaSqFnExactFunRefs6

/- What the comparisons compute: two lists alike, place by place. -/
namespace Go.Proofs.Ytchchfncnaeeoaa.L
open Go.RowKit Go.Proofs.YtchchfncnaeeoaaW.PrintWords Go.Proofs.YtchchfncnaeeoaaW.PrintLast Go.Proofs.YtchchfncnaeeoaaW.PrintMore Go.Proofs.Ytchchfncnaeeoaa.P
set_option linter.unusedVariables false
set_option linter.unusedSimpArgs false

def insSame (x y : S32) : Bool := (x.f0 == y.f0) && ((x.f1 == y.f1) && (x.f2.toList == y.f2.toList))
theorem insSame_not (x y : S32) : (!(x.f0 == y.f0) || (!(x.f1 == y.f1) || (!(x.f2.toList == y.f2.toList)))) = !insSame x y := by
  simp only [insSame, Bool.not_and]
def funSame (x y : S25) : Bool := (x.f0.toList == y.f0.toList) && ((x.f1 == y.f1) && all2 insSame x.f2 y.f2)
def unitSame (l m : List S25) : Bool := all2 funSame l m
def strSame (a b : ByteArray) : Bool := a.toList == b.toList
def intSame (a b : Int) : Bool := a == b
def laySame (a : List Int) (b : List (List ByteArray)) (c : List Int) (d : List (List ByteArray)) : Bool := all2 intSame a c && all2 (all2 strSame) b d
theorem insSame_refl (x : S32) : insSame x x = true := by simp [insSame]
theorem funSame_refl (x : S25) : funSame x x = true := by simp [funSame, all2_refl insSame _ (fun y _ => insSame_refl y)]
theorem unitSame_refl (l : List S25) : unitSame l l = true := all2_refl _ _ (fun x _ => funSame_refl x)
theorem strSame_refl (a : ByteArray) : strSame a a = true := by simp [strSame]
theorem intSame_refl (a : Int) : intSame a a = true := by simp [intSame]
theorem insSame_comm (x y : S32) : insSame x y = insSame y x := by
  simp only [insSame, Bool.beq_comm (a := x.f0), Bool.beq_comm (a := x.f1), Bool.beq_comm (a := x.f2.toList)]
theorem slices_Equal_simpl_Ins_impl_Ins_f (l m : List S32) (hn : l.length ≤ 9223372036854775807) (k : Nat) (hk : l.length < k) : slices_Equal_simpl_Ins_impl_Ins.f k l m = some (all2 insSame l m) := by
  unfold slices_Equal_simpl_Ins_impl_Ins.f
  by_cases hl : l.length = m.length
  · rw [if_pos (by omega)]
    refine loop_all2 insSame z32 z32 l m hl hn (fun k i => slices_Equal_simpl_Ins_impl_Ins.l0 k l m (l.length : Int) i) 0 ?_ ?_ ?_ k (by omega)
    · intro k i hK hi hq
      have hi' : i < m.length := by omega
      simp only [slices_Equal_simpl_Ins_impl_Ins.l0]
      rw [if_pos (by omega), if_pos (by omega), if_pos (by omega), if_pos (by omega)]
      have e := insSame_not (rd_T32 l (i : Int)) (rd_T32 m (i : Int))
      rw [show insSame (rd_T32 l (i : Int)) (rd_T32 m (i : Int)) = true from hq] at e
      rw [e, if_neg (by decide)]
    · intro k i hK hi hq
      have hi' : i < m.length := by omega
      simp only [slices_Equal_simpl_Ins_impl_Ins.l0]
      rw [if_pos (by omega), if_pos (by omega), if_pos (by omega), if_pos (by omega)]
      have e := insSame_not (rd_T32 l (i : Int)) (rd_T32 m (i : Int))
      rw [show insSame (rd_T32 l (i : Int)) (rd_T32 m (i : Int)) = false from hq] at e
      rw [e, if_pos (by decide)]
    · intro k hK
      simp only [slices_Equal_simpl_Ins_impl_Ins.l0]
      rw [if_neg (by omega)]
  · rw [if_neg (by omega), all2_len _ _ _ hl]
theorem spec_l2Body_f (l m : List S32) (hn : l.length ≤ 9223372036854775807) (k : Nat) (hk : l.length < k) : spec_l2Body.f k l m = some (all2 insSame l m) := by
  unfold spec_l2Body.f
  by_cases hl : l.length = m.length
  · rw [if_pos (by omega)]
    refine loop_all2 insSame z32 z32 l m hl hn (fun k i => spec_l2Body.l0 k l m i) 0 ?_ ?_ ?_ k (by omega)
    · intro k i hK hi hq
      have hi' : i < m.length := by omega
      simp only [spec_l2Body.l0]
      rw [if_pos (by omega), if_pos (by omega), if_pos (by omega)]
      have e := insSame_not (rd_T32 l (i : Int)) (rd_T32 m (i : Int))
      rw [show insSame (rd_T32 l (i : Int)) (rd_T32 m (i : Int)) = true from hq] at e
      rw [e, if_neg (by decide)]
    · intro k i hK hi hq
      have hi' : i < m.length := by omega
      simp only [spec_l2Body.l0]
      rw [if_pos (by omega), if_pos (by omega), if_pos (by omega)]
      have e := insSame_not (rd_T32 l (i : Int)) (rd_T32 m (i : Int))
      rw [show insSame (rd_T32 l (i : Int)) (rd_T32 m (i : Int)) = false from hq] at e
      rw [e, if_pos (by decide)]
    · intro k hK
      simp only [spec_l2Body.l0]
      rw [if_neg (by omega)]
  · rw [if_neg (by omega), all2_len _ _ _ hl]
theorem laws_eqStringS_f (l m : List ByteArray) (hn : l.length ≤ 9223372036854775807) (k : Nat) (hk : l.length < k) : laws_eqStringS.f k l m = some (all2 strSame l m) := by
  unfold laws_eqStringS.f
  by_cases hl : l.length = m.length
  · rw [if_pos (by omega)]
    refine loop_all2 strSame ByteArray.empty ByteArray.empty l m hl hn (fun k i => laws_eqStringS.l0 k l m i) 0 ?_ ?_ ?_ k (by omega)
    · intro k i hK hi hq
      have hi' : i < m.length := by omega
      simp only [laws_eqStringS.l0]
      rw [if_pos (by omega), if_pos (by omega), if_pos (by omega)]
      rw [if_pos (show (rdOf ByteArray.empty l (i : Int)).toList = (rdOf ByteArray.empty m (i : Int)).toList from beq_iff_eq.mp hq)]
    · intro k i hK hi hq
      have hi' : i < m.length := by omega
      simp only [laws_eqStringS.l0]
      rw [if_pos (by omega), if_pos (by omega), if_pos (by omega)]
      rw [if_neg (show ¬ ((rdOf ByteArray.empty l (i : Int)).toList = (rdOf ByteArray.empty m (i : Int)).toList) from beq_eq_false_iff_ne.mp hq)]
    · intro k hK
      simp only [laws_eqStringS.l0]
      rw [if_neg (by omega)]
  · rw [if_neg (by omega), all2_len _ _ _ hl]
end Go.Proofs.Ytchchfncnaeeoaa.L
namespace Go.Proofs.Ytchchfncnaeeoaa.L
open Go.RowKit Go.Proofs.YtchchfncnaeeoaaW.PrintWords Go.Proofs.YtchchfncnaeeoaaW.PrintLast Go.Proofs.YtchchfncnaeeoaaW.PrintMore Go.Proofs.Ytchchfncnaeeoaa.P
set_option linter.unusedVariables false
set_option linter.unusedSimpArgs false

/-- What is left of a bound behind a list. -/
def szL {α : Type} (g : α → Int → Int) (l : List α) (s : Int) : Int := if s < l.length then -1 else szFold g l (s - l.length)
theorem szL_le {α : Type} (g : α → Int → Int) (h : ∀ x s, 0 ≤ s → -1 ≤ g x s ∧ g x s ≤ s) (l : List α) (s : Int) (hs : 0 ≤ s) : -1 ≤ szL g l s ∧ szL g l s ≤ s := by
  unfold szL
  split
  · omega
  · have := szFold_le g h l (s - l.length) (by omega)
    omega
/-- What is left behind a text. -/
def szS (a : ByteArray) (s : Int) : Int := if s < a.size then -1 else s - a.size
theorem szS_le (a : ByteArray) (s : Int) (hs : 0 ≤ s) : -1 ≤ szS a s ∧ szS a s ≤ s := by
  unfold szS
  split <;> omega
/-- How far a text may go. -/
abbrev Fits (s : ByteArray) : Prop := s.size ≤ 140737488351232
theorem szS_wrap (a : ByteArray) (s : Int) (ha : Fits a) (h0 : 0 ≤ s) (h1 : s ≤ 1048576) : (if (wrap64 (s - (a.size : Int))) < 0 then (-1 : Int) else (wrap64 (s - (a.size : Int)))) = szS a s := by
  rw [wrap_id (by omega) (by omega)]
  unfold szS
  by_cases h : s < a.size
  · rw [if_pos (by omega), if_pos h]
  · rw [if_neg (by omega), if_neg h]
theorem len_wrap {s : Int} {n : Nat} (hn : n ≤ 140737488351232) (h0 : 0 ≤ s) (h1 : s ≤ 1048576) : wrap64 (s - (n : Int)) = s - n := wrap_id (by omega) (by omega)
def gIns (x : S91) (s : Int) : Int := szS x.f2 s
theorem gIns_le (x : S91) (s : Int) (h : 0 ≤ s) : -1 ≤ gIns x s ∧ gIns x s ≤ s := szS_le _ _ h
def FitsIns (x : S91) : Prop := Fits x.f2
theorem laws_szIns_g (x : S91) (hx : FitsIns x) (s : Int) (h0 : 0 ≤ s) (h1 : s ≤ 1048576) : laws_szIns.f x.f0 x.f1 x.f2 s = some (gIns x s) := by
  unfold laws_szIns.f gIns
  rw [← szS_wrap x.f2 s hx h0 h1]
  split <;> rfl
theorem laws_szInsS_f (l : List S91) (hn : l.length ≤ 140737488351232) (hx : ∀ x ∈ l, FitsIns x) (s : Int) (h0 : 0 ≤ s) (h1 : s ≤ 1048576) (k : Nat) (hk : l.length < k) : laws_szInsS.f k l s = some (szL gIns l s) := by
  unfold laws_szInsS.f szL
  rw [len_wrap hn h0 h1]
  by_cases h : s < l.length
  · rw [if_pos (by omega), if_pos h]
  · rw [if_neg (by omega), if_neg h]
    refine loop_sz l z91 gIns gIns_le (by omega) (fun k s i => laws_szInsS.l0 k l s i) 0 ?_ ?_ (s - l.length) (by omega) (by omega) k (by omega)
    · intro k i s _ hi h0 h1
      simp only [laws_szInsS.l0]
      rw [if_pos (by omega), if_pos (by omega), laws_szIns_g (rd_T91 l (i : Int)) (hx _ (getD_mem hi)) s h0 h1]
      rfl
    · intro k s _
      simp only [laws_szInsS.l0]
      rw [if_neg (by omega)]
def gFun (x : S36) (s : Int) : Int := if szS x.f0 s < 0 then -1 else szL gIns x.f2 (szS x.f0 s)
theorem gFun_le (x : S36) (s : Int) (h : 0 ≤ s) : -1 ≤ gFun x s ∧ gFun x s ≤ s := by
  unfold gFun
  have := szS_le x.f0 s h
  split
  · omega
  · have := szL_le gIns gIns_le x.f2 (szS x.f0 s) (by omega)
    omega
def FitsFun (x : S36) : Prop := Fits x.f0 ∧ x.f2.length ≤ 140737488351232 ∧ ∀ y ∈ x.f2, FitsIns y
theorem laws_szFun_g (x : S36) (hx : FitsFun x) (s : Int) (h0 : 0 ≤ s) (h1 : s ≤ 1048576) (k : Nat) (hk : x.f2.length < k) : laws_szFun.f k x.f0 x.f1 x.f2 s = some (gFun x s) := by
  unfold laws_szFun.f gFun
  have e := szS_wrap x.f0 s hx.1 h0 h1
  have hb := szS_le x.f0 s h0
  have hs := hx.1
  have w : wrap64 (s - (x.f0.size : Int)) = s - x.f0.size := wrap_id (by have : x.f0.size ≤ 140737488351232 := hs; omega) (by omega)
  rw [w] at e ⊢
  by_cases h : s - (x.f0.size : Int) < 0
  · rw [if_pos h] at e ⊢
    rw [← e, if_pos (by omega)]
  · rw [if_neg h] at e ⊢
    rw [← e, if_neg h, laws_szInsS_f x.f2 hx.2.1 hx.2.2 _ (by omega) (by omega) k hk]
    simp only [Option.bind_some]
    have := szL_le gIns gIns_le x.f2 (s - x.f0.size) (by omega)
    split
    · congr 1; omega
    · rfl
def cvIns (x : S91) : S32 := ⟨x.f0, x.f1, x.f2⟩
theorem laws_toIns_c (x : S91) : laws_toIns.f x.f0 x.f1 x.f2 = some (x.f0, x.f1, x.f2) := rfl
theorem laws_toInsS_f (l : List S91) (hn : l.length ≤ 8796093022208) (k : Nat) (hk : l.length < k) : laws_toInsS.f k l = some (l.map cvIns) := by
  unfold laws_toInsS.f
  rw [if_pos (by omega), if_pos (by omega)]
  refine loop_fill l z91 z32 cvIns (by omega) (fun k acc i => laws_toInsS.l0 k l acc i) 0 ?_ ?_ k (by omega)
  · intro k i acc hK hi ha
    simp only [laws_toInsS.l0]
    rw [if_pos (by omega), if_pos (by omega), laws_toIns_c (rd_T91 l (i : Int))]
    simp only [Option.bind_some]
    rw [if_pos (by omega)]
    rfl
  · intro k acc _
    simp only [laws_toInsS.l0]
    rw [if_neg (by omega)]
def cvFun (x : S36) : S25 := ⟨x.f0, x.f1, x.f2.map cvIns⟩
theorem laws_toFun_c (x : S36) (hn : x.f2.length ≤ 8796093022208) (k : Nat) (hk : x.f2.length < k) : laws_toFun.f k x.f0 x.f1 x.f2 = some (x.f0, x.f1, x.f2.map cvIns) := by
  unfold laws_toFun.f
  rw [laws_toInsS_f x.f2 hn k hk]
  rfl
theorem laws_eqIns_f (x y : S32) : laws_eqIns.f x.f0 x.f1 x.f2 y.f0 y.f1 y.f2 = some (insSame x y) := by
  unfold laws_eqIns.f insSame
  by_cases h0 : x.f0 = y.f0
  · rw [if_pos h0, beq_iff_eq.mpr h0]
    by_cases h1 : x.f1 = y.f1
    · rw [if_pos h1, beq_iff_eq.mpr h1]
      by_cases h2 : x.f2.toList = y.f2.toList
      · rw [if_pos h2, beq_iff_eq.mpr h2]; rfl
      · rw [if_neg h2, beq_eq_false_iff_ne.mpr h2]; rfl
    · rw [if_neg h1, beq_eq_false_iff_ne.mpr h1]; rfl
  · rw [if_neg h0, beq_eq_false_iff_ne.mpr h0]; rfl
theorem laws_eqInsS_f (l m : List S32) (hn : l.length ≤ 9223372036854775807) (k : Nat) (hk : l.length < k) : laws_eqInsS.f k l m = some (all2 insSame l m) := by
  unfold laws_eqInsS.f
  by_cases hl : l.length = m.length
  · rw [if_pos (by omega)]
    refine loop_all2 insSame z32 z32 l m hl hn (fun k i => laws_eqInsS.l0 k l m i) 0 ?_ ?_ ?_ k (by omega)
    · intro k i hK hi hq
      have hi' : i < m.length := by omega
      simp only [laws_eqInsS.l0]
      rw [if_pos (by omega), if_pos (by omega), if_pos (by omega)]
      have e := laws_eqIns_f (rd_T32 l (i : Int)) (rd_T32 m (i : Int))
      rw [show insSame (rd_T32 l (i : Int)) (rd_T32 m (i : Int)) = true from hq] at e
      rw [e]
      rfl
    · intro k i hK hi hq
      have hi' : i < m.length := by omega
      simp only [laws_eqInsS.l0]
      rw [if_pos (by omega), if_pos (by omega), if_pos (by omega)]
      have e := laws_eqIns_f (rd_T32 l (i : Int)) (rd_T32 m (i : Int))
      rw [show insSame (rd_T32 l (i : Int)) (rd_T32 m (i : Int)) = false from hq] at e
      rw [e]
      rfl
    · intro k hK
      simp only [laws_eqInsS.l0]
      rw [if_neg (by omega)]
  · rw [if_neg (by omega), all2_len _ _ _ hl]
theorem laws_eqFun_f (x y : S25) (hn : x.f2.length ≤ 9223372036854775807) (k : Nat) (hk : x.f2.length < k) : laws_eqFun.f k x.f0 x.f1 x.f2 y.f0 y.f1 y.f2 = some (funSame x y) := by
  unfold laws_eqFun.f
  rw [laws_eqInsS_f x.f2 y.f2 hn k hk]
  by_cases h : x.f0.toList = y.f0.toList
  · rw [if_pos h]
    cases h2 : (x.f1 == y.f1) with
    | true =>
      rw [if_neg (by simp only [bne, h2]; decide)]
      cases h3 : all2 insSame x.f2 y.f2 <;> simp [funSame, h, h2, h3]
    | false =>
      rw [if_pos (by simp only [bne, h2]; decide)]
      simp [funSame, h, h2]
  · rw [if_neg h]
    simp [funSame, beq_eq_false_iff_ne.mpr h]
end Go.Proofs.Ytchchfncnaeeoaa.L
namespace Go.Proofs.Ytchchfncnaeeoaa.L
open Go.RowKit Go.Proofs.YtchchfncnaeeoaaW.PrintWords Go.Proofs.YtchchfncnaeeoaaW.PrintLast Go.Proofs.YtchchfncnaeeoaaW.PrintMore Go.Proofs.Ytchchfncnaeeoaa.P
set_option linter.unusedVariables false
set_option linter.unusedSimpArgs false
theorem ok_fits {x : S36} (h : Ok36 x) : FitsFun x := ⟨h.1, by have := h.2.2.1; omega, fun y hy => (h.2.2.2 y hy).2.2⟩
theorem ok_len {x : S36} (h : Ok36 x) : x.f2.length ≤ 4398046511104 := by have := h.2.2.1; omega
theorem a_szFun {x : S36} (h : Ok36 x) (s : Int) (h0 : 0 ≤ s) (h1 : s ≤ 1048576) (k : Nat) (hk : 10000000000000000 ≤ k) : laws_szFun.f k x.f0 x.f1 x.f2 s = some (gFun x s) :=
  laws_szFun_g x (ok_fits h) s h0 h1 k (by have := ok_len h; omega)
theorem a_toFun {x : S36} (h : Ok36 x) (k : Nat) (hk : 10000000000000000 ≤ k) : laws_toFun.f k x.f0 x.f1 x.f2 = some (x.f0, x.f1, x.f2.map cvIns) :=
  laws_toFun_c x (by have := ok_len h; omega) k (by have := ok_len h; omega)
theorem a_eqFun {x : S36} (h : Ok36 x) (k : Nat) (hk : 10000000000000000 ≤ k) : laws_eqFun.f k x.f0 x.f1 (x.f2.map cvIns) x.f0 x.f1 (x.f2.map cvIns) = some true := by
  have e := laws_eqFun_f (cvFun x) (cvFun x) (by simp only [cvFun, List.length_map]; have := ok_len h; omega) k (by simp only [cvFun, List.length_map]; have := ok_len h; omega)
  rw [funSame_refl] at e
  exact e
end Go.Proofs.Ytchchfncnaeeoaa.L
namespace Go.Proofs.Ytchchfncnaeeoaa.L
open Go.RowKit Go.Proofs.YtchchfncnaeeoaaW.PrintWords Go.Proofs.YtchchfncnaeeoaaW.PrintLast Go.Proofs.YtchchfncnaeeoaaW.PrintMore Go.Proofs.Ytchchfncnaeeoaa.P
theorem fit_cv {x : S36} (h : Ok36 x) : FitF (cvFun x) := by
  refine ⟨h.1, ?_, fun y hy => ?_⟩
  · simp only [cvFun, List.length_map]
    have := ok_len h
    omega
  · obtain ⟨z, hz, rfl⟩ := List.mem_map.1 hy
    exact (h.2.2.2 z hz).2.2
end Go.Proofs.Ytchchfncnaeeoaa.L

/- Loops over a list with a state, told once. -/
namespace Go.Proofs.Ytchchfncnaeeoaa.L
open Go.RowKit Go.Proofs.YtchchfncnaeeoaaW.PrintWords Go.Proofs.YtchchfncnaeeoaaW.PrintLast Go.Proofs.YtchchfncnaeeoaaW.PrintMore Go.Proofs.Ytchchfncnaeeoaa.P
set_option linter.unusedVariables false
set_option linter.unusedSimpArgs false
/-- A walk over a list with a state, that may end early. -/
def runS {α σ β : Type} (f : Nat → α → σ → σ ⊕ β) (E : σ → β) : List α → Nat → σ → β
  | [], _, s => E s
  | x :: l, i, s => match f i x s with
    | .inl s' => runS f E l (i + 1) s'
    | .inr r => r
theorem loop_run {α σ β : Type} (f : Nat → α → σ → σ ⊕ β) (E : Nat → σ → β) (I : Nat → σ → Prop) (d : α) (l : List α) (hn : l.length ≤ 9223372036854775806) (L : Nat → σ → Int → β) (K : Nat)
    (hS : ∀ (k i : Nat) (s : σ), K ≤ k → i < l.length → I i s → L (k + 1) s (i : Int) = match f i (l.getD i d) s with | .inl s' => L k s' (wrap64 ((i : Int) + 1)) | .inr r => r)
    (hI : ∀ (i : Nat) (s s' : σ), i < l.length → I i s → f i (l.getD i d) s = .inl s' → I (i + 1) s')
    (hE : ∀ (k : Nat) (s : σ), K ≤ k → I l.length s → L (k + 1) s (l.length : Int) = E k s) (k : Nat) (hk : K + l.length < k) (s : σ) (h0 : I 0 s) : L k s 0 = runS f (E (k - l.length - 1)) l 0 s := by
  have key : ∀ (n k i : Nat) (s : σ), i + n = l.length → K + n < k → I i s → L k s (i : Int) = runS f (E (k - n - 1)) (l.drop i) i s := by
    intro n
    induction n with
    | zero =>
      intro k i s hi hk hs
      obtain ⟨k, rfl, _⟩ := succ_of hk
      have : i = l.length := by omega
      subst this
      rw [hE k s (by omega) hs, List.drop_length]
      rfl
    | succ n ih =>
      intro k i s hi hk hs
      obtain ⟨k, rfl, _⟩ := succ_of hk
      rw [hS k i s (by omega) (by omega) hs, drop_getD l d i (by omega)]
      simp only [runS]
      cases hf : f i (l.getD i d) s with
      | inr r => rfl
      | inl s' =>
        simp only
        rw [wrap_id (by omega) (by omega)]
        have h2 := ih k (i + 1) s' (by omega) (by omega) (hI i s s' (by omega) hs hf)
        rw [show k + 1 - (n + 1) - 1 = k - n - 1 by omega, ← h2]
        rfl
  have h := key l.length k 0 s (by omega) hk h0
  simpa using h
/-- A loop with a property of its state: it ends, and what it gives has another property. -/
theorem loop_inv {σ β : Type} (I : Nat → σ → Prop) (Q : β → Prop) (n : Nat) (hn : n ≤ 9223372036854775806) (L : Nat → σ → Int → Option β) (K : Nat)
    (hS : ∀ (k i : Nat) (s : σ), K ≤ k → i < n → I i s → (∃ s', I (i + 1) s' ∧ L (k + 1) s (i : Int) = L k s' (wrap64 ((i : Int) + 1))) ∨ ∃ r, L (k + 1) s (i : Int) = some r ∧ Q r)
    (hE : ∀ (k : Nat) (s : σ), K ≤ k → I n s → ∃ r, L (k + 1) s (n : Int) = some r ∧ Q r) (k : Nat) (hk : K + n < k) (s : σ) (h0 : I 0 s) : ∃ r, L k s 0 = some r ∧ Q r := by
  have key : ∀ (m k i : Nat) (s : σ), i + m = n → K + m < k → I i s → ∃ r, L k s (i : Int) = some r ∧ Q r := by
    intro m
    induction m with
    | zero =>
      intro k i s hi hk hs
      obtain ⟨k, rfl, _⟩ := succ_of hk
      have : i = n := by omega
      subst this
      exact hE k s (by omega) hs
    | succ m ih =>
      intro k i s hi hk hs
      obtain ⟨k, rfl, _⟩ := succ_of hk
      rcases hS k i s (by omega) (by omega) hs with ⟨s', h1, h2⟩ | h
      · rw [h2, wrap_id (by omega) (by omega)]
        exact ih k (i + 1) s' (by omega) (by omega) h1
      · exact h
  exact key n k 0 s (by omega) hk h0
end Go.Proofs.Ytchchfncnaeeoaa.L

/- The names in a function; marks in texts. -/
namespace Go.Proofs.Ytchchfncnaeeoaa.L
open Go.RowKit Go.Proofs.YtchchfncnaeeoaaW.PrintWords Go.Proofs.YtchchfncnaeeoaaW.PrintLast Go.Proofs.YtchchfncnaeeoaaW.PrintMore Go.Proofs.Ytchchfncnaeeoaa.P
set_option linter.unusedVariables false
set_option linter.unusedSimpArgs false
def hasB (l : List ByteArray) (a : ByteArray) : Bool := l.any fun x => x.toList == a.toList
def refsAdd (x : S32) (s : List ByteArray) : List ByteArray := if refersB x.f0 && !hasB s x.f2 then s ++ [x.f2] else s
def refsV (l : List S32) : List ByteArray := l.foldl (fun s x => refsAdd x s) []
theorem refsAdd_len (x : S32) (s : List ByteArray) : (refsAdd x s).length ≤ s.length + 1 := by
  unfold refsAdd
  split
  · simp
  · omega
theorem foldl_len : ∀ (l : List S32) (s : List ByteArray), (l.foldl (fun s x => refsAdd x s) s).length ≤ s.length + l.length
  | [], s => by simp
  | x :: l, s => by
    have := foldl_len l (refsAdd x s)
    have := refsAdd_len x s
    simp only [List.foldl, List.length_cons]
    omega
theorem refsV_len (l : List S32) : (refsV l).length ≤ l.length := by
  have := foldl_len l []
  simpa [refsV] using this
theorem runS_fold {β : Type} (E : List ByteArray → β) : ∀ (l : List S32) (i : Nat) (s : List ByteArray), runS (fun _ x s => (.inl (refsAdd x s) : List ByteArray ⊕ β)) E l i s = E (l.foldl (fun s x => refsAdd x s) s)
  | [], _, _ => rfl
  | x :: l, i, s => runS_fold E l (i + 1) (refsAdd x s)
theorem slices_Contains_sstring_string_f (l : List ByteArray) (hn : l.length ≤ 9223372036854775807) (a : ByteArray) (k : Nat) (hk : l.length < k) : slices_Contains_sstring_string.f k l a = some (hasB l a) := by
  unfold slices_Contains_sstring_string.f slices_Index_sstring_string.f
  have h : slices_Index_sstring_string.l0 k l a (l.length : Int) 0 = some (idxFrom (fun x => x.toList == a.toList) l 0) := by
    refine loop_idx (fun x => x.toList == a.toList) ByteArray.empty l hn (fun k i => slices_Index_sstring_string.l0 k l a (l.length : Int) i) 0 ?_ ?_ ?_ k (by omega)
    · intro k i _ hi hq
      simp only [slices_Index_sstring_string.l0]
      rw [if_pos (by omega), if_pos (by omega), if_pos (by omega), if_pos (show a.toList = (rdOf ByteArray.empty l (i : Int)).toList from (beq_iff_eq.mp hq).symm)]
    · intro k i _ hi hq
      simp only [slices_Index_sstring_string.l0]
      rw [if_pos (by omega), if_pos (by omega), if_pos (by omega), if_neg (show ¬ a.toList = (rdOf ByteArray.empty l (i : Int)).toList from fun e => beq_eq_false_iff_ne.mp hq e.symm)]
    · intro k _
      simp only [slices_Index_sstring_string.l0]
      rw [if_neg (by omega)]
  rw [h]
  simp only [Option.bind_some, hasB]
  rw [← idxFrom_any _ l 0 (by decide)]
theorem spec_l2Has_f (l : List ByteArray) (hn : l.length ≤ 9223372036854775806) (a : ByteArray) (k : Nat) (hk : l.length < k) : spec_l2Has.f k l a = some (hasB l a) := by
  have e : ∀ (l' : List ByteArray) (i : Nat), runS (fun _ x (_ : Unit) => if x.toList = a.toList then (.inr (some true) : Unit ⊕ Option Bool) else .inl ()) (fun _ => some false) l' i () = some (hasB l' a) := by
    intro l'
    induction l' with
    | nil => intro i; rfl
    | cons x l' ih =>
      intro i
      simp only [runS, hasB, List.any_cons]
      by_cases h : x.toList = a.toList
      · rw [if_pos h, beq_iff_eq.mpr h]; rfl
      · rw [if_neg h, beq_eq_false_iff_ne.mpr h]
        exact ih (i + 1)
  unfold spec_l2Has.f
  refine (loop_run (fun _ x (_ : Unit) => if x.toList = a.toList then (.inr (some true) : Unit ⊕ Option Bool) else .inl ()) (fun _ _ => some false) (fun _ _ => True) ByteArray.empty l hn (fun k _ i => spec_l2Has.l0 k l a i) 0 ?_ (fun _ _ _ _ _ _ => trivial) ?_ k (by omega) () trivial).trans (e l 0)
  · intro k i s _ hi _
    simp only [spec_l2Has.l0]
    rw [if_pos (by omega), if_pos (by omega)]
    show (if (l.getD i ByteArray.empty).toList = a.toList then _ else _) = _
    split <;> rfl
  · intro k s _ _
    simp only [spec_l2Has.l0]
    rw [if_neg (by omega)]
theorem impl_Fun_refs_f (a : ByteArray) (b : Bool) (l : List S32) (hn : l.length ≤ 8796093022207) (k : Nat) (hk : 2 * l.length + 5 < k) : impl_Fun_refs.f k a b l = some (refsV l) := by
  unfold impl_Fun_refs.f
  refine (loop_run (fun _ x s => (.inl (refsAdd x s) : List ByteArray ⊕ Option (List ByteArray))) (fun _ s => some s) (fun i s => s.length ≤ i) z32 l (by omega) (fun k s i => impl_Fun_refs.l0 k s l (l.length : Int) i) (l.length + 1) ?_ ?_ ?_ k (by omega) [] (by simp)).trans (runS_fold _ l 0 [])
  · intro k i s hK hi hs
    simp only [impl_Fun_refs.l0]
    rw [if_pos (by omega), if_pos (by omega), if_pos (by omega), impl_InsRefs_f (rd_T32 l (i : Int)).f0 _ _]
    simp only [Option.bind_some]
    rw [slices_Contains_sstring_string_f s (by omega) _ k (by omega)]
    simp only [Option.bind_some]
    show (if refersB (l.getD i z32).f0 = true then (if hasB s (l.getD i z32).f2 = true then _ else (if s.length < 8796093022208 then impl_Fun_refs.l0 k (s ++ [(l.getD i z32).f2]) l (l.length : Int) (wrap64 ((i : Int) + 1)) else none)) else _) = impl_Fun_refs.l0 k (refsAdd (l.getD i z32) s) l (l.length : Int) (wrap64 ((i : Int) + 1))
    rw [if_pos (show s.length < 8796093022208 by omega)]
    unfold refsAdd
    cases refersB (l.getD i z32).f0 <;> cases hasB s (l.getD i z32).f2 <;> rfl
  · intro i s s' hi hs he
    have := refsAdd_len (l.getD i z32) s
    cases he
    omega
  · intro k s _ _
    simp only [impl_Fun_refs.l0]
    rw [if_neg (by omega)]
theorem spec_l2Refs_f (l : List S32) (hn : l.length ≤ 8796093022207) (k : Nat) (hk : 2 * l.length + 5 < k) : spec_l2Refs.f k l = some (refsV l) := by
  unfold spec_l2Refs.f
  refine (loop_run (fun _ x s => (.inl (refsAdd x s) : List ByteArray ⊕ Option (List ByteArray))) (fun _ s => some s) (fun i s => s.length ≤ i) z32 l (by omega) (fun k s i => spec_l2Refs.l0 k l s i) (l.length + 1) ?_ ?_ ?_ k (by omega) [] (by simp)).trans (runS_fold _ l 0 [])
  · intro k i s hK hi hs
    simp only [spec_l2Refs.l0]
    rw [if_pos (by omega), if_pos (by omega), spec_InsRefs_f (rd_T32 l (i : Int)).f0 _ _]
    simp only [Option.bind_some]
    rw [spec_l2Has_f s (by omega) _ k (by omega)]
    simp only [Option.bind_some]
    show (if refersB (l.getD i z32).f0 = true then (if hasB s (l.getD i z32).f2 = true then _ else (if s.length < 8796093022208 then spec_l2Refs.l0 k l (s ++ [(l.getD i z32).f2]) (wrap64 ((i : Int) + 1)) else none)) else _) = spec_l2Refs.l0 k l (refsAdd (l.getD i z32) s) (wrap64 ((i : Int) + 1))
    rw [if_pos (show s.length < 8796093022208 by omega)]
    unfold refsAdd
    cases refersB (l.getD i z32).f0 <;> cases hasB s (l.getD i z32).f2 <;> rfl
  · intro i s s' hi hs he
    have := refsAdd_len (l.getD i z32) s
    cases he
    omega
  · intro k s _ _
    simp only [spec_l2Refs.l0]
    rw [if_neg (by omega)]
def funRefsV (x : S25) : List ByteArray := if funOkB x.f0 x.f2 = true then refsV x.f2 else []
theorem funRefsV_len (x : S25) : (funRefsV x).length ≤ 10 := by
  unfold funRefsV
  split
  · rename_i h
    have := funOkB_len h
    have := refsV_len x.f2
    omega
  · simp
theorem impl_FunRefs_f (x : S25) (hx : FitF x) (k : Nat) (hk : 100 < k) : impl_FunRefs.f k x.f0 x.f1 x.f2 = some (funRefsV x) := by
  unfold impl_FunRefs.f funRefsV
  rw [impl_FunOk_f x hx]
  simp only [Option.bind_some]
  by_cases h : funOkB x.f0 x.f2 = true
  · have := funOkB_len h
    rw [if_pos h, if_pos h, impl_Fun_refs_f x.f0 x.f1 x.f2 (by omega) k (by omega)]
    rfl
  · rw [if_neg h, if_neg h]
theorem spec_FunRefs_f (x : S25) (hx : FitF x) (k : Nat) (hk : 500000000000000 < k) : spec_FunRefs.f k x.f0 x.f1 x.f2 = some (funRefsV x) := by
  unfold spec_FunRefs.f funRefsV
  rw [spec_FunOk_f x hx k (by have := hx.2.1; omega)]
  simp only [Option.bind_some]
  by_cases h : funOkB x.f0 x.f2 = true
  · have := funOkB_len h
    rw [if_pos h, if_pos h, spec_l2Refs_f x.f2 (by omega) k (by omega)]
    rfl
  · rw [if_neg h, if_neg h]
theorem markText_l0 : ∀ (k : Nat) (n : Int) (s : ByteArray), n < 10 ^ k → n ≤ 4611686018427387904 → s.size + k ≤ 1000000 → ∃ r, laws_markText.l0 (k + 1) n s = some r
  | 0, n, s, hn, _, hs => by
    have h0 : n < 1 := by simpa using hn
    simp only [laws_markText.l0]
    rw [if_neg (by omega), if_pos (by omega)]
    exact ⟨_, rfl⟩
  | k + 1, n, s, hn, hm, hs => by
    by_cases h : n > 0
    · have hd : Int.tdiv n 10 = n / 10 := Int.tdiv_eq_ediv_of_nonneg (by omega)
      have hp : (10 : Int) ^ (k + 1) = 10 * 10 ^ k := by rw [Int.pow_succ, Int.mul_comm]
      rw [hp] at hn
      unfold laws_markText.l0
      simp only [Option.bind_some]
      rw [if_pos h, strOfNums_size, if_pos (by simp only [List.length_cons, List.length_nil]; omega), hd, wrap_id (by omega) (by omega)]
      exact markText_l0 k (n / 10) _ (by generalize (10 : Int) ^ k = q at hn ⊢; omega) (by omega) (by rw [ByteArray.size_append, strOfNums_size]; simp only [List.length_cons, List.length_nil]; omega)
    · unfold laws_markText.l0
      rw [if_neg h, if_pos (by omega)]
      exact ⟨_, rfl⟩
/-- The text of a mark. -/
def markB (n : Int) : ByteArray := (laws_markText.f 30 n).getD ByteArray.empty
theorem markText_f (n : Int) (hn : n ≤ 1000000000000000000) (k : Nat) (hk : 30 ≤ k) : laws_markText.f k n = some (markB n) := by
  have h30 : laws_markText.f 30 n = some (markB n) := by
    have : ∃ r, laws_markText.f 30 n = some r := by
      unfold laws_markText.f
      split
      · exact ⟨_, rfl⟩
      · exact markText_l0 29 n _ (by omega) (by omega) (by decide)
    obtain ⟨r, hr⟩ := this
    rw [hr, show markB n = r by unfold markB; rw [hr]; rfl]
  obtain ⟨j, rfl⟩ : ∃ j, k = 30 + j := ⟨k - 30, by omega⟩
  clear hk
  induction j with
  | zero => exact h30
  | succ j ih => exact laws_markText.mono n (30 + j) _ ih
theorem getD_set {α : Type} (l : List α) (i j : Nat) (a d : α) (hi : i < l.length) : (l.set i a).getD j d = if j = i then a else l.getD j d := by
  simp only [List.getD_eq_getElem?_getD, List.getElem?_set]
  by_cases h : i = j
  · subst h; simp [hi]
  · rw [if_neg h, if_neg (fun e => h e.symm)]
/-- Is a list marked from 1 on? -/
def Marked (l : List ByteArray) : Prop := ∀ j, j < l.length → l.getD j ByteArray.empty = markB (1 + j)
theorem markStringS_f (l : List ByteArray) (hn : l.length ≤ 1000000000000000) (k : Nat) (hk : 30 + l.length < k) : ∃ r, laws_markStringS.f k l 1 = some r ∧ (r.1 = 1 + (l.length : Int) ∧ r.2.length = l.length ∧ Marked r.2) := by
  unfold laws_markStringS.f
  refine loop_inv (fun i (s : List ByteArray × Int) => s.1.length = l.length ∧ s.2 = 1 + i ∧ ∀ j, j < i → s.1.getD j ByteArray.empty = markB (1 + j)) (fun r => r.1 = 1 + (l.length : Int) ∧ r.2.length = l.length ∧ Marked r.2) l.length (by omega) (fun k s i => laws_markStringS.l0 k s.1 s.2 i) 30 ?_ ?_ k hk (l, 1) ⟨rfl, rfl, fun j hj => absurd hj (by omega)⟩
  · intro k i s hK hi ⟨h1, h2, h3⟩
    refine .inl ⟨(s.1.set i (markB s.2), wrap64 (s.2 + 1)), ⟨by rw [List.length_set]; exact h1, by rw [h2, wrap_id (by omega) (by omega)]; push_cast; omega, ?_⟩, ?_⟩
    · intro j hj
      simp only
      rw [getD_set _ _ _ _ _ (by omega)]
      by_cases e : j = i
      · subst e; rw [if_pos rfl, h2]
      · rw [if_neg e]; exact h3 j (by omega)
    · simp only [laws_markStringS.l0]
      rw [if_pos (by omega), markText_f s.2 (by omega) k hK]
      simp only [Option.bind_some]
      rw [if_pos (by omega)]
      rfl
  · intro k s _ ⟨h1, h2, h3⟩
    simp only [laws_markStringS.l0]
    rw [if_neg (by omega)]
    exact ⟨_, rfl, h2, h1, fun j hj => h3 j (Nat.lt_of_lt_of_eq hj h1)⟩
theorem heldStringS_f (l : List ByteArray) (hn : l.length ≤ 1000000000000000) (hl : Marked l) (k : Nat) (hk : 30 + l.length < k) : laws_heldStringS.f k l 1 = some (1 + (l.length : Int)) := by
  unfold laws_heldStringS.f
  have h : ∃ r, laws_heldStringS.l0 k l 1 0 = some r ∧ r = 1 + (l.length : Int) := by
    refine loop_inv (fun i (s : Int) => s = 1 + i) (fun r => r = 1 + (l.length : Int)) l.length (by omega) (fun k s i => laws_heldStringS.l0 k l s i) 30 ?_ ?_ k hk 1 (by simp)
    · intro k i s hK hi hs
      refine .inl ⟨wrap64 (s + 1), by rw [hs, wrap_id (by omega) (by omega)]; push_cast; omega, ?_⟩
      simp only [laws_heldStringS.l0]
      rw [if_pos (by omega), if_pos (by omega), markText_f s (by omega) k hK]
      simp only [Option.bind_some]
      rw [if_pos (show (rdOf ByteArray.empty l (i : Int)).toList = (markB s).toList from (by rw [← show l.getD i ByteArray.empty = rdOf ByteArray.empty l (i : Int) from rfl, hl i hi, hs]))]
    · intro k s _ hs
      simp only [laws_heldStringS.l0]
      rw [if_neg (by omega)]
      exact ⟨_, rfl, hs⟩
  obtain ⟨r, h1, h2⟩ := h
  rw [h1, h2]
theorem markInsS_f (l : List S32) (hn : l.length ≤ 100000000000000) (k : Nat) (hk : 30 + l.length < k) : ∃ r, laws_markInsS.f k l 1 = some r ∧ 0 ≤ r.1 := by
  unfold laws_markInsS.f
  refine loop_inv (fun i (s : List S32 × Int) => s.1.length = l.length ∧ s.2 = 1 + 3 * i) (fun r => 0 ≤ r.1) l.length (by omega) (fun k s i => laws_markInsS.l0 k s.1 s.2 i) 30 ?_ ?_ k hk (l, 1) ⟨rfl, by simp⟩
  · intro k i s hK hi ⟨h1, h2⟩
    have w1 : wrap64 (s.2 + 1) = s.2 + 1 := wrap_id (by omega) (by omega)
    have w2 : wrap64 (s.2 + 1 + 1) = s.2 + 1 + 1 := wrap_id (by omega) (by omega)
    have w3 : wrap64 (s.2 + 1 + 1 + 1) = s.2 + 1 + 1 + 1 := wrap_id (by omega) (by omega)
    have hx : ∃ l' : List S32, laws_markInsS.l0 (k + 1) s.1 s.2 (i : Int) = laws_markInsS.l0 k l' (s.2 + 1 + 1 + 1) (wrap64 ((i : Int) + 1)) ∧ l'.length = l.length := by
      apply Exists.intro
      apply And.intro
      · simp only [laws_markInsS.l0]
        rw [if_pos (by omega), if_pos (by omega)]
        simp only [Option.bind_some, w1, w2, w3]
        rw [markText_f _ (by omega) k hK]
        simp only [Option.bind_some]
        rfl
      · simp only [List.length_set]; exact h1
    obtain ⟨l', e1, e2⟩ := hx
    exact .inl ⟨(l', s.2 + 1 + 1 + 1), ⟨e2, by simp only [h2]; push_cast; omega⟩, e1⟩
  · intro k s _ ⟨h1, h2⟩
    simp only [laws_markInsS.l0]
    rw [if_neg (by omega)]
    exact ⟨_, rfl, by simp only [h2]; omega⟩
theorem markFun_f (x : S25) (hn : x.f2.length ≤ 100000000000000) (k : Nat) (hk : 30 + x.f2.length < k) : ∃ r, laws_markFun.f k x.f0 x.f1 x.f2 1 = some r ∧ 0 ≤ r.1 := by
  obtain ⟨r, h1, h2⟩ := markInsS_f x.f2 hn k hk
  unfold laws_markFun.f
  rw [h1]
  exact ⟨_, rfl, h2⟩
end Go.Proofs.Ytchchfncnaeeoaa.L

/- The program's FunRefs returns what the reference's returns, for all arguments. -/
namespace Go.Proofs.Ytchchfncnaeeoaa.Pure
open Go.RowKit Go.Proofs.Ytchchfncnaeeoaa.P Go.Proofs.Ytchchfncnaeeoaa.L Go.Proofs.YtchchfncnaeeoaaW.PrintWords
set_option linter.unusedVariables false
theorem all2_str (l : List ByteArray) : all2 strSame l l = true := all2_refl _ _ (fun x _ => beq_self_eq_true _)
theorem FnExactFunRefs : laws_FnExactFunRefs.Pure := by
  intro x h_x
  obtain ⟨K, hK⟩ : ∃ K : Nat, 100000000000000000 ≤ K := ⟨_, Nat.le_refl _⟩
  refine ⟨K + 12, ?_⟩
  unfold laws_FnExactFunRefs.f
  rw [a_szFun h_x 1048576 (by decide) (by decide) _ (by omega)]
  simp only [Option.bind_some]
  by_cases c_x : gFun x 1048576 < 0
  · rw [if_pos c_x]
  rw [if_neg c_x]
  have e1 : ∀ k, 10000000000000000 ≤ k → spec_FunRefs.f k x.f0 x.f1 (x.f2.map cvIns) = some (funRefsV (cvFun x)) := fun k hk => spec_FunRefs_f (cvFun x) (fit_cv h_x) k (by omega)
  have e2 : ∀ k, 10000000000000000 ≤ k → impl_FunRefs.f k x.f0 x.f1 (x.f2.map cvIns) = some (funRefsV (cvFun x)) := fun k hk => impl_FunRefs_f (cvFun x) (fit_cv h_x) k (by omega)
  have hl := funRefsV_len (cvFun x)
  have e3 : ∀ k, 10000000000000000 ≤ k → laws_eqStringS.f k (funRefsV (cvFun x)) (funRefsV (cvFun x)) = some true := fun k hk => by rw [laws_eqStringS_f _ _ (by omega) k (by omega), all2_str]
  have e4 : ∃ r, laws_markFun.f (K + 9) x.f0 x.f1 (x.f2.map cvIns) 1 = some r ∧ 0 ≤ r.1 := markFun_f (cvFun x) (by simp only [cvFun, List.length_map]; have := ok_len h_x; omega) _ (by simp only [cvFun, List.length_map]; have := ok_len h_x; omega)
  obtain ⟨r4, e4, c4⟩ := e4
  obtain ⟨r5, e5, c5, c6, c7⟩ := markStringS_f (funRefsV (cvFun x)) (by omega) (K + 7) (by omega)
  have e6 : ∀ k, 10000000000000000 ≤ k → laws_heldStringS.f k r5.2 1 = some (1 + (r5.2.length : Int)) := fun k hk => heldStringS_f r5.2 (by omega) c7 k (by omega)
  simp only [laws_FnExactFunRefs.j0]
  rw [a_toFun h_x _ (by omega)]
  simp only [Option.bind_some]
  rw [e1 _ (by omega), e2 _ (by omega)]
  simp only [Option.bind_some]
  rw [e3 _ (by omega)]
  simp only [Option.bind_some, if_true, laws_FnExactFunRefs.j1]
  rw [a_toFun h_x _ (by omega)]
  simp only [Option.bind_some]
  rw [a_eqFun h_x _ (by omega)]
  simp only [Option.bind_some, if_true, laws_FnExactFunRefs.j2]
  rw [e4]
  simp only [Option.bind_some]
  rw [if_neg (by omega), e3 _ (by omega)]
  simp only [Option.bind_some, laws_FnExactFunRefs.j3]
  rw [if_neg (by decide)]
  simp only [laws_FnExactFunRefs.j4]
  rw [e5]
  simp only [Option.bind_some]
  rw [e6 _ (by omega)]
  simp only [Option.bind_some]
  rw [if_neg (by omega)]
  simp only [laws_FnExactFunRefs.j5]
  rw [if_pos (by omega)]
  simp only [laws_FnExactFunRefs.j6]
  rw [a_toFun h_x _ (by omega)]
  simp only [Option.bind_some]
  rw [e2 _ (by omega)]
  simp only [Option.bind_some]
  rw [e3 _ (by omega)]
  simp only [Option.bind_some, if_true, laws_FnExactFunRefs.j7]
  rw [e6 _ (by omega)]
  simp only [Option.bind_some]
  rw [if_neg (by omega), if_pos (by omega)]
end Go.Proofs.Ytchchfncnaeeoaa.Pure
