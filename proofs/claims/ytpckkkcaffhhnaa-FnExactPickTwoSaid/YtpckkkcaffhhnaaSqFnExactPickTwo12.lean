-- LAllF, PureFnExactPickTwo: put together by squash.py
import Derived.Test.YtpckkkcaffhhnaaSqFnExactPickTwo3
import Derived.Test.YtpckkkcaffhhnaaSqFnExactPickTwo7
import Derived.Test.YtpckkkcaffhhnaaSqFnExactPickTwo10
import Derived.Test.YtpckkkcaffhhnaaSqFnExactPickTwo5
import Derived.Test.YtpckkkcaffhhnaaSqFnExactPickTwo9
import Derived.Test.YtpckkkcaffhhnaaSqFnExactPickTwo11
import Derived.Test.YtpckkkcaffhhnaaSqFnExactPickTwo8

/- What the comparisons compute: two lists alike, place by place. -/
namespace Go.Proofs.Ytpckkkcaffhhnaa.L
open Go.RowKit Go.Proofs.YtpckkkcaffhhnaaW.PrintWords Go.Proofs.YtpckkkcaffhhnaaW.PrintLast Go.Proofs.YtpckkkcaffhhnaaW.PrintMore Go.Proofs.Ytpckkkcaffhhnaa.P
set_option linter.unusedVariables false
set_option linter.unusedSimpArgs false

def insSame (x y : S38) : Bool := (x.f0 == y.f0) && ((x.f1 == y.f1) && (x.f2.toList == y.f2.toList))
theorem insSame_not (x y : S38) : (!(x.f0 == y.f0) || (!(x.f1 == y.f1) || (!(x.f2.toList == y.f2.toList)))) = !insSame x y := by
  simp only [insSame, Bool.not_and]
def funSame (x y : S30) : Bool := (x.f0.toList == y.f0.toList) && ((x.f1 == y.f1) && all2 insSame x.f2 y.f2)
def unitSame (l m : List S30) : Bool := all2 funSame l m
def strSame (a b : ByteArray) : Bool := a.toList == b.toList
def intSame (a b : Int) : Bool := a == b
def laySame (a : List Int) (b : List (List ByteArray)) (c : List Int) (d : List (List ByteArray)) : Bool := all2 intSame a c && all2 (all2 strSame) b d
theorem insSame_refl (x : S38) : insSame x x = true := by simp [insSame]
theorem funSame_refl (x : S30) : funSame x x = true := by simp [funSame, all2_refl insSame _ (fun y _ => insSame_refl y)]
theorem unitSame_refl (l : List S30) : unitSame l l = true := all2_refl _ _ (fun x _ => funSame_refl x)
theorem strSame_refl (a : ByteArray) : strSame a a = true := by simp [strSame]
theorem intSame_refl (a : Int) : intSame a a = true := by simp [intSame]
theorem insSame_comm (x y : S38) : insSame x y = insSame y x := by
  simp only [insSame, Bool.beq_comm (a := x.f0), Bool.beq_comm (a := x.f1), Bool.beq_comm (a := x.f2.toList)]
theorem slices_Equal_simpl_Ins_impl_Ins_f (l m : List S38) (hn : l.length ≤ 9223372036854775807) (k : Nat) (hk : l.length < k) : slices_Equal_simpl_Ins_impl_Ins.f k l m = some (all2 insSame l m) := by
  unfold slices_Equal_simpl_Ins_impl_Ins.f
  by_cases hl : l.length = m.length
  · rw [if_pos (by omega)]
    refine loop_all2 insSame z38 z38 l m hl hn (fun k i => slices_Equal_simpl_Ins_impl_Ins.l0 k l m (l.length : Int) i) 0 ?_ ?_ ?_ k (by omega)
    · intro k i hK hi hq
      have hi' : i < m.length := by omega
      simp only [slices_Equal_simpl_Ins_impl_Ins.l0]
      rw [if_pos (by omega), if_pos (by omega), if_pos (by omega), if_pos (by omega)]
      have e := insSame_not (rd_T38 l (i : Int)) (rd_T38 m (i : Int))
      rw [show insSame (rd_T38 l (i : Int)) (rd_T38 m (i : Int)) = true from hq] at e
      rw [e, if_neg (by decide)]
    · intro k i hK hi hq
      have hi' : i < m.length := by omega
      simp only [slices_Equal_simpl_Ins_impl_Ins.l0]
      rw [if_pos (by omega), if_pos (by omega), if_pos (by omega), if_pos (by omega)]
      have e := insSame_not (rd_T38 l (i : Int)) (rd_T38 m (i : Int))
      rw [show insSame (rd_T38 l (i : Int)) (rd_T38 m (i : Int)) = false from hq] at e
      rw [e, if_pos (by decide)]
    · intro k hK
      simp only [slices_Equal_simpl_Ins_impl_Ins.l0]
      rw [if_neg (by omega)]
  · rw [if_neg (by omega), all2_len _ _ _ hl]
theorem spec_l2Body_f (l m : List S38) (hn : l.length ≤ 9223372036854775807) (k : Nat) (hk : l.length < k) : spec_l2Body.f k l m = some (all2 insSame l m) := by
  unfold spec_l2Body.f
  by_cases hl : l.length = m.length
  · rw [if_pos (by omega)]
    refine loop_all2 insSame z38 z38 l m hl hn (fun k i => spec_l2Body.l0 k l m i) 0 ?_ ?_ ?_ k (by omega)
    · intro k i hK hi hq
      have hi' : i < m.length := by omega
      simp only [spec_l2Body.l0]
      rw [if_pos (by omega), if_pos (by omega), if_pos (by omega)]
      have e := insSame_not (rd_T38 l (i : Int)) (rd_T38 m (i : Int))
      rw [show insSame (rd_T38 l (i : Int)) (rd_T38 m (i : Int)) = true from hq] at e
      rw [e, if_neg (by decide)]
    · intro k i hK hi hq
      have hi' : i < m.length := by omega
      simp only [spec_l2Body.l0]
      rw [if_pos (by omega), if_pos (by omega), if_pos (by omega)]
      have e := insSame_not (rd_T38 l (i : Int)) (rd_T38 m (i : Int))
      rw [show insSame (rd_T38 l (i : Int)) (rd_T38 m (i : Int)) = false from hq] at e
      rw [e, if_pos (by decide)]
    · intro k hK
      simp only [spec_l2Body.l0]
      rw [if_neg (by omega)]
  · rw [if_neg (by omega), all2_len _ _ _ hl]
theorem impl_FunSame_f (x y : S30) (hn : x.f2.length ≤ 9223372036854775807) (k : Nat) (hk : x.f2.length < k) : impl_FunSame.f k x.f0 x.f1 x.f2 y.f0 y.f1 y.f2 = some (funSame x y) := by
  unfold impl_FunSame.f
  rw [slices_Equal_simpl_Ins_impl_Ins_f x.f2 y.f2 hn k hk]
  by_cases h : x.f0.toList = y.f0.toList
  · rw [if_pos h]
    by_cases h2 : (x.f1 == y.f1) = true
    · rw [if_pos h2]
      simp [funSame, h, h2]
    · rw [if_neg h2]
      simp [funSame, h, Bool.eq_false_iff.mpr h2]
  · rw [if_neg h]
    simp [funSame, beq_eq_false_iff_ne.mpr h]
theorem spec_FunSame_f (x y : S30) (hn : x.f2.length ≤ 9223372036854775807) (k : Nat) (hk : x.f2.length < k) : spec_FunSame.f k x.f0 x.f1 x.f2 y.f0 y.f1 y.f2 = some (funSame x y) := by
  unfold spec_FunSame.f
  rw [spec_l2Body_f x.f2 y.f2 hn k hk]
  by_cases h : x.f0.toList = y.f0.toList
  · rw [if_pos h]
    by_cases h2 : (x.f1 == y.f1) = true
    · rw [if_pos h2]
      simp [funSame, h, h2]
    · rw [if_neg h2]
      simp [funSame, h, Bool.eq_false_iff.mpr h2]
  · rw [if_neg h]
    simp [funSame, beq_eq_false_iff_ne.mpr h]
theorem spec_UnitSame_f (l m : List S30) (hn : l.length ≤ 9223372036854775807) (B : Nat) (hB : B ≤ 9223372036854775807) (hb : ∀ x ∈ l, x.f2.length < B) (k : Nat) (hk : B + l.length < k) : spec_UnitSame.f k l m = some (all2 funSame l m) := by
  unfold spec_UnitSame.f
  by_cases hl : l.length = m.length
  · rw [if_pos (by omega)]
    refine loop_all2 funSame z30 z30 l m hl hn (fun k i => spec_UnitSame.l0 k l m i) B ?_ ?_ ?_ k (by omega)
    · intro k i hK hi hq
      have hi' : i < m.length := by omega
      simp only [spec_UnitSame.l0]
      rw [if_pos (by omega), if_pos (by omega), if_pos (by omega)]
      have e := spec_FunSame_f (rd_T30 l (i : Int)) (rd_T30 m (i : Int)) (by have := hb _ (getD_mem (d := z30) hi); have e0 : rd_T30 l (i : Int) = l.getD i z30 := rfl; rw [e0]; omega) k (by have := hb _ (getD_mem (d := z30) hi); have e0 : rd_T30 l (i : Int) = l.getD i z30 := rfl; rw [e0]; omega)
      rw [show funSame (rd_T30 l (i : Int)) (rd_T30 m (i : Int)) = true from hq] at e
      rw [e]
      rfl
    · intro k i hK hi hq
      have hi' : i < m.length := by omega
      simp only [spec_UnitSame.l0]
      rw [if_pos (by omega), if_pos (by omega), if_pos (by omega)]
      have e := spec_FunSame_f (rd_T30 l (i : Int)) (rd_T30 m (i : Int)) (by have := hb _ (getD_mem (d := z30) hi); have e0 : rd_T30 l (i : Int) = l.getD i z30 := rfl; rw [e0]; omega) k (by have := hb _ (getD_mem (d := z30) hi); have e0 : rd_T30 l (i : Int) = l.getD i z30 := rfl; rw [e0]; omega)
      rw [show funSame (rd_T30 l (i : Int)) (rd_T30 m (i : Int)) = false from hq] at e
      rw [e]
      rfl
    · intro k hK
      simp only [spec_UnitSame.l0]
      rw [if_neg (by omega)]
  · rw [if_neg (by omega), all2_len _ _ _ hl]
theorem spec_UnitSame_u (l m : List S30) (hn : l.length ≤ 9223372036854775807) (B : Nat) (hB : B ≤ 9223372036854775807) (hb : ∀ x ∈ l, x.f2.length < B) (k : Nat) (hk : B + l.length < k) : spec_UnitSame.f k l m = some (unitSame l m) := spec_UnitSame_f l m hn B hB hb k hk
theorem spec_PickSame_f (l m : List (List S30)) (hn : l.length ≤ 9223372036854775807) (B C : Nat) (hB : B ≤ 9223372036854775807) (hC : C ≤ 9223372036854775807) (hb : ∀ u ∈ l, B + u.length < C ∧ ∀ x ∈ u, x.f2.length < B) (k : Nat) (hk : C + l.length < k) : spec_PickSame.f k l m = some (all2 unitSame l m) := by
  unfold spec_PickSame.f
  by_cases hl : l.length = m.length
  · rw [if_pos (by omega)]
    refine loop_all2 unitSame [] [] l m hl hn (fun k i => spec_PickSame.l0 k l m i) C ?_ ?_ ?_ k (by omega)
    · intro k i hK hi hq
      have hi' : i < m.length := by omega
      simp only [spec_PickSame.l0]
      rw [if_pos (by omega), if_pos (by omega), if_pos (by omega)]
      have e := spec_UnitSame_u (rd_L13 l (i : Int)) (rd_L13 m (i : Int)) (by have := (hb _ (getD_mem (d := []) hi)).1; have e0 : rd_L13 l (i : Int) = l.getD i [] := rfl; rw [e0]; omega) B hB (by have := (hb _ (getD_mem (d := []) hi)).2; exact this) k (by have := (hb _ (getD_mem (d := []) hi)).1; have e0 : rd_L13 l (i : Int) = l.getD i [] := rfl; rw [e0]; omega)
      rw [show unitSame (rd_L13 l (i : Int)) (rd_L13 m (i : Int)) = true from hq] at e
      rw [e]
      rfl
    · intro k i hK hi hq
      have hi' : i < m.length := by omega
      simp only [spec_PickSame.l0]
      rw [if_pos (by omega), if_pos (by omega), if_pos (by omega)]
      have e := spec_UnitSame_u (rd_L13 l (i : Int)) (rd_L13 m (i : Int)) (by have := (hb _ (getD_mem (d := []) hi)).1; have e0 : rd_L13 l (i : Int) = l.getD i [] := rfl; rw [e0]; omega) B hB (by have := (hb _ (getD_mem (d := []) hi)).2; exact this) k (by have := (hb _ (getD_mem (d := []) hi)).1; have e0 : rd_L13 l (i : Int) = l.getD i [] := rfl; rw [e0]; omega)
      rw [show unitSame (rd_L13 l (i : Int)) (rd_L13 m (i : Int)) = false from hq] at e
      rw [e]
      rfl
    · intro k hK
      simp only [spec_PickSame.l0]
      rw [if_neg (by omega)]
  · rw [if_neg (by omega), all2_len _ _ _ hl]
end Go.Proofs.Ytpckkkcaffhhnaa.L
namespace Go.Proofs.Ytpckkkcaffhhnaa.L
open Go.RowKit Go.Proofs.YtpckkkcaffhhnaaW.PrintWords Go.Proofs.YtpckkkcaffhhnaaW.PrintLast Go.Proofs.YtpckkkcaffhhnaaW.PrintMore Go.Proofs.Ytpckkkcaffhhnaa.P
set_option linter.unusedVariables false
set_option linter.unusedSimpArgs false

/-- What is left of a bound behind a list. -/
def szL {α : Type} (g : α → Int → Int) (l : List α) (s : Int) : Int := if s < l.length then -1 else szFold g l (s - l.length)
theorem szL_le {α : Type} (g : α → Int → Int) (h : ∀ x s, 0 ≤ s → -1 ≤ g x s ∧ g x s ≤ s) (l : List α) (s : Int) (hs : 0 ≤ s) : -1 ≤ szL g l s ∧ szL g l s ≤ s := by
  unfold szL
  split
  · omega
  · have := szFold_le g h l (s - l.length) (by omega)
    omega
/-- What is left behind a text. -/
def szS (a : ByteArray) (s : Int) : Int := if s < a.size then -1 else s - a.size
theorem szS_le (a : ByteArray) (s : Int) (hs : 0 ≤ s) : -1 ≤ szS a s ∧ szS a s ≤ s := by
  unfold szS
  split <;> omega
/-- How far a text may go. -/
abbrev Fits (s : ByteArray) : Prop := s.size ≤ 140737488351232
theorem szS_wrap (a : ByteArray) (s : Int) (ha : Fits a) (h0 : 0 ≤ s) (h1 : s ≤ 1048576) : (if (wrap64 (s - (a.size : Int))) < 0 then (-1 : Int) else (wrap64 (s - (a.size : Int)))) = szS a s := by
  rw [wrap_id (by omega) (by omega)]
  unfold szS
  by_cases h : s < a.size
  · rw [if_pos (by omega), if_pos h]
  · rw [if_neg (by omega), if_neg h]
theorem len_wrap {s : Int} {n : Nat} (hn : n ≤ 140737488351232) (h0 : 0 ≤ s) (h1 : s ≤ 1048576) : wrap64 (s - (n : Int)) = s - n := wrap_id (by omega) (by omega)
def gIns (x : S158) (s : Int) : Int := szS x.f2 s
theorem gIns_le (x : S158) (s : Int) (h : 0 ≤ s) : -1 ≤ gIns x s ∧ gIns x s ≤ s := szS_le _ _ h
def FitsIns (x : S158) : Prop := Fits x.f2
theorem laws_szIns_g (x : S158) (hx : FitsIns x) (s : Int) (h0 : 0 ≤ s) (h1 : s ≤ 1048576) : laws_szIns.f x.f0 x.f1 x.f2 s = some (gIns x s) := by
  unfold laws_szIns.f gIns
  rw [← szS_wrap x.f2 s hx h0 h1]
  split <;> rfl
theorem laws_szInsS_f (l : List S158) (hn : l.length ≤ 140737488351232) (hx : ∀ x ∈ l, FitsIns x) (s : Int) (h0 : 0 ≤ s) (h1 : s ≤ 1048576) (k : Nat) (hk : l.length < k) : laws_szInsS.f k l s = some (szL gIns l s) := by
  unfold laws_szInsS.f szL
  rw [len_wrap hn h0 h1]
  by_cases h : s < l.length
  · rw [if_pos (by omega), if_pos h]
  · rw [if_neg (by omega), if_neg h]
    refine loop_sz l z158 gIns gIns_le (by omega) (fun k s i => laws_szInsS.l0 k l s i) 0 ?_ ?_ (s - l.length) (by omega) (by omega) k (by omega)
    · intro k i s _ hi h0 h1
      simp only [laws_szInsS.l0]
      rw [if_pos (by omega), if_pos (by omega), laws_szIns_g (rd_T158 l (i : Int)) (hx _ (getD_mem hi)) s h0 h1]
      rfl
    · intro k s _
      simp only [laws_szInsS.l0]
      rw [if_neg (by omega)]
def gFun (x : S134) (s : Int) : Int := if szS x.f0 s < 0 then -1 else szL gIns x.f2 (szS x.f0 s)
theorem gFun_le (x : S134) (s : Int) (h : 0 ≤ s) : -1 ≤ gFun x s ∧ gFun x s ≤ s := by
  unfold gFun
  have := szS_le x.f0 s h
  split
  · omega
  · have := szL_le gIns gIns_le x.f2 (szS x.f0 s) (by omega)
    omega
def FitsFun (x : S134) : Prop := Fits x.f0 ∧ x.f2.length ≤ 140737488351232 ∧ ∀ y ∈ x.f2, FitsIns y
theorem laws_szFun_g (x : S134) (hx : FitsFun x) (s : Int) (h0 : 0 ≤ s) (h1 : s ≤ 1048576) (k : Nat) (hk : x.f2.length < k) : laws_szFun.f k x.f0 x.f1 x.f2 s = some (gFun x s) := by
  unfold laws_szFun.f gFun
  have e := szS_wrap x.f0 s hx.1 h0 h1
  have hb := szS_le x.f0 s h0
  have hs := hx.1
  have w : wrap64 (s - (x.f0.size : Int)) = s - x.f0.size := wrap_id (by have : x.f0.size ≤ 140737488351232 := hs; omega) (by omega)
  rw [w] at e ⊢
  by_cases h : s - (x.f0.size : Int) < 0
  · rw [if_pos h] at e ⊢
    rw [← e, if_pos (by omega)]
  · rw [if_neg h] at e ⊢
    rw [← e, if_neg h, laws_szInsS_f x.f2 hx.2.1 hx.2.2 _ (by omega) (by omega) k hk]
    simp only [Option.bind_some]
    have := szL_le gIns gIns_le x.f2 (s - x.f0.size) (by omega)
    split
    · congr 1; omega
    · rfl
theorem laws_szFunS_f (l : List S134) (hn : l.length ≤ 140737488351232) (hx : ∀ x ∈ l, FitsFun x) (B : Nat) (hB : ∀ x ∈ l, x.f2.length < B) (s : Int) (h0 : 0 ≤ s) (h1 : s ≤ 1048576) (k : Nat) (hk : B + l.length < k) : laws_szFunS.f k l s = some (szL gFun l s) := by
  unfold laws_szFunS.f szL
  rw [len_wrap hn h0 h1]
  by_cases h : s < l.length
  · rw [if_pos (by omega), if_pos h]
  · rw [if_neg (by omega), if_neg h]
    refine loop_sz l z134 gFun gFun_le (by omega) (fun k s i => laws_szFunS.l0 k l s i) B ?_ ?_ (s - l.length) (by omega) (by omega) k (by omega)
    · intro k i s hK hi h0 h1
      simp only [laws_szFunS.l0]
      rw [if_pos (by omega), if_pos (by omega), laws_szFun_g (rd_T134 l (i : Int)) (hx _ (getD_mem hi)) s h0 h1 k (by have := hB _ (getD_mem (d := z134) hi); exact Nat.lt_of_lt_of_le this hK)]
      rfl
    · intro k s _
      simp only [laws_szFunS.l0]
      rw [if_neg (by omega)]
def gFunS (l : List S134) (s : Int) : Int := szL gFun l s
theorem gFunS_le (l : List S134) (s : Int) (h : 0 ≤ s) : -1 ≤ gFunS l s ∧ gFunS l s ≤ s := szL_le _ gFun_le _ _ h
def FitsUnit (B : Nat) (u : List S134) : Prop := u.length ≤ 140737488351232 ∧ (∀ x ∈ u, FitsFun x) ∧ ∀ x ∈ u, x.f2.length < B
theorem laws_szFunS_g (B : Nat) (l : List S134) (hl : FitsUnit B l) (s : Int) (h0 : 0 ≤ s) (h1 : s ≤ 1048576) (k : Nat) (hk : B + l.length < k) : laws_szFunS.f k l s = some (gFunS l s) := laws_szFunS_f l hl.1 hl.2.1 B hl.2.2 s h0 h1 k hk
theorem laws_szFunSS_f (l : List (List S134)) (hn : l.length ≤ 140737488351232) (B C : Nat) (hx : ∀ u ∈ l, FitsUnit B u) (hB : ∀ u ∈ l, B + u.length < C) (s : Int) (h0 : 0 ≤ s) (h1 : s ≤ 1048576) (k : Nat) (hk : C + l.length < k) : laws_szFunSS.f k l s = some (szL gFunS l s) := by
  unfold laws_szFunSS.f szL
  rw [len_wrap hn h0 h1]
  by_cases h : s < l.length
  · rw [if_pos (by omega), if_pos h]
  · rw [if_neg (by omega), if_neg h]
    refine loop_sz l [] gFunS gFunS_le (by omega) (fun k s i => laws_szFunSS.l0 k l s i) C ?_ ?_ (s - l.length) (by omega) (by omega) k (by omega)
    · intro k i s hK hi h0 h1
      simp only [laws_szFunSS.l0]
      rw [if_pos (by omega), if_pos (by omega), laws_szFunS_g B (rd_L8 l (i : Int)) (hx _ (getD_mem hi)) s h0 h1 k (by have := hB _ (getD_mem (d := []) hi); exact Nat.lt_of_lt_of_le this hK)]
      rfl
    · intro k s _
      simp only [laws_szFunSS.l0]
      rw [if_neg (by omega)]
def cvIns (x : S158) : S38 := ⟨x.f0, x.f1, x.f2⟩
theorem laws_toIns_c (x : S158) : laws_toIns.f x.f0 x.f1 x.f2 = some (x.f0, x.f1, x.f2) := rfl
theorem laws_toInsS_f (l : List S158) (hn : l.length ≤ 8796093022208) (k : Nat) (hk : l.length < k) : laws_toInsS.f k l = some (l.map cvIns) := by
  unfold laws_toInsS.f
  rw [if_pos (by omega), if_pos (by omega)]
  refine loop_fill l z158 z38 cvIns (by omega) (fun k acc i => laws_toInsS.l0 k l acc i) 0 ?_ ?_ k (by omega)
  · intro k i acc hK hi ha
    simp only [laws_toInsS.l0]
    rw [if_pos (by omega), if_pos (by omega), laws_toIns_c (rd_T158 l (i : Int))]
    simp only [Option.bind_some]
    rw [if_pos (by omega)]
    rfl
  · intro k acc _
    simp only [laws_toInsS.l0]
    rw [if_neg (by omega)]
def cvFun (x : S134) : S30 := ⟨x.f0, x.f1, x.f2.map cvIns⟩
theorem laws_toFun_c (x : S134) (hn : x.f2.length ≤ 8796093022208) (k : Nat) (hk : x.f2.length < k) : laws_toFun.f k x.f0 x.f1 x.f2 = some (x.f0, x.f1, x.f2.map cvIns) := by
  unfold laws_toFun.f
  rw [laws_toInsS_f x.f2 hn k hk]
  rfl
theorem laws_toFunS_f (l : List S134) (hn : l.length ≤ 5864062014805) (hx : ∀ x ∈ l, x.f2.length ≤ 8796093022208) (B : Nat) (hB : ∀ x ∈ l, x.f2.length < B) (k : Nat) (hk : B + l.length < k) : laws_toFunS.f k l = some (l.map cvFun) := by
  unfold laws_toFunS.f
  rw [if_pos (by omega), if_pos (by omega)]
  refine loop_fill l z134 z30 cvFun (by omega) (fun k acc i => laws_toFunS.l0 k l acc i) B ?_ ?_ k (by omega)
  · intro k i acc hK hi ha
    simp only [laws_toFunS.l0]
    rw [if_pos (by omega), if_pos (by omega), laws_toFun_c (rd_T134 l (i : Int)) (hx _ (getD_mem hi)) k (by have := hB _ (getD_mem (d := z134) hi); exact Nat.lt_of_lt_of_le this hK)]
    simp only [Option.bind_some]
    rw [if_pos (by omega)]
    rfl
  · intro k acc _
    simp only [laws_toFunS.l0]
    rw [if_neg (by omega)]
def FitsMake (B : Nat) (u : List S134) : Prop := u.length ≤ 5864062014805 ∧ (∀ x ∈ u, x.f2.length ≤ 8796093022208) ∧ ∀ x ∈ u, x.f2.length < B
theorem laws_toFunS_c (B : Nat) (l : List S134) (hl : FitsMake B l) (k : Nat) (hk : B + l.length < k) : laws_toFunS.f k l = some (l.map cvFun) := laws_toFunS_f l hl.1 hl.2.1 B hl.2.2 k hk
theorem laws_toFunSS_f (l : List (List S134)) (hn : l.length ≤ 5864062014805) (B C : Nat) (hx : ∀ u ∈ l, FitsMake B u) (hB : ∀ u ∈ l, B + u.length < C) (k : Nat) (hk : C + l.length < k) : laws_toFunSS.f k l = some (l.map (List.map cvFun)) := by
  unfold laws_toFunSS.f
  rw [if_pos (by omega), if_pos (by omega)]
  refine loop_fill l [] [] (List.map cvFun) (by omega) (fun k acc i => laws_toFunSS.l0 k l acc i) C ?_ ?_ k (by omega)
  · intro k i acc hK hi ha
    simp only [laws_toFunSS.l0]
    rw [if_pos (by omega), if_pos (by omega), laws_toFunS_c B (rd_L8 l (i : Int)) (hx _ (getD_mem hi)) k (by have := hB _ (getD_mem (d := []) hi); exact Nat.lt_of_lt_of_le this hK)]
    simp only [Option.bind_some]
    rw [if_pos (by omega)]
    rfl
  · intro k acc _
    simp only [laws_toFunSS.l0]
    rw [if_neg (by omega)]
theorem laws_eqIns_f (x y : S38) : laws_eqIns.f x.f0 x.f1 x.f2 y.f0 y.f1 y.f2 = some (insSame x y) := by
  unfold laws_eqIns.f insSame
  by_cases h0 : x.f0 = y.f0
  · rw [if_pos h0, beq_iff_eq.mpr h0]
    by_cases h1 : x.f1 = y.f1
    · rw [if_pos h1, beq_iff_eq.mpr h1]
      by_cases h2 : x.f2.toList = y.f2.toList
      · rw [if_pos h2, beq_iff_eq.mpr h2]; rfl
      · rw [if_neg h2, beq_eq_false_iff_ne.mpr h2]; rfl
    · rw [if_neg h1, beq_eq_false_iff_ne.mpr h1]; rfl
  · rw [if_neg h0, beq_eq_false_iff_ne.mpr h0]; rfl
theorem laws_eqInsS_f (l m : List S38) (hn : l.length ≤ 9223372036854775807) (k : Nat) (hk : l.length < k) : laws_eqInsS.f k l m = some (all2 insSame l m) := by
  unfold laws_eqInsS.f
  by_cases hl : l.length = m.length
  · rw [if_pos (by omega)]
    refine loop_all2 insSame z38 z38 l m hl hn (fun k i => laws_eqInsS.l0 k l m i) 0 ?_ ?_ ?_ k (by omega)
    · intro k i hK hi hq
      have hi' : i < m.length := by omega
      simp only [laws_eqInsS.l0]
      rw [if_pos (by omega), if_pos (by omega), if_pos (by omega)]
      have e := laws_eqIns_f (rd_T38 l (i : Int)) (rd_T38 m (i : Int))
      rw [show insSame (rd_T38 l (i : Int)) (rd_T38 m (i : Int)) = true from hq] at e
      rw [e]
      rfl
    · intro k i hK hi hq
      have hi' : i < m.length := by omega
      simp only [laws_eqInsS.l0]
      rw [if_pos (by omega), if_pos (by omega), if_pos (by omega)]
      have e := laws_eqIns_f (rd_T38 l (i : Int)) (rd_T38 m (i : Int))
      rw [show insSame (rd_T38 l (i : Int)) (rd_T38 m (i : Int)) = false from hq] at e
      rw [e]
      rfl
    · intro k hK
      simp only [laws_eqInsS.l0]
      rw [if_neg (by omega)]
  · rw [if_neg (by omega), all2_len _ _ _ hl]
theorem laws_eqFun_f (x y : S30) (hn : x.f2.length ≤ 9223372036854775807) (k : Nat) (hk : x.f2.length < k) : laws_eqFun.f k x.f0 x.f1 x.f2 y.f0 y.f1 y.f2 = some (funSame x y) := by
  unfold laws_eqFun.f
  rw [laws_eqInsS_f x.f2 y.f2 hn k hk]
  by_cases h : x.f0.toList = y.f0.toList
  · rw [if_pos h]
    cases h2 : (x.f1 == y.f1) with
    | true =>
      rw [if_neg (by simp only [bne, h2]; decide)]
      cases h3 : all2 insSame x.f2 y.f2 <;> simp [funSame, h, h2, h3]
    | false =>
      rw [if_pos (by simp only [bne, h2]; decide)]
      simp [funSame, h, h2]
  · rw [if_neg h]
    simp [funSame, beq_eq_false_iff_ne.mpr h]
theorem laws_eqFunS_f (l m : List S30) (hn : l.length ≤ 9223372036854775807) (B : Nat) (hB : B ≤ 9223372036854775807) (hb : ∀ x ∈ l, x.f2.length < B) (k : Nat) (hk : B + l.length < k) : laws_eqFunS.f k l m = some (all2 funSame l m) := by
  unfold laws_eqFunS.f
  by_cases hl : l.length = m.length
  · rw [if_pos (by omega)]
    refine loop_all2 funSame z30 z30 l m hl hn (fun k i => laws_eqFunS.l0 k l m i) B ?_ ?_ ?_ k (by omega)
    · intro k i hK hi hq
      have hi' : i < m.length := by omega
      simp only [laws_eqFunS.l0]
      rw [if_pos (by omega), if_pos (by omega), if_pos (by omega)]
      have e := laws_eqFun_f (rd_T30 l (i : Int)) (rd_T30 m (i : Int)) (by have := hb _ (getD_mem (d := z30) hi); have e0 : rd_T30 l (i : Int) = l.getD i z30 := rfl; rw [e0]; omega) k (by have := hb _ (getD_mem (d := z30) hi); have e0 : rd_T30 l (i : Int) = l.getD i z30 := rfl; rw [e0]; omega)
      rw [show funSame (rd_T30 l (i : Int)) (rd_T30 m (i : Int)) = true from hq] at e
      rw [e]
      rfl
    · intro k i hK hi hq
      have hi' : i < m.length := by omega
      simp only [laws_eqFunS.l0]
      rw [if_pos (by omega), if_pos (by omega), if_pos (by omega)]
      have e := laws_eqFun_f (rd_T30 l (i : Int)) (rd_T30 m (i : Int)) (by have := hb _ (getD_mem (d := z30) hi); have e0 : rd_T30 l (i : Int) = l.getD i z30 := rfl; rw [e0]; omega) k (by have := hb _ (getD_mem (d := z30) hi); have e0 : rd_T30 l (i : Int) = l.getD i z30 := rfl; rw [e0]; omega)
      rw [show funSame (rd_T30 l (i : Int)) (rd_T30 m (i : Int)) = false from hq] at e
      rw [e]
      rfl
    · intro k hK
      simp only [laws_eqFunS.l0]
      rw [if_neg (by omega)]
  · rw [if_neg (by omega), all2_len _ _ _ hl]
theorem laws_eqFunS_u (l m : List S30) (hn : l.length ≤ 9223372036854775807) (B : Nat) (hB : B ≤ 9223372036854775807) (hb : ∀ x ∈ l, x.f2.length < B) (k : Nat) (hk : B + l.length < k) : laws_eqFunS.f k l m = some (unitSame l m) := laws_eqFunS_f l m hn B hB hb k hk
theorem laws_eqFunSS_f (l m : List (List S30)) (hn : l.length ≤ 9223372036854775807) (B C : Nat) (hB : B ≤ 9223372036854775807) (hC : C ≤ 9223372036854775807) (hb : ∀ u ∈ l, B + u.length < C ∧ ∀ x ∈ u, x.f2.length < B) (k : Nat) (hk : C + l.length < k) : laws_eqFunSS.f k l m = some (all2 unitSame l m) := by
  unfold laws_eqFunSS.f
  by_cases hl : l.length = m.length
  · rw [if_pos (by omega)]
    refine loop_all2 unitSame [] [] l m hl hn (fun k i => laws_eqFunSS.l0 k l m i) C ?_ ?_ ?_ k (by omega)
    · intro k i hK hi hq
      have hi' : i < m.length := by omega
      simp only [laws_eqFunSS.l0]
      rw [if_pos (by omega), if_pos (by omega), if_pos (by omega)]
      have e := laws_eqFunS_u (rd_L13 l (i : Int)) (rd_L13 m (i : Int)) (by have := (hb _ (getD_mem (d := []) hi)).1; have e0 : rd_L13 l (i : Int) = l.getD i [] := rfl; rw [e0]; omega) B hB (by have := (hb _ (getD_mem (d := []) hi)).2; exact this) k (by have := (hb _ (getD_mem (d := []) hi)).1; have e0 : rd_L13 l (i : Int) = l.getD i [] := rfl; rw [e0]; omega)
      rw [show unitSame (rd_L13 l (i : Int)) (rd_L13 m (i : Int)) = true from hq] at e
      rw [e]
      rfl
    · intro k i hK hi hq
      have hi' : i < m.length := by omega
      simp only [laws_eqFunSS.l0]
      rw [if_pos (by omega), if_pos (by omega), if_pos (by omega)]
      have e := laws_eqFunS_u (rd_L13 l (i : Int)) (rd_L13 m (i : Int)) (by have := (hb _ (getD_mem (d := []) hi)).1; have e0 : rd_L13 l (i : Int) = l.getD i [] := rfl; rw [e0]; omega) B hB (by have := (hb _ (getD_mem (d := []) hi)).2; exact this) k (by have := (hb _ (getD_mem (d := []) hi)).1; have e0 : rd_L13 l (i : Int) = l.getD i [] := rfl; rw [e0]; omega)
      rw [show unitSame (rd_L13 l (i : Int)) (rd_L13 m (i : Int)) = false from hq] at e
      rw [e]
      rfl
    · intro k hK
      simp only [laws_eqFunSS.l0]
      rw [if_neg (by omega)]
  · rw [if_neg (by omega), all2_len _ _ _ hl]
end Go.Proofs.Ytpckkkcaffhhnaa.L
namespace Go.Proofs.Ytpckkkcaffhhnaa.L
open Go.RowKit Go.Proofs.YtpckkkcaffhhnaaW.PrintWords Go.Proofs.YtpckkkcaffhhnaaW.PrintLast Go.Proofs.YtpckkkcaffhhnaaW.PrintMore Go.Proofs.Ytpckkkcaffhhnaa.P
set_option linter.unusedVariables false
set_option linter.unusedSimpArgs false
theorem ok_fits {x : S134} (h : Ok134 x) : FitsFun x := ⟨h.1, by have := h.2.2.1; omega, fun y hy => (h.2.2.2 y hy).2.2⟩
theorem ok_len {x : S134} (h : Ok134 x) : x.f2.length ≤ 4398046511104 := by have := h.2.2.1; omega
theorem a_szFun {x : S134} (h : Ok134 x) (s : Int) (h0 : 0 ≤ s) (h1 : s ≤ 1048576) (k : Nat) (hk : 10000000000000000 ≤ k) : laws_szFun.f k x.f0 x.f1 x.f2 s = some (gFun x s) :=
  laws_szFun_g x (ok_fits h) s h0 h1 k (by have := ok_len h; omega)
theorem a_toFun {x : S134} (h : Ok134 x) (k : Nat) (hk : 10000000000000000 ≤ k) : laws_toFun.f k x.f0 x.f1 x.f2 = some (x.f0, x.f1, x.f2.map cvIns) :=
  laws_toFun_c x (by have := ok_len h; omega) k (by have := ok_len h; omega)
theorem a_eqFun {x : S134} (h : Ok134 x) (k : Nat) (hk : 10000000000000000 ≤ k) : laws_eqFun.f k x.f0 x.f1 (x.f2.map cvIns) x.f0 x.f1 (x.f2.map cvIns) = some true := by
  have e := laws_eqFun_f (cvFun x) (cvFun x) (by simp only [cvFun, List.length_map]; have := ok_len h; omega) k (by simp only [cvFun, List.length_map]; have := ok_len h; omega)
  rw [funSame_refl] at e
  exact e
def OkU (l : List S134) : Prop := l.length * 48 ≤ 140737488351232 ∧ ∀ x ∈ l, Ok134 x
theorem OkU.len {l : List S134} (h : OkU l) : l.length ≤ 2932031007402 := by have := h.1; omega
theorem OkU.fits {l : List S134} (h : OkU l) : FitsUnit 4398046511105 l := ⟨by have := h.len; omega, fun x hx => ok_fits (h.2 x hx), fun x hx => by have := ok_len (h.2 x hx); omega⟩
theorem OkU.make {l : List S134} (h : OkU l) : FitsMake 4398046511105 l := ⟨by have := h.len; omega, fun x hx => by have := ok_len (h.2 x hx); omega, fun x hx => by have := ok_len (h.2 x hx); omega⟩
theorem a_szFunS {l : List S134} (h : OkU l) (s : Int) (h0 : 0 ≤ s) (h1 : s ≤ 1048576) (k : Nat) (hk : 10000000000000000 ≤ k) : laws_szFunS.f k l s = some (gFunS l s) :=
  laws_szFunS_g _ l h.fits s h0 h1 k (by have := h.len; omega)
theorem a_toFunS {l : List S134} (h : OkU l) (k : Nat) (hk : 10000000000000000 ≤ k) : laws_toFunS.f k l = some (l.map cvFun) :=
  laws_toFunS_c _ l h.make k (by have := h.len; omega)
theorem cv_len {l : List S134} (h : OkU l) : ∀ x ∈ l.map cvFun, x.f2.length < 4398046511105 := by
  intro x hx
  obtain ⟨y, hy, rfl⟩ := List.mem_map.1 hx
  simp only [cvFun, List.length_map]
  have := ok_len (h.2 y hy)
  omega
theorem a_eqFunS {l : List S134} (h : OkU l) (k : Nat) (hk : 10000000000000000 ≤ k) : laws_eqFunS.f k (l.map cvFun) (l.map cvFun) = some true := by
  rw [laws_eqFunS_f _ _ (by simp only [List.length_map]; have := h.len; omega) 4398046511105 (by decide) (cv_len h) k (by simp only [List.length_map]; have := h.len; omega)]
  exact congrArg some (unitSame_refl _)
def OkP (l : List (List S134)) : Prop := l.length * 24 ≤ 140737488351232 ∧ ∀ u ∈ l, OkU u
theorem OkP.len {l : List (List S134)} (h : OkP l) : l.length ≤ 5864062014801 := by have := h.1; omega
theorem a_szFunSS {l : List (List S134)} (h : OkP l) (s : Int) (h0 : 0 ≤ s) (h1 : s ≤ 1048576) (k : Nat) (hk : 10000000000000000 ≤ k) : laws_szFunSS.f k l s = some (szL gFunS l s) :=
  laws_szFunSS_f l (by have := h.len; omega) 4398046511105 8000000000000 (fun u hu => (h.2 u hu).fits) (fun u hu => by have := (h.2 u hu).len; omega) s h0 h1 k (by have := h.len; omega)
theorem a_toFunSS {l : List (List S134)} (h : OkP l) (k : Nat) (hk : 10000000000000000 ≤ k) : laws_toFunSS.f k l = some (l.map (List.map cvFun)) :=
  laws_toFunSS_f l (by have := h.len; omega) 4398046511105 8000000000000 (fun u hu => (h.2 u hu).make) (fun u hu => by have := (h.2 u hu).len; omega) k (by have := h.len; omega)
theorem cvs_len {l : List (List S134)} (h : OkP l) : ∀ u ∈ l.map (List.map cvFun), 4398046511105 + u.length < 8000000000000 ∧ ∀ x ∈ u, x.f2.length < 4398046511105 := by
  intro u hu
  obtain ⟨v, hv, rfl⟩ := List.mem_map.1 hu
  exact ⟨by simp only [List.length_map]; have := (h.2 v hv).len; omega, cv_len (h.2 v hv)⟩
theorem a_eqFunSS {l : List (List S134)} (h : OkP l) (k : Nat) (hk : 10000000000000000 ≤ k) : laws_eqFunSS.f k (l.map (List.map cvFun)) (l.map (List.map cvFun)) = some true := by
  rw [laws_eqFunSS_f _ _ (by simp only [List.length_map]; have := h.len; omega) 4398046511105 8000000000000 (by decide) (by decide) (cvs_len h) k (by simp only [List.length_map]; have := h.len; omega)]
  exact congrArg some (all2_refl _ _ (fun u _ => unitSame_refl u))
end Go.Proofs.Ytpckkkcaffhhnaa.L
namespace Go.Proofs.Ytpckkkcaffhhnaa.L
open Go.RowKit Go.Proofs.YtpckkkcaffhhnaaW.PrintWords Go.Proofs.YtpckkkcaffhhnaaW.PrintLast Go.Proofs.YtpckkkcaffhhnaaW.PrintMore Go.Proofs.Ytpckkkcaffhhnaa.P
theorem fit_cv {x : S134} (h : Ok134 x) : FitF (cvFun x) := by
  refine ⟨h.1, ?_, fun y hy => ?_⟩
  · simp only [cvFun, List.length_map]
    have := ok_len h
    omega
  · obtain ⟨z, hz, rfl⟩ := List.mem_map.1 hy
    exact (h.2.2.2 z hz).2.2
theorem fits_cv {l : List S134} (h : OkU l) : ∀ x ∈ l.map cvFun, FitF x := by
  intro x hx
  obtain ⟨y, hy, rfl⟩ := List.mem_map.1 hx
  exact fit_cv (h.2 y hy)
end Go.Proofs.Ytpckkkcaffhhnaa.L

/- The program's PickTwo returns what the reference's returns, for all arguments. -/
namespace Go.Proofs.Ytpckkkcaffhhnaa.Pure
open Go.RowKit Go.Proofs.Ytpckkkcaffhhnaa.P Go.Proofs.Ytpckkkcaffhhnaa.L Go.Proofs.YtpckkkcaffhhnaaW.PrintWords
set_option linter.unusedVariables false
theorem fits_cvs {l : List (List S134)} (h : OkP l) : ∀ u ∈ l.map (List.map cvFun), FitU u := by
  intro u hu
  obtain ⟨v, hv, rfl⟩ := List.mem_map.mp hu
  exact ⟨by rw [List.length_map]; have := (h.2 v hv).len; omega, fits_cv (h.2 v hv)⟩
theorem impl_PickTwo_f (l : List UnitV) (hl : ∀ u ∈ l, FitU u) : impl_PickTwo.f l = some (pickTwoV l) := by
  unfold impl_PickTwo.f
  rw [if_pos (fun u hu => ⟨(hl u hu).1, fun x hx => (hl u hu).2 x hx⟩)]
theorem FnExactPickTwo : laws_FnExactPickTwo.Pure := by
  intro x h_x
  replace h_x : OkP x := h_x
  obtain ⟨K, hK⟩ : ∃ K : Nat, 100000000000000000 ≤ K := ⟨_, Nat.le_refl _⟩
  refine ⟨K + 12, ?_⟩
  unfold laws_FnExactPickTwo.f
  rw [a_szFunSS h_x 1048576 (by decide) (by decide) _ (by omega)]
  simp only [Option.bind_some]
  have b_x := szL_le gFunS gFunS_le x 1048576 (by decide)
  by_cases c_x : szL gFunS x 1048576 < 0
  · rw [if_pos c_x]
  rw [if_neg c_x]
  simp only [laws_FnExactPickTwo.j0]
  rw [a_toFunSS h_x _ (by omega)]
  simp only [Option.bind_some]
  have hf : ∀ u ∈ x.map (List.map cvFun), FitU u := fits_cvs h_x
  have hl : (x.map (List.map cvFun)).length ≤ 5864062014801 := (by rw [List.length_map]; exact h_x.len)
  rw [spec_PickTwo_f _ (by omega) hf _ (by omega), impl_PickTwo_f _ hf]
  simp only [Option.bind_some]
  rw [if_pos trivial]
  simp only [bne_self_eq_false]
  simp only [laws_FnExactPickTwo.j1]
  rw [if_neg (by decide)]
  simp only [laws_FnExactPickTwo.j2]
  rw [a_toFunSS h_x _ (by omega)]
  simp only [Option.bind_some]
  rw [a_eqFunSS h_x _ (by omega)]
  simp only [Option.bind_some, if_true]
end Go.Proofs.Ytpckkkcaffhhnaa.Pure
