/- What the comparisons compute: two lists alike, place by place. -/
import Derived.Test.YtccknlcokknadaaLOk
import Derived.Test.YtccknlcokknadaaLSeq
import Derived.Test.YtccknlcokknadaaPximplFunOk
import Derived.Test.YtccknlcokknadaaPximplUnitFind
import Derived.Test.YtccknlcokknadaaPximplfind
import Derived.Test.YtccknlcokknadaaPximplfunsOk
import Derived.Test.YtccknlcokknadaaPxlawseqFun
import Derived.Test.YtccknlcokknadaaPxlawseqFunSS
import Derived.Test.YtccknlcokknadaaPxlawsszFunS
import Derived.Test.YtccknlcokknadaaPxlawsszFunSS
import Derived.Test.YtccknlcokknadaaPxlawsszIns
import Derived.Test.YtccknlcokknadaaPxspecFunOk
import Derived.Test.YtccknlcokknadaaPxspecNameOk
import Derived.Test.YtccknlcokknadaaPxspecUnitFind
import Derived.Test.YtccknlcokknadaaPxspecUnitOk
import Derived.Test.YtccknlcokknadaaPxspecUnitSame
import Derived.Test.YtccknlcokknadaaPxspecl2Body
import Derived.Test.YtccknlcokknadaaPxspecl2Find
import Derived.Test.YtccknlcokknadaaRd
namespace Go.Proofs.Ytccknlcokknadaa.L
open Go.RowKit Go.Proofs.YtccknlcokknadaaW.PrintWords Go.Proofs.YtccknlcokknadaaW.PrintLast Go.Proofs.YtccknlcokknadaaW.PrintMore Go.Proofs.Ytccknlcokknadaa.P
set_option linter.unusedVariables false
set_option linter.unusedSimpArgs false

def insSame (x y : S88) : Bool := (x.f0 == y.f0) && ((x.f1 == y.f1) && (x.f2.toList == y.f2.toList))
theorem insSame_not (x y : S88) : (!(x.f0 == y.f0) || (!(x.f1 == y.f1) || (!(x.f2.toList == y.f2.toList)))) = !insSame x y := by
  simp only [insSame, Bool.not_and]
def funSame (x y : S29) : Bool := (x.f0.toList == y.f0.toList) && ((x.f1 == y.f1) && all2 insSame x.f2 y.f2)
def unitSame (l m : List S29) : Bool := all2 funSame l m
def strSame (a b : ByteArray) : Bool := a.toList == b.toList
def intSame (a b : Int) : Bool := a == b
def laySame (a : List Int) (b : List (List ByteArray)) (c : List Int) (d : List (List ByteArray)) : Bool := all2 intSame a c && all2 (all2 strSame) b d
theorem insSame_refl (x : S88) : insSame x x = true := by simp [insSame]
theorem funSame_refl (x : S29) : funSame x x = true := by simp [funSame, all2_refl insSame _ (fun y _ => insSame_refl y)]
theorem unitSame_refl (l : List S29) : unitSame l l = true := all2_refl _ _ (fun x _ => funSame_refl x)
theorem strSame_refl (a : ByteArray) : strSame a a = true := by simp [strSame]
theorem intSame_refl (a : Int) : intSame a a = true := by simp [intSame]
theorem insSame_comm (x y : S88) : insSame x y = insSame y x := by
  simp only [insSame, Bool.beq_comm (a := x.f0), Bool.beq_comm (a := x.f1), Bool.beq_comm (a := x.f2.toList)]
theorem slices_Equal_simpl_Ins_impl_Ins_f (l m : List S88) (hn : l.length ≤ 9223372036854775807) (k : Nat) (hk : l.length < k) : slices_Equal_simpl_Ins_impl_Ins.f k l m = some (all2 insSame l m) := by
  unfold slices_Equal_simpl_Ins_impl_Ins.f
  by_cases hl : l.length = m.length
  · rw [if_pos (by omega)]
    refine loop_all2 insSame z88 z88 l m hl hn (fun k i => slices_Equal_simpl_Ins_impl_Ins.l0 k l m (l.length : Int) i) 0 ?_ ?_ ?_ k (by omega)
    · intro k i hK hi hq
      have hi' : i < m.length := by omega
      simp only [slices_Equal_simpl_Ins_impl_Ins.l0]
      rw [if_pos (by omega), if_pos (by omega), if_pos (by omega), if_pos (by omega)]
      have e := insSame_not (rd_T88 l (i : Int)) (rd_T88 m (i : Int))
      rw [show insSame (rd_T88 l (i : Int)) (rd_T88 m (i : Int)) = true from hq] at e
      rw [e, if_neg (by decide)]
    · intro k i hK hi hq
      have hi' : i < m.length := by omega
      simp only [slices_Equal_simpl_Ins_impl_Ins.l0]
      rw [if_pos (by omega), if_pos (by omega), if_pos (by omega), if_pos (by omega)]
      have e := insSame_not (rd_T88 l (i : Int)) (rd_T88 m (i : Int))
      rw [show insSame (rd_T88 l (i : Int)) (rd_T88 m (i : Int)) = false from hq] at e
      rw [e, if_pos (by decide)]
    · intro k hK
      simp only [slices_Equal_simpl_Ins_impl_Ins.l0]
      rw [if_neg (by omega)]
  · rw [if_neg (by omega), all2_len _ _ _ hl]
theorem spec_l2Body_f (l m : List S88) (hn : l.length ≤ 9223372036854775807) (k : Nat) (hk : l.length < k) : spec_l2Body.f k l m = some (all2 insSame l m) := by
  unfold spec_l2Body.f
  by_cases hl : l.length = m.length
  · rw [if_pos (by omega)]
    refine loop_all2 insSame z88 z88 l m hl hn (fun k i => spec_l2Body.l0 k l m i) 0 ?_ ?_ ?_ k (by omega)
    · intro k i hK hi hq
      have hi' : i < m.length := by omega
      simp only [spec_l2Body.l0]
      rw [if_pos (by omega), if_pos (by omega), if_pos (by omega)]
      have e := insSame_not (rd_T88 l (i : Int)) (rd_T88 m (i : Int))
      rw [show insSame (rd_T88 l (i : Int)) (rd_T88 m (i : Int)) = true from hq] at e
      rw [e, if_neg (by decide)]
    · intro k i hK hi hq
      have hi' : i < m.length := by omega
      simp only [spec_l2Body.l0]
      rw [if_pos (by omega), if_pos (by omega), if_pos (by omega)]
      have e := insSame_not (rd_T88 l (i : Int)) (rd_T88 m (i : Int))
      rw [show insSame (rd_T88 l (i : Int)) (rd_T88 m (i : Int)) = false from hq] at e
      rw [e, if_pos (by decide)]
    · intro k hK
      simp only [spec_l2Body.l0]
      rw [if_neg (by omega)]
  · rw [if_neg (by omega), all2_len _ _ _ hl]
theorem impl_FunSame_f (x y : S29) (hn : x.f2.length ≤ 9223372036854775807) (k : Nat) (hk : x.f2.length < k) : impl_FunSame.f k x.f0 x.f1 x.f2 y.f0 y.f1 y.f2 = some (funSame x y) := by
  unfold impl_FunSame.f
  rw [slices_Equal_simpl_Ins_impl_Ins_f x.f2 y.f2 hn k hk]
  by_cases h : x.f0.toList = y.f0.toList
  · rw [if_pos h]
    by_cases h2 : (x.f1 == y.f1) = true
    · rw [if_pos h2]
      simp [funSame, h, h2]
    · rw [if_neg h2]
      simp [funSame, h, Bool.eq_false_iff.mpr h2]
  · rw [if_neg h]
    simp [funSame, beq_eq_false_iff_ne.mpr h]
theorem spec_FunSame_f (x y : S29) (hn : x.f2.length ≤ 9223372036854775807) (k : Nat) (hk : x.f2.length < k) : spec_FunSame.f k x.f0 x.f1 x.f2 y.f0 y.f1 y.f2 = some (funSame x y) := by
  unfold spec_FunSame.f
  rw [spec_l2Body_f x.f2 y.f2 hn k hk]
  by_cases h : x.f0.toList = y.f0.toList
  · rw [if_pos h]
    by_cases h2 : (x.f1 == y.f1) = true
    · rw [if_pos h2]
      simp [funSame, h, h2]
    · rw [if_neg h2]
      simp [funSame, h, Bool.eq_false_iff.mpr h2]
  · rw [if_neg h]
    simp [funSame, beq_eq_false_iff_ne.mpr h]
theorem spec_UnitSame_f (l m : List S29) (hn : l.length ≤ 9223372036854775807) (B : Nat) (hB : B ≤ 9223372036854775807) (hb : ∀ x ∈ l, x.f2.length < B) (k : Nat) (hk : B + l.length < k) : spec_UnitSame.f k l m = some (all2 funSame l m) := by
  unfold spec_UnitSame.f
  by_cases hl : l.length = m.length
  · rw [if_pos (by omega)]
    refine loop_all2 funSame z29 z29 l m hl hn (fun k i => spec_UnitSame.l0 k l m i) B ?_ ?_ ?_ k (by omega)
    · intro k i hK hi hq
      have hi' : i < m.length := by omega
      simp only [spec_UnitSame.l0]
      rw [if_pos (by omega), if_pos (by omega), if_pos (by omega)]
      have e := spec_FunSame_f (rd_T29 l (i : Int)) (rd_T29 m (i : Int)) (by have := hb _ (getD_mem (d := z29) hi); have e0 : rd_T29 l (i : Int) = l.getD i z29 := rfl; rw [e0]; omega) k (by have := hb _ (getD_mem (d := z29) hi); have e0 : rd_T29 l (i : Int) = l.getD i z29 := rfl; rw [e0]; omega)
      rw [show funSame (rd_T29 l (i : Int)) (rd_T29 m (i : Int)) = true from hq] at e
      rw [e]
      rfl
    · intro k i hK hi hq
      have hi' : i < m.length := by omega
      simp only [spec_UnitSame.l0]
      rw [if_pos (by omega), if_pos (by omega), if_pos (by omega)]
      have e := spec_FunSame_f (rd_T29 l (i : Int)) (rd_T29 m (i : Int)) (by have := hb _ (getD_mem (d := z29) hi); have e0 : rd_T29 l (i : Int) = l.getD i z29 := rfl; rw [e0]; omega) k (by have := hb _ (getD_mem (d := z29) hi); have e0 : rd_T29 l (i : Int) = l.getD i z29 := rfl; rw [e0]; omega)
      rw [show funSame (rd_T29 l (i : Int)) (rd_T29 m (i : Int)) = false from hq] at e
      rw [e]
      rfl
    · intro k hK
      simp only [spec_UnitSame.l0]
      rw [if_neg (by omega)]
  · rw [if_neg (by omega), all2_len _ _ _ hl]
theorem spec_UnitSame_u (l m : List S29) (hn : l.length ≤ 9223372036854775807) (B : Nat) (hB : B ≤ 9223372036854775807) (hb : ∀ x ∈ l, x.f2.length < B) (k : Nat) (hk : B + l.length < k) : spec_UnitSame.f k l m = some (unitSame l m) := spec_UnitSame_f l m hn B hB hb k hk
theorem spec_PickSame_f (l m : List (List S29)) (hn : l.length ≤ 9223372036854775807) (B C : Nat) (hB : B ≤ 9223372036854775807) (hC : C ≤ 9223372036854775807) (hb : ∀ u ∈ l, B + u.length < C ∧ ∀ x ∈ u, x.f2.length < B) (k : Nat) (hk : C + l.length < k) : spec_PickSame.f k l m = some (all2 unitSame l m) := by
  unfold spec_PickSame.f
  by_cases hl : l.length = m.length
  · rw [if_pos (by omega)]
    refine loop_all2 unitSame [] [] l m hl hn (fun k i => spec_PickSame.l0 k l m i) C ?_ ?_ ?_ k (by omega)
    · intro k i hK hi hq
      have hi' : i < m.length := by omega
      simp only [spec_PickSame.l0]
      rw [if_pos (by omega), if_pos (by omega), if_pos (by omega)]
      have e := spec_UnitSame_u (rd_L21 l (i : Int)) (rd_L21 m (i : Int)) (by have := (hb _ (getD_mem (d := []) hi)).1; have e0 : rd_L21 l (i : Int) = l.getD i [] := rfl; rw [e0]; omega) B hB (by have := (hb _ (getD_mem (d := []) hi)).2; exact this) k (by have := (hb _ (getD_mem (d := []) hi)).1; have e0 : rd_L21 l (i : Int) = l.getD i [] := rfl; rw [e0]; omega)
      rw [show unitSame (rd_L21 l (i : Int)) (rd_L21 m (i : Int)) = true from hq] at e
      rw [e]
      rfl
    · intro k i hK hi hq
      have hi' : i < m.length := by omega
      simp only [spec_PickSame.l0]
      rw [if_pos (by omega), if_pos (by omega), if_pos (by omega)]
      have e := spec_UnitSame_u (rd_L21 l (i : Int)) (rd_L21 m (i : Int)) (by have := (hb _ (getD_mem (d := []) hi)).1; have e0 : rd_L21 l (i : Int) = l.getD i [] := rfl; rw [e0]; omega) B hB (by have := (hb _ (getD_mem (d := []) hi)).2; exact this) k (by have := (hb _ (getD_mem (d := []) hi)).1; have e0 : rd_L21 l (i : Int) = l.getD i [] := rfl; rw [e0]; omega)
      rw [show unitSame (rd_L21 l (i : Int)) (rd_L21 m (i : Int)) = false from hq] at e
      rw [e]
      rfl
    · intro k hK
      simp only [spec_PickSame.l0]
      rw [if_neg (by omega)]
  · rw [if_neg (by omega), all2_len _ _ _ hl]
end Go.Proofs.Ytccknlcokknadaa.L
namespace Go.Proofs.Ytccknlcokknadaa.L
open Go.RowKit Go.Proofs.YtccknlcokknadaaW.PrintWords Go.Proofs.YtccknlcokknadaaW.PrintLast Go.Proofs.YtccknlcokknadaaW.PrintMore Go.Proofs.Ytccknlcokknadaa.P
set_option linter.unusedVariables false
set_option linter.unusedSimpArgs false

/-- What is left of a bound behind a list. -/
def szL {α : Type} (g : α → Int → Int) (l : List α) (s : Int) : Int := if s < l.length then -1 else szFold g l (s - l.length)
theorem szL_le {α : Type} (g : α → Int → Int) (h : ∀ x s, 0 ≤ s → -1 ≤ g x s ∧ g x s ≤ s) (l : List α) (s : Int) (hs : 0 ≤ s) : -1 ≤ szL g l s ∧ szL g l s ≤ s := by
  unfold szL
  split
  · omega
  · have := szFold_le g h l (s - l.length) (by omega)
    omega
/-- What is left behind a text. -/
def szS (a : ByteArray) (s : Int) : Int := if s < a.size then -1 else s - a.size
theorem szS_le (a : ByteArray) (s : Int) (hs : 0 ≤ s) : -1 ≤ szS a s ∧ szS a s ≤ s := by
  unfold szS
  split <;> omega
/-- How far a text may go. -/
abbrev Fits (s : ByteArray) : Prop := s.size ≤ 140737488351232
theorem szS_wrap (a : ByteArray) (s : Int) (ha : Fits a) (h0 : 0 ≤ s) (h1 : s ≤ 1048576) : (if (wrap64 (s - (a.size : Int))) < 0 then (-1 : Int) else (wrap64 (s - (a.size : Int)))) = szS a s := by
  rw [wrap_id (by omega) (by omega)]
  unfold szS
  by_cases h : s < a.size
  · rw [if_pos (by omega), if_pos h]
  · rw [if_neg (by omega), if_neg h]
theorem len_wrap {s : Int} {n : Nat} (hn : n ≤ 140737488351232) (h0 : 0 ≤ s) (h1 : s ≤ 1048576) : wrap64 (s - (n : Int)) = s - n := wrap_id (by omega) (by omega)
def gIns (x : S117) (s : Int) : Int := szS x.f2 s
theorem gIns_le (x : S117) (s : Int) (h : 0 ≤ s) : -1 ≤ gIns x s ∧ gIns x s ≤ s := szS_le _ _ h
def FitsIns (x : S117) : Prop := Fits x.f2
theorem laws_szIns_g (x : S117) (hx : FitsIns x) (s : Int) (h0 : 0 ≤ s) (h1 : s ≤ 1048576) : laws_szIns.f x.f0 x.f1 x.f2 s = some (gIns x s) := by
  unfold laws_szIns.f gIns
  rw [← szS_wrap x.f2 s hx h0 h1]
  split <;> rfl
theorem laws_szInsS_f (l : List S117) (hn : l.length ≤ 140737488351232) (hx : ∀ x ∈ l, FitsIns x) (s : Int) (h0 : 0 ≤ s) (h1 : s ≤ 1048576) (k : Nat) (hk : l.length < k) : laws_szInsS.f k l s = some (szL gIns l s) := by
  unfold laws_szInsS.f szL
  rw [len_wrap hn h0 h1]
  by_cases h : s < l.length
  · rw [if_pos (by omega), if_pos h]
  · rw [if_neg (by omega), if_neg h]
    refine loop_sz l z117 gIns gIns_le (by omega) (fun k s i => laws_szInsS.l0 k l s i) 0 ?_ ?_ (s - l.length) (by omega) (by omega) k (by omega)
    · intro k i s _ hi h0 h1
      simp only [laws_szInsS.l0]
      rw [if_pos (by omega), if_pos (by omega), laws_szIns_g (rd_T117 l (i : Int)) (hx _ (getD_mem hi)) s h0 h1]
      rfl
    · intro k s _
      simp only [laws_szInsS.l0]
      rw [if_neg (by omega)]
def gFun (x : S24) (s : Int) : Int := if szS x.f0 s < 0 then -1 else szL gIns x.f2 (szS x.f0 s)
theorem gFun_le (x : S24) (s : Int) (h : 0 ≤ s) : -1 ≤ gFun x s ∧ gFun x s ≤ s := by
  unfold gFun
  have := szS_le x.f0 s h
  split
  · omega
  · have := szL_le gIns gIns_le x.f2 (szS x.f0 s) (by omega)
    omega
def FitsFun (x : S24) : Prop := Fits x.f0 ∧ x.f2.length ≤ 140737488351232 ∧ ∀ y ∈ x.f2, FitsIns y
theorem laws_szFun_g (x : S24) (hx : FitsFun x) (s : Int) (h0 : 0 ≤ s) (h1 : s ≤ 1048576) (k : Nat) (hk : x.f2.length < k) : laws_szFun.f k x.f0 x.f1 x.f2 s = some (gFun x s) := by
  unfold laws_szFun.f gFun
  have e := szS_wrap x.f0 s hx.1 h0 h1
  have hb := szS_le x.f0 s h0
  have hs := hx.1
  have w : wrap64 (s - (x.f0.size : Int)) = s - x.f0.size := wrap_id (by have : x.f0.size ≤ 140737488351232 := hs; omega) (by omega)
  rw [w] at e ⊢
  by_cases h : s - (x.f0.size : Int) < 0
  · rw [if_pos h] at e ⊢
    rw [← e, if_pos (by omega)]
  · rw [if_neg h] at e ⊢
    rw [← e, if_neg h, laws_szInsS_f x.f2 hx.2.1 hx.2.2 _ (by omega) (by omega) k hk]
    simp only [Option.bind_some]
    have := szL_le gIns gIns_le x.f2 (s - x.f0.size) (by omega)
    split
    · congr 1; omega
    · rfl
theorem laws_szFunS_f (l : List S24) (hn : l.length ≤ 140737488351232) (hx : ∀ x ∈ l, FitsFun x) (B : Nat) (hB : ∀ x ∈ l, x.f2.length < B) (s : Int) (h0 : 0 ≤ s) (h1 : s ≤ 1048576) (k : Nat) (hk : B + l.length < k) : laws_szFunS.f k l s = some (szL gFun l s) := by
  unfold laws_szFunS.f szL
  rw [len_wrap hn h0 h1]
  by_cases h : s < l.length
  · rw [if_pos (by omega), if_pos h]
  · rw [if_neg (by omega), if_neg h]
    refine loop_sz l z24 gFun gFun_le (by omega) (fun k s i => laws_szFunS.l0 k l s i) B ?_ ?_ (s - l.length) (by omega) (by omega) k (by omega)
    · intro k i s hK hi h0 h1
      simp only [laws_szFunS.l0]
      rw [if_pos (by omega), if_pos (by omega), laws_szFun_g (rd_T24 l (i : Int)) (hx _ (getD_mem hi)) s h0 h1 k (by have := hB _ (getD_mem (d := z24) hi); exact Nat.lt_of_lt_of_le this hK)]
      rfl
    · intro k s _
      simp only [laws_szFunS.l0]
      rw [if_neg (by omega)]
def gFunS (l : List S24) (s : Int) : Int := szL gFun l s
theorem gFunS_le (l : List S24) (s : Int) (h : 0 ≤ s) : -1 ≤ gFunS l s ∧ gFunS l s ≤ s := szL_le _ gFun_le _ _ h
def FitsUnit (B : Nat) (u : List S24) : Prop := u.length ≤ 140737488351232 ∧ (∀ x ∈ u, FitsFun x) ∧ ∀ x ∈ u, x.f2.length < B
theorem laws_szFunS_g (B : Nat) (l : List S24) (hl : FitsUnit B l) (s : Int) (h0 : 0 ≤ s) (h1 : s ≤ 1048576) (k : Nat) (hk : B + l.length < k) : laws_szFunS.f k l s = some (gFunS l s) := laws_szFunS_f l hl.1 hl.2.1 B hl.2.2 s h0 h1 k hk
theorem laws_szFunSS_f (l : List (List S24)) (hn : l.length ≤ 140737488351232) (B C : Nat) (hx : ∀ u ∈ l, FitsUnit B u) (hB : ∀ u ∈ l, B + u.length < C) (s : Int) (h0 : 0 ≤ s) (h1 : s ≤ 1048576) (k : Nat) (hk : C + l.length < k) : laws_szFunSS.f k l s = some (szL gFunS l s) := by
  unfold laws_szFunSS.f szL
  rw [len_wrap hn h0 h1]
  by_cases h : s < l.length
  · rw [if_pos (by omega), if_pos h]
  · rw [if_neg (by omega), if_neg h]
    refine loop_sz l [] gFunS gFunS_le (by omega) (fun k s i => laws_szFunSS.l0 k l s i) C ?_ ?_ (s - l.length) (by omega) (by omega) k (by omega)
    · intro k i s hK hi h0 h1
      simp only [laws_szFunSS.l0]
      rw [if_pos (by omega), if_pos (by omega), laws_szFunS_g B (rd_L13 l (i : Int)) (hx _ (getD_mem hi)) s h0 h1 k (by have := hB _ (getD_mem (d := []) hi); exact Nat.lt_of_lt_of_le this hK)]
      rfl
    · intro k s _
      simp only [laws_szFunSS.l0]
      rw [if_neg (by omega)]
def cvIns (x : S117) : S88 := ⟨x.f0, x.f1, x.f2⟩
theorem laws_toIns_c (x : S117) : laws_toIns.f x.f0 x.f1 x.f2 = some (x.f0, x.f1, x.f2) := rfl
theorem laws_toInsS_f (l : List S117) (hn : l.length ≤ 8796093022208) (k : Nat) (hk : l.length < k) : laws_toInsS.f k l = some (l.map cvIns) := by
  unfold laws_toInsS.f
  rw [if_pos (by omega), if_pos (by omega)]
  refine loop_fill l z117 z88 cvIns (by omega) (fun k acc i => laws_toInsS.l0 k l acc i) 0 ?_ ?_ k (by omega)
  · intro k i acc hK hi ha
    simp only [laws_toInsS.l0]
    rw [if_pos (by omega), if_pos (by omega), laws_toIns_c (rd_T117 l (i : Int))]
    simp only [Option.bind_some]
    rw [if_pos (by omega)]
    rfl
  · intro k acc _
    simp only [laws_toInsS.l0]
    rw [if_neg (by omega)]
def cvFun (x : S24) : S29 := ⟨x.f0, x.f1, x.f2.map cvIns⟩
theorem laws_toFun_c (x : S24) (hn : x.f2.length ≤ 8796093022208) (k : Nat) (hk : x.f2.length < k) : laws_toFun.f k x.f0 x.f1 x.f2 = some (x.f0, x.f1, x.f2.map cvIns) := by
  unfold laws_toFun.f
  rw [laws_toInsS_f x.f2 hn k hk]
  rfl
theorem laws_toFunS_f (l : List S24) (hn : l.length ≤ 5864062014805) (hx : ∀ x ∈ l, x.f2.length ≤ 8796093022208) (B : Nat) (hB : ∀ x ∈ l, x.f2.length < B) (k : Nat) (hk : B + l.length < k) : laws_toFunS.f k l = some (l.map cvFun) := by
  unfold laws_toFunS.f
  rw [if_pos (by omega), if_pos (by omega)]
  refine loop_fill l z24 z29 cvFun (by omega) (fun k acc i => laws_toFunS.l0 k l acc i) B ?_ ?_ k (by omega)
  · intro k i acc hK hi ha
    simp only [laws_toFunS.l0]
    rw [if_pos (by omega), if_pos (by omega), laws_toFun_c (rd_T24 l (i : Int)) (hx _ (getD_mem hi)) k (by have := hB _ (getD_mem (d := z24) hi); exact Nat.lt_of_lt_of_le this hK)]
    simp only [Option.bind_some]
    rw [if_pos (by omega)]
    rfl
  · intro k acc _
    simp only [laws_toFunS.l0]
    rw [if_neg (by omega)]
def FitsMake (B : Nat) (u : List S24) : Prop := u.length ≤ 5864062014805 ∧ (∀ x ∈ u, x.f2.length ≤ 8796093022208) ∧ ∀ x ∈ u, x.f2.length < B
theorem laws_toFunS_c (B : Nat) (l : List S24) (hl : FitsMake B l) (k : Nat) (hk : B + l.length < k) : laws_toFunS.f k l = some (l.map cvFun) := laws_toFunS_f l hl.1 hl.2.1 B hl.2.2 k hk
theorem laws_toFunSS_f (l : List (List S24)) (hn : l.length ≤ 5864062014805) (B C : Nat) (hx : ∀ u ∈ l, FitsMake B u) (hB : ∀ u ∈ l, B + u.length < C) (k : Nat) (hk : C + l.length < k) : laws_toFunSS.f k l = some (l.map (List.map cvFun)) := by
  unfold laws_toFunSS.f
  rw [if_pos (by omega), if_pos (by omega)]
  refine loop_fill l [] [] (List.map cvFun) (by omega) (fun k acc i => laws_toFunSS.l0 k l acc i) C ?_ ?_ k (by omega)
  · intro k i acc hK hi ha
    simp only [laws_toFunSS.l0]
    rw [if_pos (by omega), if_pos (by omega), laws_toFunS_c B (rd_L13 l (i : Int)) (hx _ (getD_mem hi)) k (by have := hB _ (getD_mem (d := []) hi); exact Nat.lt_of_lt_of_le this hK)]
    simp only [Option.bind_some]
    rw [if_pos (by omega)]
    rfl
  · intro k acc _
    simp only [laws_toFunSS.l0]
    rw [if_neg (by omega)]
theorem laws_eqIns_f (x y : S88) : laws_eqIns.f x.f0 x.f1 x.f2 y.f0 y.f1 y.f2 = some (insSame x y) := by
  unfold laws_eqIns.f insSame
  by_cases h0 : x.f0 = y.f0
  · rw [if_pos h0, beq_iff_eq.mpr h0]
    by_cases h1 : x.f1 = y.f1
    · rw [if_pos h1, beq_iff_eq.mpr h1]
      by_cases h2 : x.f2.toList = y.f2.toList
      · rw [if_pos h2, beq_iff_eq.mpr h2]; rfl
      · rw [if_neg h2, beq_eq_false_iff_ne.mpr h2]; rfl
    · rw [if_neg h1, beq_eq_false_iff_ne.mpr h1]; rfl
  · rw [if_neg h0, beq_eq_false_iff_ne.mpr h0]; rfl
theorem laws_eqInsS_f (l m : List S88) (hn : l.length ≤ 9223372036854775807) (k : Nat) (hk : l.length < k) : laws_eqInsS.f k l m = some (all2 insSame l m) := by
  unfold laws_eqInsS.f
  by_cases hl : l.length = m.length
  · rw [if_pos (by omega)]
    refine loop_all2 insSame z88 z88 l m hl hn (fun k i => laws_eqInsS.l0 k l m i) 0 ?_ ?_ ?_ k (by omega)
    · intro k i hK hi hq
      have hi' : i < m.length := by omega
      simp only [laws_eqInsS.l0]
      rw [if_pos (by omega), if_pos (by omega), if_pos (by omega)]
      have e := laws_eqIns_f (rd_T88 l (i : Int)) (rd_T88 m (i : Int))
      rw [show insSame (rd_T88 l (i : Int)) (rd_T88 m (i : Int)) = true from hq] at e
      rw [e]
      rfl
    · intro k i hK hi hq
      have hi' : i < m.length := by omega
      simp only [laws_eqInsS.l0]
      rw [if_pos (by omega), if_pos (by omega), if_pos (by omega)]
      have e := laws_eqIns_f (rd_T88 l (i : Int)) (rd_T88 m (i : Int))
      rw [show insSame (rd_T88 l (i : Int)) (rd_T88 m (i : Int)) = false from hq] at e
      rw [e]
      rfl
    · intro k hK
      simp only [laws_eqInsS.l0]
      rw [if_neg (by omega)]
  · rw [if_neg (by omega), all2_len _ _ _ hl]
theorem laws_eqFun_f (x y : S29) (hn : x.f2.length ≤ 9223372036854775807) (k : Nat) (hk : x.f2.length < k) : laws_eqFun.f k x.f0 x.f1 x.f2 y.f0 y.f1 y.f2 = some (funSame x y) := by
  unfold laws_eqFun.f
  rw [laws_eqInsS_f x.f2 y.f2 hn k hk]
  by_cases h : x.f0.toList = y.f0.toList
  · rw [if_pos h]
    cases h2 : (x.f1 == y.f1) with
    | true =>
      rw [if_neg (by simp only [bne, h2]; decide)]
      cases h3 : all2 insSame x.f2 y.f2 <;> simp [funSame, h, h2, h3]
    | false =>
      rw [if_pos (by simp only [bne, h2]; decide)]
      simp [funSame, h, h2]
  · rw [if_neg h]
    simp [funSame, beq_eq_false_iff_ne.mpr h]
theorem laws_eqFunS_f (l m : List S29) (hn : l.length ≤ 9223372036854775807) (B : Nat) (hB : B ≤ 9223372036854775807) (hb : ∀ x ∈ l, x.f2.length < B) (k : Nat) (hk : B + l.length < k) : laws_eqFunS.f k l m = some (all2 funSame l m) := by
  unfold laws_eqFunS.f
  by_cases hl : l.length = m.length
  · rw [if_pos (by omega)]
    refine loop_all2 funSame z29 z29 l m hl hn (fun k i => laws_eqFunS.l0 k l m i) B ?_ ?_ ?_ k (by omega)
    · intro k i hK hi hq
      have hi' : i < m.length := by omega
      simp only [laws_eqFunS.l0]
      rw [if_pos (by omega), if_pos (by omega), if_pos (by omega)]
      have e := laws_eqFun_f (rd_T29 l (i : Int)) (rd_T29 m (i : Int)) (by have := hb _ (getD_mem (d := z29) hi); have e0 : rd_T29 l (i : Int) = l.getD i z29 := rfl; rw [e0]; omega) k (by have := hb _ (getD_mem (d := z29) hi); have e0 : rd_T29 l (i : Int) = l.getD i z29 := rfl; rw [e0]; omega)
      rw [show funSame (rd_T29 l (i : Int)) (rd_T29 m (i : Int)) = true from hq] at e
      rw [e]
      rfl
    · intro k i hK hi hq
      have hi' : i < m.length := by omega
      simp only [laws_eqFunS.l0]
      rw [if_pos (by omega), if_pos (by omega), if_pos (by omega)]
      have e := laws_eqFun_f (rd_T29 l (i : Int)) (rd_T29 m (i : Int)) (by have := hb _ (getD_mem (d := z29) hi); have e0 : rd_T29 l (i : Int) = l.getD i z29 := rfl; rw [e0]; omega) k (by have := hb _ (getD_mem (d := z29) hi); have e0 : rd_T29 l (i : Int) = l.getD i z29 := rfl; rw [e0]; omega)
      rw [show funSame (rd_T29 l (i : Int)) (rd_T29 m (i : Int)) = false from hq] at e
      rw [e]
      rfl
    · intro k hK
      simp only [laws_eqFunS.l0]
      rw [if_neg (by omega)]
  · rw [if_neg (by omega), all2_len _ _ _ hl]
theorem laws_eqFunS_u (l m : List S29) (hn : l.length ≤ 9223372036854775807) (B : Nat) (hB : B ≤ 9223372036854775807) (hb : ∀ x ∈ l, x.f2.length < B) (k : Nat) (hk : B + l.length < k) : laws_eqFunS.f k l m = some (unitSame l m) := laws_eqFunS_f l m hn B hB hb k hk
theorem laws_eqFunSS_f (l m : List (List S29)) (hn : l.length ≤ 9223372036854775807) (B C : Nat) (hB : B ≤ 9223372036854775807) (hC : C ≤ 9223372036854775807) (hb : ∀ u ∈ l, B + u.length < C ∧ ∀ x ∈ u, x.f2.length < B) (k : Nat) (hk : C + l.length < k) : laws_eqFunSS.f k l m = some (all2 unitSame l m) := by
  unfold laws_eqFunSS.f
  by_cases hl : l.length = m.length
  · rw [if_pos (by omega)]
    refine loop_all2 unitSame [] [] l m hl hn (fun k i => laws_eqFunSS.l0 k l m i) C ?_ ?_ ?_ k (by omega)
    · intro k i hK hi hq
      have hi' : i < m.length := by omega
      simp only [laws_eqFunSS.l0]
      rw [if_pos (by omega), if_pos (by omega), if_pos (by omega)]
      have e := laws_eqFunS_u (rd_L21 l (i : Int)) (rd_L21 m (i : Int)) (by have := (hb _ (getD_mem (d := []) hi)).1; have e0 : rd_L21 l (i : Int) = l.getD i [] := rfl; rw [e0]; omega) B hB (by have := (hb _ (getD_mem (d := []) hi)).2; exact this) k (by have := (hb _ (getD_mem (d := []) hi)).1; have e0 : rd_L21 l (i : Int) = l.getD i [] := rfl; rw [e0]; omega)
      rw [show unitSame (rd_L21 l (i : Int)) (rd_L21 m (i : Int)) = true from hq] at e
      rw [e]
      rfl
    · intro k i hK hi hq
      have hi' : i < m.length := by omega
      simp only [laws_eqFunSS.l0]
      rw [if_pos (by omega), if_pos (by omega), if_pos (by omega)]
      have e := laws_eqFunS_u (rd_L21 l (i : Int)) (rd_L21 m (i : Int)) (by have := (hb _ (getD_mem (d := []) hi)).1; have e0 : rd_L21 l (i : Int) = l.getD i [] := rfl; rw [e0]; omega) B hB (by have := (hb _ (getD_mem (d := []) hi)).2; exact this) k (by have := (hb _ (getD_mem (d := []) hi)).1; have e0 : rd_L21 l (i : Int) = l.getD i [] := rfl; rw [e0]; omega)
      rw [show unitSame (rd_L21 l (i : Int)) (rd_L21 m (i : Int)) = false from hq] at e
      rw [e]
      rfl
    · intro k hK
      simp only [laws_eqFunSS.l0]
      rw [if_neg (by omega)]
  · rw [if_neg (by omega), all2_len _ _ _ hl]
end Go.Proofs.Ytccknlcokknadaa.L
namespace Go.Proofs.Ytccknlcokknadaa.L
open Go.RowKit Go.Proofs.YtccknlcokknadaaW.PrintWords Go.Proofs.YtccknlcokknadaaW.PrintLast Go.Proofs.YtccknlcokknadaaW.PrintMore Go.Proofs.Ytccknlcokknadaa.P
set_option linter.unusedVariables false
set_option linter.unusedSimpArgs false
theorem ok_fits {x : S24} (h : Ok24 x) : FitsFun x := ⟨h.1, by have := h.2.2.1; omega, fun y hy => (h.2.2.2 y hy).2.2⟩
theorem ok_len {x : S24} (h : Ok24 x) : x.f2.length ≤ 4398046511104 := by have := h.2.2.1; omega
theorem a_szFun {x : S24} (h : Ok24 x) (s : Int) (h0 : 0 ≤ s) (h1 : s ≤ 1048576) (k : Nat) (hk : 10000000000000000 ≤ k) : laws_szFun.f k x.f0 x.f1 x.f2 s = some (gFun x s) :=
  laws_szFun_g x (ok_fits h) s h0 h1 k (by have := ok_len h; omega)
theorem a_toFun {x : S24} (h : Ok24 x) (k : Nat) (hk : 10000000000000000 ≤ k) : laws_toFun.f k x.f0 x.f1 x.f2 = some (x.f0, x.f1, x.f2.map cvIns) :=
  laws_toFun_c x (by have := ok_len h; omega) k (by have := ok_len h; omega)
theorem a_eqFun {x : S24} (h : Ok24 x) (k : Nat) (hk : 10000000000000000 ≤ k) : laws_eqFun.f k x.f0 x.f1 (x.f2.map cvIns) x.f0 x.f1 (x.f2.map cvIns) = some true := by
  have e := laws_eqFun_f (cvFun x) (cvFun x) (by simp only [cvFun, List.length_map]; have := ok_len h; omega) k (by simp only [cvFun, List.length_map]; have := ok_len h; omega)
  rw [funSame_refl] at e
  exact e
def OkU (l : List S24) : Prop := l.length * 48 ≤ 140737488351232 ∧ ∀ x ∈ l, Ok24 x
theorem OkU.len {l : List S24} (h : OkU l) : l.length ≤ 2932031007402 := by have := h.1; omega
theorem OkU.fits {l : List S24} (h : OkU l) : FitsUnit 4398046511105 l := ⟨by have := h.len; omega, fun x hx => ok_fits (h.2 x hx), fun x hx => by have := ok_len (h.2 x hx); omega⟩
theorem OkU.make {l : List S24} (h : OkU l) : FitsMake 4398046511105 l := ⟨by have := h.len; omega, fun x hx => by have := ok_len (h.2 x hx); omega, fun x hx => by have := ok_len (h.2 x hx); omega⟩
theorem a_szFunS {l : List S24} (h : OkU l) (s : Int) (h0 : 0 ≤ s) (h1 : s ≤ 1048576) (k : Nat) (hk : 10000000000000000 ≤ k) : laws_szFunS.f k l s = some (gFunS l s) :=
  laws_szFunS_g _ l h.fits s h0 h1 k (by have := h.len; omega)
theorem a_toFunS {l : List S24} (h : OkU l) (k : Nat) (hk : 10000000000000000 ≤ k) : laws_toFunS.f k l = some (l.map cvFun) :=
  laws_toFunS_c _ l h.make k (by have := h.len; omega)
theorem cv_len {l : List S24} (h : OkU l) : ∀ x ∈ l.map cvFun, x.f2.length < 4398046511105 := by
  intro x hx
  obtain ⟨y, hy, rfl⟩ := List.mem_map.1 hx
  simp only [cvFun, List.length_map]
  have := ok_len (h.2 y hy)
  omega
theorem a_eqFunS {l : List S24} (h : OkU l) (k : Nat) (hk : 10000000000000000 ≤ k) : laws_eqFunS.f k (l.map cvFun) (l.map cvFun) = some true := by
  rw [laws_eqFunS_f _ _ (by simp only [List.length_map]; have := h.len; omega) 4398046511105 (by decide) (cv_len h) k (by simp only [List.length_map]; have := h.len; omega)]
  exact congrArg some (unitSame_refl _)
def OkP (l : List (List S24)) : Prop := l.length * 24 ≤ 140737488351232 ∧ ∀ u ∈ l, OkU u
theorem OkP.len {l : List (List S24)} (h : OkP l) : l.length ≤ 5864062014801 := by have := h.1; omega
theorem a_szFunSS {l : List (List S24)} (h : OkP l) (s : Int) (h0 : 0 ≤ s) (h1 : s ≤ 1048576) (k : Nat) (hk : 10000000000000000 ≤ k) : laws_szFunSS.f k l s = some (szL gFunS l s) :=
  laws_szFunSS_f l (by have := h.len; omega) 4398046511105 8000000000000 (fun u hu => (h.2 u hu).fits) (fun u hu => by have := (h.2 u hu).len; omega) s h0 h1 k (by have := h.len; omega)
theorem a_toFunSS {l : List (List S24)} (h : OkP l) (k : Nat) (hk : 10000000000000000 ≤ k) : laws_toFunSS.f k l = some (l.map (List.map cvFun)) :=
  laws_toFunSS_f l (by have := h.len; omega) 4398046511105 8000000000000 (fun u hu => (h.2 u hu).make) (fun u hu => by have := (h.2 u hu).len; omega) k (by have := h.len; omega)
theorem cvs_len {l : List (List S24)} (h : OkP l) : ∀ u ∈ l.map (List.map cvFun), 4398046511105 + u.length < 8000000000000 ∧ ∀ x ∈ u, x.f2.length < 4398046511105 := by
  intro u hu
  obtain ⟨v, hv, rfl⟩ := List.mem_map.1 hu
  exact ⟨by simp only [List.length_map]; have := (h.2 v hv).len; omega, cv_len (h.2 v hv)⟩
theorem a_eqFunSS {l : List (List S24)} (h : OkP l) (k : Nat) (hk : 10000000000000000 ≤ k) : laws_eqFunSS.f k (l.map (List.map cvFun)) (l.map (List.map cvFun)) = some true := by
  rw [laws_eqFunSS_f _ _ (by simp only [List.length_map]; have := h.len; omega) 4398046511105 8000000000000 (by decide) (by decide) (cvs_len h) k (by simp only [List.length_map]; have := h.len; omega)]
  exact congrArg some (all2_refl _ _ (fun u _ => unitSame_refl u))
end Go.Proofs.Ytccknlcokknadaa.L
namespace Go.Proofs.Ytccknlcokknadaa.L
open Go.RowKit Go.Proofs.YtccknlcokknadaaW.PrintWords Go.Proofs.YtccknlcokknadaaW.PrintLast Go.Proofs.YtccknlcokknadaaW.PrintMore Go.Proofs.Ytccknlcokknadaa.P
set_option linter.unusedVariables false
set_option linter.unusedSimpArgs false
/-- No text of the function is too long for an argument. -/
def FitI (x : S88) : Prop := x.f2.size ≤ 140737488351232
def FitF (x : S29) : Prop := x.f0.size ≤ 140737488351232 ∧ x.f2.length ≤ 140737488351232 ∧ ∀ y ∈ x.f2, y.f2.size ≤ 140737488351232
def named (a : ByteArray) (x : S29) : Bool := x.f0.toList == a.toList
def findI (l : List S29) (a : ByteArray) : Int := idxFrom (named a) l 0
def unitGood (l : List S29) : Bool := allFrom (fun i x => funOkB x.f0 x.f2 && (findI l x.f0 == (i : Int))) l 0
def unitOkB (l : List S29) : Bool := unitGood l && decide (l.length ≤ 5)
theorem impl_FunOk_f (x : S29) (h : FitF x) : impl_FunOk.f x.f0 x.f1 x.f2 = some (funOkB x.f0 x.f2) := by
  unfold impl_FunOk.f
  rw [if_pos ⟨h.1, h.2.2⟩]
theorem spec_FunOk_l0 (x : S29) (h : FitF x) (k : Nat) (hk : 140737488351236 + x.f2.length < k) : spec_FunOk.l0 k (x.f2.length : Int) 0 x.f0 x.f1 x.f2 = some (!(x.f2.any fun y => !insOkB y.f0 y.f1 y.f2)) := by
  have e := loop_all (fun _ (y : S88) => insOkB y.f0 y.f1 y.f2) z88 x.f2 true (by have := h.2.1; omega) (fun k i => spec_FunOk.l0 k (x.f2.length : Int) i x.f0 x.f1 x.f2) 140737488351236 ?_ ?_ ?_ k hk
  · rw [e, allFrom_all, Bool.and_true, all_not_any]
  · intro k i hK hi hq
    simp only [spec_FunOk.l0]
    have e := spec_InsOk_f (rd_T88 x.f2 (i : Int)).f0 (rd_T88 x.f2 (i : Int)).f1 (rd_T88 x.f2 (i : Int)).f2 (h.2.2 _ (getD_mem hi)) k (by have : (rd_T88 x.f2 (i : Int)).f2.size ≤ 140737488351232 := h.2.2 _ (getD_mem hi); omega)
    rw [show insOkB (rd_T88 x.f2 (i : Int)).f0 (rd_T88 x.f2 (i : Int)).f1 (rd_T88 x.f2 (i : Int)).f2 = true from hq] at e
    rw [if_pos (by omega), if_pos (by omega), if_pos (by omega), e]
    rfl
  · intro k i hK hi hq
    simp only [spec_FunOk.l0]
    have e := spec_InsOk_f (rd_T88 x.f2 (i : Int)).f0 (rd_T88 x.f2 (i : Int)).f1 (rd_T88 x.f2 (i : Int)).f2 (h.2.2 _ (getD_mem hi)) k (by have : (rd_T88 x.f2 (i : Int)).f2.size ≤ 140737488351232 := h.2.2 _ (getD_mem hi); omega)
    rw [show insOkB (rd_T88 x.f2 (i : Int)).f0 (rd_T88 x.f2 (i : Int)).f1 (rd_T88 x.f2 (i : Int)).f2 = false from hq] at e
    rw [if_pos (by omega), if_pos (by omega), if_pos (by omega), e]
    rfl
  · intro k hK
    simp only [spec_FunOk.l0]
    rw [if_neg (by omega)]
theorem spec_FunOk_f (x : S29) (h : FitF x) (k : Nat) (hk : 140737488351240 + x.f2.length < k) : spec_FunOk.f k x.f0 x.f1 x.f2 = some (funOkB x.f0 x.f2) := by
  obtain ⟨m, rfl⟩ : ∃ m, k = m + 1 := ⟨k - 1, by omega⟩
  have hs := h.1
  have hl := h.2.1
  unfold spec_FunOk.f funOkB
  rw [spec_NameOk_f x.f0 h.1 _ (by omega)]
  simp only [Option.bind_some]
  have j (b : Bool) : spec_FunOk.j0 (m + 1) (x.f2.length : Int) b x.f0 x.f1 x.f2 = some (!b && !(x.f2.any fun y => !insOkB y.f0 y.f1 y.f2)) := by
    simp only [spec_FunOk.j0]
    cases b with
    | true => rfl
    | false => rw [if_neg (by decide), spec_FunOk_l0 x h m (by omega)]; rfl
  cases nameOk x.f0 with
  | false => rw [if_neg (by decide), j]; rfl
  | true =>
    rw [if_pos rfl]
    by_cases h1 : (x.f2.length : Int) < 1
    · have e1 : decide (1 ≤ (x.f2.length : Int)) = false := decide_eq_false (by omega)
      rw [if_pos h1, j, e1]; rfl
    · rw [if_neg h1]
      have e1 : decide (1 ≤ (x.f2.length : Int)) = true := decide_eq_true (by omega)
      by_cases h2 : (x.f2.length : Int) > 10
      · have e2 : decide ((x.f2.length : Int) ≤ 10) = false := decide_eq_false (by omega)
        rw [if_pos h2, j, e1, e2]; rfl
      · rw [if_neg h2]
        have e2 : decide ((x.f2.length : Int) ≤ 10) = true := decide_eq_true (by omega)
        have w : wrap64 ((x.f2.length : Int) - 1) = (x.f2.length : Int) - 1 := wrap_id (by omega) (by omega)
        rw [w, if_pos (by omega), if_pos (by omega), spec_InsLast_f]
        simp only [Option.bind_some]
        rw [j, e1, e2]
        have e3 : (rd_T88 x.f2 ((x.f2.length : Int) - 1)) = x.f2.getD (x.f2.length - 1) z88 := by
          unfold rd_T88
          rw [show ((x.f2.length : Int) - 1).toNat = x.f2.length - 1 by omega]
        rw [e3]
        simp [Bool.and_comm]
theorem spec_l2Find_f (l : List S29) (hn : l.length ≤ 9223372036854775807) (a : ByteArray) (k : Nat) (hk : l.length < k) : spec_l2Find.f k l a = some (findI l a) := by
  unfold spec_l2Find.f findI
  refine loop_idx (named a) z29 l hn (fun k i => spec_l2Find.l0 k l a i) 0 ?_ ?_ ?_ k (by omega)
  · intro k i _ hi hq
    simp only [spec_l2Find.l0]
    rw [if_pos (by omega), if_pos (by omega), if_pos (show (rd_T29 l (i : Int)).f0.toList = a.toList from beq_iff_eq.mp hq)]
  · intro k i _ hi hq
    simp only [spec_l2Find.l0]
    rw [if_pos (by omega), if_pos (by omega), if_neg (show ¬ (rd_T29 l (i : Int)).f0.toList = a.toList from beq_eq_false_iff_ne.mp hq)]
  · intro k _
    simp only [spec_l2Find.l0]
    rw [if_neg (by omega)]
theorem spec_UnitOk_f (l : List S29) (hn : l.length ≤ 140737488351232) (hx : ∀ x ∈ l, FitF x) (k : Nat) (hk : 500000000000000 ≤ k) : spec_UnitOk.f k l = some (unitOkB l) := by
  unfold spec_UnitOk.f unitOkB
  have ed : decide ((l.length : Int) ≤ 5) = decide (l.length ≤ 5) := by congr 1; exact propext ⟨fun h => by omega, fun h => by omega⟩
  rw [← ed]
  have step : ∀ (k i : Nat), 300000000000000 ≤ k → i < l.length → spec_UnitOk.l0 (k + 1) l (i : Int) = if (funOkB (l.getD i z29).f0 (l.getD i z29).f2 && (findI l (l.getD i z29).f0 == (i : Int))) = true then spec_UnitOk.l0 k l (wrap64 ((i : Int) + 1)) else some false := by
    intro k i hK hi
    simp only [spec_UnitOk.l0]
    have hf := hx _ (getD_mem (d := z29) hi)
    have hl2 := hf.2.1
    have e := spec_FunOk_f (rd_T29 l (i : Int)) hf k (by have e0 : rd_T29 l (i : Int) = l.getD i z29 := rfl; rw [e0]; omega)
    rw [if_pos (by omega), if_pos (by omega), e]
    simp only [Option.bind_some]
    show (if funOkB (l.getD i z29).f0 (l.getD i z29).f2 = true then _ else _) = _
    cases funOkB (l.getD i z29).f0 (l.getD i z29).f2 with
    | false => rfl
    | true =>
      rw [if_pos rfl, spec_l2Find_f l (by omega) _ k (by omega)]
      simp only [Option.bind_some, Bool.true_and]
      show (if findI l (l.getD i z29).f0 = (i : Int) then _ else _) = _
      by_cases hq : findI l (l.getD i z29).f0 = (i : Int)
      · rw [if_pos hq, if_pos (beq_iff_eq.mpr hq)]
      · rw [if_neg hq, if_neg (by rw [beq_eq_false_iff_ne.mpr hq]; decide)]
  refine loop_all (fun i x => funOkB x.f0 x.f2 && (findI l x.f0 == (i : Int))) z29 l (decide ((l.length : Int) ≤ 5)) (by omega) (fun k i => spec_UnitOk.l0 k l i) 300000000000000 ?_ ?_ ?_ k (by omega)
  · intro k i hK hi hq
    show spec_UnitOk.l0 (k + 1) l (i : Int) = _
    rw [step k i hK hi, if_pos hq]
  · intro k i hK hi hq
    show spec_UnitOk.l0 (k + 1) l (i : Int) = _
    rw [step k i hK hi, if_neg (by rw [hq]; decide)]
  · intro k _
    simp only [spec_UnitOk.l0]
    rw [if_neg (by omega)]
theorem impl_funsOk_f (l : List S29) (hn : l.length ≤ 140737488351232) (hx : ∀ x ∈ l, FitF x) (k : Nat) (hk : l.length < k) : impl_funsOk.f k l = some (unitGood l) := by
  unfold impl_funsOk.f
  have step : ∀ (k i : Nat), i < l.length → impl_funsOk.l0 (k + 1) l l (l.length : Int) (i : Int) = if (funOkB (l.getD i z29).f0 (l.getD i z29).f2 && (findI l (l.getD i z29).f0 == (i : Int))) = true then impl_funsOk.l0 k l l (l.length : Int) (wrap64 ((i : Int) + 1)) else some false := by
    intro k i hi
    simp only [impl_funsOk.l0]
    have hf := hx _ (getD_mem (d := z29) hi)
    have e := impl_FunOk_f (rd_T29 l (i : Int)) hf
    rw [if_pos (by omega), if_pos (by omega), if_pos (by omega), e]
    simp only [Option.bind_some]
    show (if funOkB (l.getD i z29).f0 (l.getD i z29).f2 = true then _ else _) = _
    cases funOkB (l.getD i z29).f0 (l.getD i z29).f2 with
    | false => rfl
    | true =>
      rw [if_pos rfl]
      simp only [impl_find.f, Option.bind_some, Bool.true_and]
      show (if findI l (l.getD i z29).f0 = (i : Int) then _ else _) = _
      by_cases hq : findI l (l.getD i z29).f0 = (i : Int)
      · rw [if_pos hq, if_pos (beq_iff_eq.mpr hq)]
      · rw [if_neg hq, if_neg (by rw [beq_eq_false_iff_ne.mpr hq]; decide)]
  have e := loop_all (fun i x => funOkB x.f0 x.f2 && (findI l x.f0 == (i : Int))) z29 l true (by omega) (fun k i => impl_funsOk.l0 k l l (l.length : Int) i) 0 ?_ ?_ ?_ k (by omega)
  · rw [e, Bool.and_true]; rfl
  · intro k i hK hi hq
    show impl_funsOk.l0 (k + 1) l l (l.length : Int) (i : Int) = _
    rw [step k i hi, if_pos hq]
  · intro k i hK hi hq
    show impl_funsOk.l0 (k + 1) l l (l.length : Int) (i : Int) = _
    rw [step k i hi, if_neg (by rw [hq]; decide)]
  · intro k _
    simp only [impl_funsOk.l0]
    rw [if_neg (by omega)]
theorem impl_UnitOk_f (l : List S29) (hn : l.length ≤ 140737488351232) (hx : ∀ x ∈ l, FitF x) (k : Nat) (hk : l.length < k) : impl_UnitOk.f k l = some (unitOkB l) := by
  unfold impl_UnitOk.f unitOkB
  by_cases h : l.length ≤ 5
  · rw [if_pos (by omega), impl_funsOk_f l hn hx k hk]
    simp [h]
  · rw [if_neg (by omega)]
    simp [h]
def unitFindI (l : List S29) (a : ByteArray) : Int := if unitOkB l = true then findI l a else -1
theorem impl_UnitFind_f (l : List S29) (hn : l.length ≤ 140737488351232) (hx : ∀ x ∈ l, FitF x) (a : ByteArray) (k : Nat) (hk : l.length < k) : impl_UnitFind.f k l a = some (unitFindI l a) := by
  unfold impl_UnitFind.f unitFindI
  rw [impl_UnitOk_f l hn hx k hk]
  simp only [Option.bind_some]
  split <;> rfl
theorem spec_UnitFind_f (l : List S29) (hn : l.length ≤ 140737488351232) (hx : ∀ x ∈ l, FitF x) (a : ByteArray) (k : Nat) (hk : 500000000000000 ≤ k) : spec_UnitFind.f k l a = some (unitFindI l a) := by
  unfold spec_UnitFind.f unitFindI
  rw [spec_UnitOk_f l hn hx k hk, spec_l2Find_f l (by omega) a k (by omega)]
  simp only [Option.bind_some]
  split <;> rfl
end Go.Proofs.Ytccknlcokknadaa.L
namespace Go.Proofs.Ytccknlcokknadaa.L
open Go.RowKit Go.Proofs.YtccknlcokknadaaW.PrintWords Go.Proofs.YtccknlcokknadaaW.PrintLast Go.Proofs.YtccknlcokknadaaW.PrintMore Go.Proofs.Ytccknlcokknadaa.P
theorem fit_cv {x : S24} (h : Ok24 x) : FitF (cvFun x) := by
  refine ⟨h.1, ?_, fun y hy => ?_⟩
  · simp only [cvFun, List.length_map]
    have := ok_len h
    omega
  · obtain ⟨z, hz, rfl⟩ := List.mem_map.1 hy
    exact (h.2.2.2 z hz).2.2
theorem fits_cv {l : List S24} (h : OkU l) : ∀ x ∈ l.map cvFun, FitF x := by
  intro x hx
  obtain ⟨y, hy, rfl⟩ := List.mem_map.1 hx
  exact fit_cv (h.2 y hy)
end Go.Proofs.Ytccknlcokknadaa.L
