-- LAllL, LRun, PximplFunRefs, LRefs, LLack, LLaid, PureFnExactLayStone: put together by squash.py
import Derived.Test.YtppmalfpggkpdaaSqFnExactLayStone9
import Derived.Test.YtppmalfpggkpdaaSqFnExactLayStone12
import Derived.Test.YtppmalfpggkpdaaSqFnExactLayStone5
import Derived.Test.YtppmalfpggkpdaaSqFnExactLayStone6
import Derived.Test.YtppmalfpggkpdaaSqFnExactLayStone4
import Derived.Test.YtppmalfpggkpdaaSqFnExactLayStone8
import Derived.Test.YtppmalfpggkpdaaSqFnExactLayStone3
import Derived.Test.YtppmalfpggkpdaaSqFnExactLayStone10
import Derived.Test.YtppmalfpggkpdaaSqFnExactLayStone7
import Derived.Test.YtppmalfpggkpdaaSqFnExactLayStone11

/- What the comparisons compute: two lists alike, place by place. -/
namespace Go.Proofs.Ytppmalfpggkpdaa.L
open Go.RowKit Go.Proofs.YtppmalfpggkpdaaW.PrintWords Go.Proofs.YtppmalfpggkpdaaW.PrintLast Go.Proofs.YtppmalfpggkpdaaW.PrintMore Go.Proofs.Ytppmalfpggkpdaa.P
set_option linter.unusedVariables false
set_option linter.unusedSimpArgs false

def insSame (x y : S110) : Bool := (x.f0 == y.f0) && ((x.f1 == y.f1) && (x.f2.toList == y.f2.toList))
theorem insSame_not (x y : S110) : (!(x.f0 == y.f0) || (!(x.f1 == y.f1) || (!(x.f2.toList == y.f2.toList)))) = !insSame x y := by
  simp only [insSame, Bool.not_and]
def funSame (x y : S52) : Bool := (x.f0.toList == y.f0.toList) && ((x.f1 == y.f1) && all2 insSame x.f2 y.f2)
def unitSame (l m : List S52) : Bool := all2 funSame l m
def strSame (a b : ByteArray) : Bool := a.toList == b.toList
def intSame (a b : Int) : Bool := a == b
def laySame (a : List Int) (b : List (List ByteArray)) (c : List Int) (d : List (List ByteArray)) : Bool := all2 intSame a c && all2 (all2 strSame) b d
theorem insSame_refl (x : S110) : insSame x x = true := by simp [insSame]
theorem funSame_refl (x : S52) : funSame x x = true := by simp [funSame, all2_refl insSame _ (fun y _ => insSame_refl y)]
theorem unitSame_refl (l : List S52) : unitSame l l = true := all2_refl _ _ (fun x _ => funSame_refl x)
theorem strSame_refl (a : ByteArray) : strSame a a = true := by simp [strSame]
theorem intSame_refl (a : Int) : intSame a a = true := by simp [intSame]
theorem insSame_comm (x y : S110) : insSame x y = insSame y x := by
  simp only [insSame, Bool.beq_comm (a := x.f0), Bool.beq_comm (a := x.f1), Bool.beq_comm (a := x.f2.toList)]
theorem laws_eqIntS_f (l m : List Int) (hn : l.length ≤ 9223372036854775807) (k : Nat) (hk : l.length < k) : laws_eqIntS.f k l m = some (all2 intSame l m) := by
  unfold laws_eqIntS.f
  by_cases hl : l.length = m.length
  · rw [if_pos (by omega)]
    refine loop_all2 intSame 0 0 l m hl hn (fun k i => laws_eqIntS.l0 k l m i) 0 ?_ ?_ ?_ k (by omega)
    · intro k i hK hi hq
      have hi' : i < m.length := by omega
      simp only [laws_eqIntS.l0]
      rw [if_pos (by omega), if_pos (by omega), if_pos (by omega)]
      rw [if_pos (show rd l (i : Int) = rd m (i : Int) from beq_iff_eq.mp hq)]
    · intro k i hK hi hq
      have hi' : i < m.length := by omega
      simp only [laws_eqIntS.l0]
      rw [if_pos (by omega), if_pos (by omega), if_pos (by omega)]
      rw [if_neg (show ¬ (rd l (i : Int) = rd m (i : Int)) from beq_eq_false_iff_ne.mp hq)]
    · intro k hK
      simp only [laws_eqIntS.l0]
      rw [if_neg (by omega)]
  · rw [if_neg (by omega), all2_len _ _ _ hl]
theorem laws_eqStringS_f (l m : List ByteArray) (hn : l.length ≤ 9223372036854775807) (k : Nat) (hk : l.length < k) : laws_eqStringS.f k l m = some (all2 strSame l m) := by
  unfold laws_eqStringS.f
  by_cases hl : l.length = m.length
  · rw [if_pos (by omega)]
    refine loop_all2 strSame ByteArray.empty ByteArray.empty l m hl hn (fun k i => laws_eqStringS.l0 k l m i) 0 ?_ ?_ ?_ k (by omega)
    · intro k i hK hi hq
      have hi' : i < m.length := by omega
      simp only [laws_eqStringS.l0]
      rw [if_pos (by omega), if_pos (by omega), if_pos (by omega)]
      rw [if_pos (show (rdOf ByteArray.empty l (i : Int)).toList = (rdOf ByteArray.empty m (i : Int)).toList from beq_iff_eq.mp hq)]
    · intro k i hK hi hq
      have hi' : i < m.length := by omega
      simp only [laws_eqStringS.l0]
      rw [if_pos (by omega), if_pos (by omega), if_pos (by omega)]
      rw [if_neg (show ¬ ((rdOf ByteArray.empty l (i : Int)).toList = (rdOf ByteArray.empty m (i : Int)).toList) from beq_eq_false_iff_ne.mp hq)]
    · intro k hK
      simp only [laws_eqStringS.l0]
      rw [if_neg (by omega)]
  · rw [if_neg (by omega), all2_len _ _ _ hl]
end Go.Proofs.Ytppmalfpggkpdaa.L
namespace Go.Proofs.Ytppmalfpggkpdaa.L
open Go.RowKit Go.Proofs.YtppmalfpggkpdaaW.PrintWords Go.Proofs.YtppmalfpggkpdaaW.PrintLast Go.Proofs.YtppmalfpggkpdaaW.PrintMore Go.Proofs.Ytppmalfpggkpdaa.P
set_option linter.unusedVariables false
set_option linter.unusedSimpArgs false

/-- What is left of a bound behind a list. -/
def szL {α : Type} (g : α → Int → Int) (l : List α) (s : Int) : Int := if s < l.length then -1 else szFold g l (s - l.length)
theorem szL_le {α : Type} (g : α → Int → Int) (h : ∀ x s, 0 ≤ s → -1 ≤ g x s ∧ g x s ≤ s) (l : List α) (s : Int) (hs : 0 ≤ s) : -1 ≤ szL g l s ∧ szL g l s ≤ s := by
  unfold szL
  split
  · omega
  · have := szFold_le g h l (s - l.length) (by omega)
    omega
/-- What is left behind a text. -/
def szS (a : ByteArray) (s : Int) : Int := if s < a.size then -1 else s - a.size
theorem szS_le (a : ByteArray) (s : Int) (hs : 0 ≤ s) : -1 ≤ szS a s ∧ szS a s ≤ s := by
  unfold szS
  split <;> omega
/-- How far a text may go. -/
abbrev Fits (s : ByteArray) : Prop := s.size ≤ 140737488351232
theorem szS_wrap (a : ByteArray) (s : Int) (ha : Fits a) (h0 : 0 ≤ s) (h1 : s ≤ 1048576) : (if (wrap64 (s - (a.size : Int))) < 0 then (-1 : Int) else (wrap64 (s - (a.size : Int)))) = szS a s := by
  rw [wrap_id (by omega) (by omega)]
  unfold szS
  by_cases h : s < a.size
  · rw [if_pos (by omega), if_pos h]
  · rw [if_neg (by omega), if_neg h]
theorem len_wrap {s : Int} {n : Nat} (hn : n ≤ 140737488351232) (h0 : 0 ≤ s) (h1 : s ≤ 1048576) : wrap64 (s - (n : Int)) = s - n := wrap_id (by omega) (by omega)
def gIns (x : S154) (s : Int) : Int := szS x.f2 s
theorem gIns_le (x : S154) (s : Int) (h : 0 ≤ s) : -1 ≤ gIns x s ∧ gIns x s ≤ s := szS_le _ _ h
def FitsIns (x : S154) : Prop := Fits x.f2
theorem laws_szIns_g (x : S154) (hx : FitsIns x) (s : Int) (h0 : 0 ≤ s) (h1 : s ≤ 1048576) : laws_szIns.f x.f0 x.f1 x.f2 s = some (gIns x s) := by
  unfold laws_szIns.f gIns
  rw [← szS_wrap x.f2 s hx h0 h1]
  split <;> rfl
theorem laws_szInsS_f (l : List S154) (hn : l.length ≤ 140737488351232) (hx : ∀ x ∈ l, FitsIns x) (s : Int) (h0 : 0 ≤ s) (h1 : s ≤ 1048576) (k : Nat) (hk : l.length < k) : laws_szInsS.f k l s = some (szL gIns l s) := by
  unfold laws_szInsS.f szL
  rw [len_wrap hn h0 h1]
  by_cases h : s < l.length
  · rw [if_pos (by omega), if_pos h]
  · rw [if_neg (by omega), if_neg h]
    refine loop_sz l z154 gIns gIns_le (by omega) (fun k s i => laws_szInsS.l0 k l s i) 0 ?_ ?_ (s - l.length) (by omega) (by omega) k (by omega)
    · intro k i s _ hi h0 h1
      simp only [laws_szInsS.l0]
      rw [if_pos (by omega), if_pos (by omega), laws_szIns_g (rd_T154 l (i : Int)) (hx _ (getD_mem hi)) s h0 h1]
      rfl
    · intro k s _
      simp only [laws_szInsS.l0]
      rw [if_neg (by omega)]
def gFun (x : S95) (s : Int) : Int := if szS x.f0 s < 0 then -1 else szL gIns x.f2 (szS x.f0 s)
theorem gFun_le (x : S95) (s : Int) (h : 0 ≤ s) : -1 ≤ gFun x s ∧ gFun x s ≤ s := by
  unfold gFun
  have := szS_le x.f0 s h
  split
  · omega
  · have := szL_le gIns gIns_le x.f2 (szS x.f0 s) (by omega)
    omega
def FitsFun (x : S95) : Prop := Fits x.f0 ∧ x.f2.length ≤ 140737488351232 ∧ ∀ y ∈ x.f2, FitsIns y
theorem laws_szFun_g (x : S95) (hx : FitsFun x) (s : Int) (h0 : 0 ≤ s) (h1 : s ≤ 1048576) (k : Nat) (hk : x.f2.length < k) : laws_szFun.f k x.f0 x.f1 x.f2 s = some (gFun x s) := by
  unfold laws_szFun.f gFun
  have e := szS_wrap x.f0 s hx.1 h0 h1
  have hb := szS_le x.f0 s h0
  have hs := hx.1
  have w : wrap64 (s - (x.f0.size : Int)) = s - x.f0.size := wrap_id (by have : x.f0.size ≤ 140737488351232 := hs; omega) (by omega)
  rw [w] at e ⊢
  by_cases h : s - (x.f0.size : Int) < 0
  · rw [if_pos h] at e ⊢
    rw [← e, if_pos (by omega)]
  · rw [if_neg h] at e ⊢
    rw [← e, if_neg h, laws_szInsS_f x.f2 hx.2.1 hx.2.2 _ (by omega) (by omega) k hk]
    simp only [Option.bind_some]
    have := szL_le gIns gIns_le x.f2 (s - x.f0.size) (by omega)
    split
    · congr 1; omega
    · rfl
theorem laws_szFunS_f (l : List S95) (hn : l.length ≤ 140737488351232) (hx : ∀ x ∈ l, FitsFun x) (B : Nat) (hB : ∀ x ∈ l, x.f2.length < B) (s : Int) (h0 : 0 ≤ s) (h1 : s ≤ 1048576) (k : Nat) (hk : B + l.length < k) : laws_szFunS.f k l s = some (szL gFun l s) := by
  unfold laws_szFunS.f szL
  rw [len_wrap hn h0 h1]
  by_cases h : s < l.length
  · rw [if_pos (by omega), if_pos h]
  · rw [if_neg (by omega), if_neg h]
    refine loop_sz l z95 gFun gFun_le (by omega) (fun k s i => laws_szFunS.l0 k l s i) B ?_ ?_ (s - l.length) (by omega) (by omega) k (by omega)
    · intro k i s hK hi h0 h1
      simp only [laws_szFunS.l0]
      rw [if_pos (by omega), if_pos (by omega), laws_szFun_g (rd_T95 l (i : Int)) (hx _ (getD_mem hi)) s h0 h1 k (by have := hB _ (getD_mem (d := z95) hi); exact Nat.lt_of_lt_of_le this hK)]
      rfl
    · intro k s _
      simp only [laws_szFunS.l0]
      rw [if_neg (by omega)]
def gFunS (l : List S95) (s : Int) : Int := szL gFun l s
theorem gFunS_le (l : List S95) (s : Int) (h : 0 ≤ s) : -1 ≤ gFunS l s ∧ gFunS l s ≤ s := szL_le _ gFun_le _ _ h
def FitsUnit (B : Nat) (u : List S95) : Prop := u.length ≤ 140737488351232 ∧ (∀ x ∈ u, FitsFun x) ∧ ∀ x ∈ u, x.f2.length < B
theorem laws_szFunS_g (B : Nat) (l : List S95) (hl : FitsUnit B l) (s : Int) (h0 : 0 ≤ s) (h1 : s ≤ 1048576) (k : Nat) (hk : B + l.length < k) : laws_szFunS.f k l s = some (gFunS l s) := laws_szFunS_f l hl.1 hl.2.1 B hl.2.2 s h0 h1 k hk
def szN (n : Nat) (s : Int) : Int := if s < n then -1 else s - n
theorem szN_le (n : Nat) (s : Int) (hs : 0 ≤ s) : -1 ≤ szN n s ∧ szN n s ≤ s := by
  unfold szN
  split <;> omega
theorem laws_szIntS_f (l : List Int) (hn : l.length ≤ 140737488351232) (s : Int) (h0 : 0 ≤ s) (h1 : s ≤ 1048576) : laws_szIntS.f l s = some (szN l.length s) := by
  unfold laws_szIntS.f szN
  rw [len_wrap hn h0 h1]
  by_cases h : s < l.length
  · rw [if_pos (by omega), if_pos h]
  · rw [if_neg (by omega), if_neg h]
theorem laws_szStringS_f (l : List ByteArray) (hn : l.length ≤ 140737488351232) (hx : ∀ x ∈ l, Fits x) (s : Int) (h0 : 0 ≤ s) (h1 : s ≤ 1048576) (k : Nat) (hk : l.length < k) : laws_szStringS.f k l s = some (szL szS l s) := by
  unfold laws_szStringS.f szL
  rw [len_wrap hn h0 h1]
  by_cases h : s < l.length
  · rw [if_pos (by omega), if_pos h]
  · rw [if_neg (by omega), if_neg h]
    refine loop_sz l ByteArray.empty szS szS_le (by omega) (fun k s i => laws_szStringS.l0 k l s i) 0 ?_ ?_ (s - l.length) (by omega) (by omega) k (by omega)
    · intro k i s _ hi h0 h1
      simp only [laws_szStringS.l0]
      rw [if_pos (by omega), if_pos (by omega)]
      have e := szS_wrap (rdOf ByteArray.empty l (i : Int)) s (hx _ (getD_mem hi)) h0 h1
      have hb := szS_le (rdOf ByteArray.empty l (i : Int)) s h0
      show _ = if szS (rdOf ByteArray.empty l (i : Int)) s < 0 then some (-1) else laws_szStringS.l0 k l (szS (rdOf ByteArray.empty l (i : Int)) s) _
      by_cases hw : wrap64 (s - ((rdOf ByteArray.empty l (i : Int)).size : Int)) < 0
      · rw [if_pos hw] at e ⊢
        rw [← e, if_pos (by decide)]
      · rw [if_neg hw] at e ⊢
        rw [← e, if_neg hw]
    · intro k s _
      simp only [laws_szStringS.l0]
      rw [if_neg (by omega)]
def gStrS (l : List ByteArray) (s : Int) : Int := szL szS l s
theorem gStrS_le (l : List ByteArray) (s : Int) (h : 0 ≤ s) : -1 ≤ gStrS l s ∧ gStrS l s ≤ s := szL_le _ szS_le _ _ h
theorem laws_szStringSS_f (l : List (List ByteArray)) (hn : l.length ≤ 140737488351232) (hx : ∀ x ∈ l, (x.length ≤ 140737488351232 ∧ ∀ y ∈ x, Fits y)) (B : Nat) (hB : ∀ x ∈ l, x.length < B) (s : Int) (h0 : 0 ≤ s) (h1 : s ≤ 1048576) (k : Nat) (hk : B + l.length < k) : laws_szStringSS.f k l s = some (szL gStrS l s) := by
  unfold laws_szStringSS.f szL
  rw [len_wrap hn h0 h1]
  by_cases h : s < l.length
  · rw [if_pos (by omega), if_pos h]
  · rw [if_neg (by omega), if_neg h]
    refine loop_sz l [] gStrS gStrS_le (by omega) (fun k s i => laws_szStringSS.l0 k l s i) B ?_ ?_ (s - l.length) (by omega) (by omega) k (by omega)
    · intro k i s hK hi h0 h1
      simp only [laws_szStringSS.l0]
      rw [if_pos (by omega), if_pos (by omega), laws_szStringS_f (rd_L14 l (i : Int)) (hx _ (getD_mem hi)).1 (hx _ (getD_mem hi)).2 s h0 h1 k (by have := hB _ (getD_mem (d := []) hi); exact Nat.lt_of_lt_of_le this hK)]
      rfl
    · intro k s _
      simp only [laws_szStringSS.l0]
      rw [if_neg (by omega)]
def cvIns (x : S154) : S110 := ⟨x.f0, x.f1, x.f2⟩
theorem laws_toIns_c (x : S154) : laws_toIns.f x.f0 x.f1 x.f2 = some (x.f0, x.f1, x.f2) := rfl
theorem laws_toInsS_f (l : List S154) (hn : l.length ≤ 8796093022208) (k : Nat) (hk : l.length < k) : laws_toInsS.f k l = some (l.map cvIns) := by
  unfold laws_toInsS.f
  rw [if_pos (by omega), if_pos (by omega)]
  refine loop_fill l z154 z110 cvIns (by omega) (fun k acc i => laws_toInsS.l0 k l acc i) 0 ?_ ?_ k (by omega)
  · intro k i acc hK hi ha
    simp only [laws_toInsS.l0]
    rw [if_pos (by omega), if_pos (by omega), laws_toIns_c (rd_T154 l (i : Int))]
    simp only [Option.bind_some]
    rw [if_pos (by omega)]
    rfl
  · intro k acc _
    simp only [laws_toInsS.l0]
    rw [if_neg (by omega)]
def cvFun (x : S95) : S52 := ⟨x.f0, x.f1, x.f2.map cvIns⟩
theorem laws_toFun_c (x : S95) (hn : x.f2.length ≤ 8796093022208) (k : Nat) (hk : x.f2.length < k) : laws_toFun.f k x.f0 x.f1 x.f2 = some (x.f0, x.f1, x.f2.map cvIns) := by
  unfold laws_toFun.f
  rw [laws_toInsS_f x.f2 hn k hk]
  rfl
theorem laws_toFunS_f (l : List S95) (hn : l.length ≤ 5864062014805) (hx : ∀ x ∈ l, x.f2.length ≤ 8796093022208) (B : Nat) (hB : ∀ x ∈ l, x.f2.length < B) (k : Nat) (hk : B + l.length < k) : laws_toFunS.f k l = some (l.map cvFun) := by
  unfold laws_toFunS.f
  rw [if_pos (by omega), if_pos (by omega)]
  refine loop_fill l z95 z52 cvFun (by omega) (fun k acc i => laws_toFunS.l0 k l acc i) B ?_ ?_ k (by omega)
  · intro k i acc hK hi ha
    simp only [laws_toFunS.l0]
    rw [if_pos (by omega), if_pos (by omega), laws_toFun_c (rd_T95 l (i : Int)) (hx _ (getD_mem hi)) k (by have := hB _ (getD_mem (d := z95) hi); exact Nat.lt_of_lt_of_le this hK)]
    simp only [Option.bind_some]
    rw [if_pos (by omega)]
    rfl
  · intro k acc _
    simp only [laws_toFunS.l0]
    rw [if_neg (by omega)]
def FitsMake (B : Nat) (u : List S95) : Prop := u.length ≤ 5864062014805 ∧ (∀ x ∈ u, x.f2.length ≤ 8796093022208) ∧ ∀ x ∈ u, x.f2.length < B
theorem laws_toFunS_c (B : Nat) (l : List S95) (hl : FitsMake B l) (k : Nat) (hk : B + l.length < k) : laws_toFunS.f k l = some (l.map cvFun) := laws_toFunS_f l hl.1 hl.2.1 B hl.2.2 k hk
theorem laws_toIntS_f (l : List Int) (hn : l.length ≤ 35184372088832) (k : Nat) (hk : l.length < k) : laws_toIntS.f k l = some (l.map id) := by
  unfold laws_toIntS.f
  rw [if_pos (by omega), if_pos (by omega)]
  refine loop_fill l 0 0 id (by omega) (fun k acc i => laws_toIntS.l0 k l acc i) 0 ?_ ?_ k (by omega)
  · intro k i acc hK hi ha
    simp only [laws_toIntS.l0]
    rw [if_pos (by omega), if_pos (by omega), if_pos (by omega)]
    rfl
  · intro k acc _
    simp only [laws_toIntS.l0]
    rw [if_neg (by omega)]
theorem laws_toStringS_f (l : List ByteArray) (hn : l.length ≤ 17592186044416) (k : Nat) (hk : l.length < k) : laws_toStringS.f k l = some (l.map id) := by
  unfold laws_toStringS.f
  rw [if_pos (by omega), if_pos (by omega)]
  refine loop_fill l ByteArray.empty (⟨#[]⟩ : ByteArray) id (by omega) (fun k acc i => laws_toStringS.l0 k l acc i) 0 ?_ ?_ k (by omega)
  · intro k i acc hK hi ha
    simp only [laws_toStringS.l0]
    rw [if_pos (by omega), if_pos (by omega), if_pos (by omega)]
    rfl
  · intro k acc _
    simp only [laws_toStringS.l0]
    rw [if_neg (by omega)]
theorem laws_toStringS_c (l : List ByteArray) (hn : l.length ≤ 17592186044416) (k : Nat) (hk : l.length < k) : laws_toStringS.f k l = some l := by
  rw [laws_toStringS_f l hn k hk, List.map_id]
theorem laws_toStringSS_f (l : List (List ByteArray)) (hn : l.length ≤ 11728124029610) (B : Nat) (hx : ∀ x ∈ l, x.length ≤ 17592186044416) (hB : ∀ x ∈ l, x.length < B) (k : Nat) (hk : B + l.length < k) : laws_toStringSS.f k l = some (l.map id) := by
  unfold laws_toStringSS.f
  rw [if_pos (by omega), if_pos (by omega)]
  refine loop_fill l [] [] id (by omega) (fun k acc i => laws_toStringSS.l0 k l acc i) B ?_ ?_ k (by omega)
  · intro k i acc hK hi ha
    simp only [laws_toStringSS.l0]
    rw [if_pos (by omega), if_pos (by omega), laws_toStringS_c (rd_L14 l (i : Int)) (hx _ (getD_mem hi)) k (by have := hB _ (getD_mem (d := []) hi); exact Nat.lt_of_lt_of_le this hK)]
    simp only [Option.bind_some]
    rw [if_pos (by omega)]
    rfl
  · intro k acc _
    simp only [laws_toStringSS.l0]
    rw [if_neg (by omega)]
theorem laws_eqIns_f (x y : S110) : laws_eqIns.f x.f0 x.f1 x.f2 y.f0 y.f1 y.f2 = some (insSame x y) := by
  unfold laws_eqIns.f insSame
  by_cases h0 : x.f0 = y.f0
  · rw [if_pos h0, beq_iff_eq.mpr h0]
    by_cases h1 : x.f1 = y.f1
    · rw [if_pos h1, beq_iff_eq.mpr h1]
      by_cases h2 : x.f2.toList = y.f2.toList
      · rw [if_pos h2, beq_iff_eq.mpr h2]; rfl
      · rw [if_neg h2, beq_eq_false_iff_ne.mpr h2]; rfl
    · rw [if_neg h1, beq_eq_false_iff_ne.mpr h1]; rfl
  · rw [if_neg h0, beq_eq_false_iff_ne.mpr h0]; rfl
theorem laws_eqInsS_f (l m : List S110) (hn : l.length ≤ 9223372036854775807) (k : Nat) (hk : l.length < k) : laws_eqInsS.f k l m = some (all2 insSame l m) := by
  unfold laws_eqInsS.f
  by_cases hl : l.length = m.length
  · rw [if_pos (by omega)]
    refine loop_all2 insSame z110 z110 l m hl hn (fun k i => laws_eqInsS.l0 k l m i) 0 ?_ ?_ ?_ k (by omega)
    · intro k i hK hi hq
      have hi' : i < m.length := by omega
      simp only [laws_eqInsS.l0]
      rw [if_pos (by omega), if_pos (by omega), if_pos (by omega)]
      have e := laws_eqIns_f (rd_T110 l (i : Int)) (rd_T110 m (i : Int))
      rw [show insSame (rd_T110 l (i : Int)) (rd_T110 m (i : Int)) = true from hq] at e
      rw [e]
      rfl
    · intro k i hK hi hq
      have hi' : i < m.length := by omega
      simp only [laws_eqInsS.l0]
      rw [if_pos (by omega), if_pos (by omega), if_pos (by omega)]
      have e := laws_eqIns_f (rd_T110 l (i : Int)) (rd_T110 m (i : Int))
      rw [show insSame (rd_T110 l (i : Int)) (rd_T110 m (i : Int)) = false from hq] at e
      rw [e]
      rfl
    · intro k hK
      simp only [laws_eqInsS.l0]
      rw [if_neg (by omega)]
  · rw [if_neg (by omega), all2_len _ _ _ hl]
theorem laws_eqFun_f (x y : S52) (hn : x.f2.length ≤ 9223372036854775807) (k : Nat) (hk : x.f2.length < k) : laws_eqFun.f k x.f0 x.f1 x.f2 y.f0 y.f1 y.f2 = some (funSame x y) := by
  unfold laws_eqFun.f
  rw [laws_eqInsS_f x.f2 y.f2 hn k hk]
  by_cases h : x.f0.toList = y.f0.toList
  · rw [if_pos h]
    cases h2 : (x.f1 == y.f1) with
    | true =>
      rw [if_neg (by simp only [bne, h2]; decide)]
      cases h3 : all2 insSame x.f2 y.f2 <;> simp [funSame, h, h2, h3]
    | false =>
      rw [if_pos (by simp only [bne, h2]; decide)]
      simp [funSame, h, h2]
  · rw [if_neg h]
    simp [funSame, beq_eq_false_iff_ne.mpr h]
theorem laws_eqFunS_f (l m : List S52) (hn : l.length ≤ 9223372036854775807) (B : Nat) (hB : B ≤ 9223372036854775807) (hb : ∀ x ∈ l, x.f2.length < B) (k : Nat) (hk : B + l.length < k) : laws_eqFunS.f k l m = some (all2 funSame l m) := by
  unfold laws_eqFunS.f
  by_cases hl : l.length = m.length
  · rw [if_pos (by omega)]
    refine loop_all2 funSame z52 z52 l m hl hn (fun k i => laws_eqFunS.l0 k l m i) B ?_ ?_ ?_ k (by omega)
    · intro k i hK hi hq
      have hi' : i < m.length := by omega
      simp only [laws_eqFunS.l0]
      rw [if_pos (by omega), if_pos (by omega), if_pos (by omega)]
      have e := laws_eqFun_f (rd_T52 l (i : Int)) (rd_T52 m (i : Int)) (by have := hb _ (getD_mem (d := z52) hi); have e0 : rd_T52 l (i : Int) = l.getD i z52 := rfl; rw [e0]; omega) k (by have := hb _ (getD_mem (d := z52) hi); have e0 : rd_T52 l (i : Int) = l.getD i z52 := rfl; rw [e0]; omega)
      rw [show funSame (rd_T52 l (i : Int)) (rd_T52 m (i : Int)) = true from hq] at e
      rw [e]
      rfl
    · intro k i hK hi hq
      have hi' : i < m.length := by omega
      simp only [laws_eqFunS.l0]
      rw [if_pos (by omega), if_pos (by omega), if_pos (by omega)]
      have e := laws_eqFun_f (rd_T52 l (i : Int)) (rd_T52 m (i : Int)) (by have := hb _ (getD_mem (d := z52) hi); have e0 : rd_T52 l (i : Int) = l.getD i z52 := rfl; rw [e0]; omega) k (by have := hb _ (getD_mem (d := z52) hi); have e0 : rd_T52 l (i : Int) = l.getD i z52 := rfl; rw [e0]; omega)
      rw [show funSame (rd_T52 l (i : Int)) (rd_T52 m (i : Int)) = false from hq] at e
      rw [e]
      rfl
    · intro k hK
      simp only [laws_eqFunS.l0]
      rw [if_neg (by omega)]
  · rw [if_neg (by omega), all2_len _ _ _ hl]
theorem laws_eqFunS_u (l m : List S52) (hn : l.length ≤ 9223372036854775807) (B : Nat) (hB : B ≤ 9223372036854775807) (hb : ∀ x ∈ l, x.f2.length < B) (k : Nat) (hk : B + l.length < k) : laws_eqFunS.f k l m = some (unitSame l m) := laws_eqFunS_f l m hn B hB hb k hk
def strsSame (l m : List ByteArray) : Bool := all2 strSame l m
theorem laws_eqStringS_u (l m : List ByteArray) (hn : l.length ≤ 9223372036854775807) (k : Nat) (hk : l.length < k) : laws_eqStringS.f k l m = some (strsSame l m) := laws_eqStringS_f l m hn k hk
theorem laws_eqStringSS_f (l m : List (List ByteArray)) (hn : l.length ≤ 9223372036854775807) (B : Nat) (hB : B ≤ 9223372036854775807) (hb : ∀ x ∈ l, x.length < B) (k : Nat) (hk : B + l.length < k) : laws_eqStringSS.f k l m = some (all2 strsSame l m) := by
  unfold laws_eqStringSS.f
  by_cases hl : l.length = m.length
  · rw [if_pos (by omega)]
    refine loop_all2 strsSame [] [] l m hl hn (fun k i => laws_eqStringSS.l0 k l m i) B ?_ ?_ ?_ k (by omega)
    · intro k i hK hi hq
      have hi' : i < m.length := by omega
      simp only [laws_eqStringSS.l0]
      rw [if_pos (by omega), if_pos (by omega), if_pos (by omega)]
      have e := laws_eqStringS_u (rd_L14 l (i : Int)) (rd_L14 m (i : Int)) (by have := hb _ (getD_mem (d := []) hi); have e0 : rd_L14 l (i : Int) = l.getD i [] := rfl; rw [e0]; omega) k (by have := hb _ (getD_mem (d := []) hi); have e0 : rd_L14 l (i : Int) = l.getD i [] := rfl; rw [e0]; omega)
      rw [show strsSame (rd_L14 l (i : Int)) (rd_L14 m (i : Int)) = true from hq] at e
      rw [e]
      rfl
    · intro k i hK hi hq
      have hi' : i < m.length := by omega
      simp only [laws_eqStringSS.l0]
      rw [if_pos (by omega), if_pos (by omega), if_pos (by omega)]
      have e := laws_eqStringS_u (rd_L14 l (i : Int)) (rd_L14 m (i : Int)) (by have := hb _ (getD_mem (d := []) hi); have e0 : rd_L14 l (i : Int) = l.getD i [] := rfl; rw [e0]; omega) k (by have := hb _ (getD_mem (d := []) hi); have e0 : rd_L14 l (i : Int) = l.getD i [] := rfl; rw [e0]; omega)
      rw [show strsSame (rd_L14 l (i : Int)) (rd_L14 m (i : Int)) = false from hq] at e
      rw [e]
      rfl
    · intro k hK
      simp only [laws_eqStringSS.l0]
      rw [if_neg (by omega)]
  · rw [if_neg (by omega), all2_len _ _ _ hl]
end Go.Proofs.Ytppmalfpggkpdaa.L
namespace Go.Proofs.Ytppmalfpggkpdaa.L
open Go.RowKit Go.Proofs.YtppmalfpggkpdaaW.PrintWords Go.Proofs.YtppmalfpggkpdaaW.PrintLast Go.Proofs.YtppmalfpggkpdaaW.PrintMore Go.Proofs.Ytppmalfpggkpdaa.P
set_option linter.unusedVariables false
set_option linter.unusedSimpArgs false
theorem ok_fits {x : S95} (h : Ok95 x) : FitsFun x := ⟨h.1, by have := h.2.2.1; omega, fun y hy => (h.2.2.2 y hy).2.2⟩
theorem ok_len {x : S95} (h : Ok95 x) : x.f2.length ≤ 4398046511104 := by have := h.2.2.1; omega
theorem a_szFun {x : S95} (h : Ok95 x) (s : Int) (h0 : 0 ≤ s) (h1 : s ≤ 1048576) (k : Nat) (hk : 10000000000000000 ≤ k) : laws_szFun.f k x.f0 x.f1 x.f2 s = some (gFun x s) :=
  laws_szFun_g x (ok_fits h) s h0 h1 k (by have := ok_len h; omega)
theorem a_toFun {x : S95} (h : Ok95 x) (k : Nat) (hk : 10000000000000000 ≤ k) : laws_toFun.f k x.f0 x.f1 x.f2 = some (x.f0, x.f1, x.f2.map cvIns) :=
  laws_toFun_c x (by have := ok_len h; omega) k (by have := ok_len h; omega)
theorem a_eqFun {x : S95} (h : Ok95 x) (k : Nat) (hk : 10000000000000000 ≤ k) : laws_eqFun.f k x.f0 x.f1 (x.f2.map cvIns) x.f0 x.f1 (x.f2.map cvIns) = some true := by
  have e := laws_eqFun_f (cvFun x) (cvFun x) (by simp only [cvFun, List.length_map]; have := ok_len h; omega) k (by simp only [cvFun, List.length_map]; have := ok_len h; omega)
  rw [funSame_refl] at e
  exact e
def OkU (l : List S95) : Prop := l.length * 48 ≤ 140737488351232 ∧ ∀ x ∈ l, Ok95 x
theorem OkU.len {l : List S95} (h : OkU l) : l.length ≤ 2932031007402 := by have := h.1; omega
theorem OkU.fits {l : List S95} (h : OkU l) : FitsUnit 4398046511105 l := ⟨by have := h.len; omega, fun x hx => ok_fits (h.2 x hx), fun x hx => by have := ok_len (h.2 x hx); omega⟩
theorem OkU.make {l : List S95} (h : OkU l) : FitsMake 4398046511105 l := ⟨by have := h.len; omega, fun x hx => by have := ok_len (h.2 x hx); omega, fun x hx => by have := ok_len (h.2 x hx); omega⟩
theorem a_szFunS {l : List S95} (h : OkU l) (s : Int) (h0 : 0 ≤ s) (h1 : s ≤ 1048576) (k : Nat) (hk : 10000000000000000 ≤ k) : laws_szFunS.f k l s = some (gFunS l s) :=
  laws_szFunS_g _ l h.fits s h0 h1 k (by have := h.len; omega)
theorem a_toFunS {l : List S95} (h : OkU l) (k : Nat) (hk : 10000000000000000 ≤ k) : laws_toFunS.f k l = some (l.map cvFun) :=
  laws_toFunS_c _ l h.make k (by have := h.len; omega)
theorem cv_len {l : List S95} (h : OkU l) : ∀ x ∈ l.map cvFun, x.f2.length < 4398046511105 := by
  intro x hx
  obtain ⟨y, hy, rfl⟩ := List.mem_map.1 hx
  simp only [cvFun, List.length_map]
  have := ok_len (h.2 y hy)
  omega
theorem a_eqFunS {l : List S95} (h : OkU l) (k : Nat) (hk : 10000000000000000 ≤ k) : laws_eqFunS.f k (l.map cvFun) (l.map cvFun) = some true := by
  rw [laws_eqFunS_f _ _ (by simp only [List.length_map]; have := h.len; omega) 4398046511105 (by decide) (cv_len h) k (by simp only [List.length_map]; have := h.len; omega)]
  exact congrArg some (unitSame_refl _)
def gLay (x : S77) (s : Int) : Int := if szN x.f0.length s < 0 then -1 else szL gStrS x.f1 (szN x.f0.length s)
theorem gLay_le (x : S77) (s : Int) (h : 0 ≤ s) : -1 ≤ gLay x s ∧ gLay x s ≤ s := by
  unfold gLay
  have := szN_le x.f0.length s h
  split
  · omega
  · have := szL_le gStrS gStrS_le x.f1 (szN x.f0.length s) (by omega)
    omega
theorem lay_len {x : S77} (h : Ok77 x) : x.f0.length ≤ 17592186043904 ∧ x.f1.length ≤ 5864062014801 ∧ ∀ l ∈ x.f1, l.length < 8796093021953 :=
  ⟨by have := h.1.1; omega, by have := h.2.1; omega, fun l hl => by have := (h.2.2 l hl).1; omega⟩
theorem a_szLay {x : S77} (h : Ok77 x) (s : Int) (h0 : 0 ≤ s) (h1 : s ≤ 1048576) (k : Nat) (hk : 10000000000000000 ≤ k) : laws_szLay.f k x.f0 x.f1 s = some (gLay x s) := by
  have hl := lay_len h
  unfold laws_szLay.f gLay
  rw [laws_szIntS_f x.f0 (by omega) s h0 h1]
  simp only [Option.bind_some]
  have b := szN_le x.f0.length s h0
  by_cases c : szN x.f0.length s < 0
  · rw [if_pos c, if_pos c]
  · rw [if_neg c, if_neg c, laws_szStringSS_f x.f1 (by omega) (fun l hl2 => ⟨by have := hl.2.2 l hl2; omega, (h.2.2 l hl2).2⟩) 8796093021953 hl.2.2 _ (by omega) (by omega) k (by omega)]
    simp only [Option.bind_some]
    have := szL_le gStrS gStrS_le x.f1 (szN x.f0.length s) (by omega)
    split
    · congr 1; omega
    · rfl
theorem a_toLay {x : S77} (h : Ok77 x) (k : Nat) (hk : 10000000000000000 ≤ k) : laws_toLay.f k x.f0 x.f1 = some (x.f0, x.f1) := by
  have hl := lay_len h
  unfold laws_toLay.f
  rw [laws_toIntS_f x.f0 (by omega) k (by omega), laws_toStringSS_f x.f1 (by omega) 8796093021953 (fun l hl2 => by have := hl.2.2 l hl2; omega) hl.2.2 k (by omega)]
  simp
theorem a_eqLay {x : S77} (h : Ok77 x) (k : Nat) (hk : 10000000000000000 ≤ k) : laws_eqLay.f k x.f0 x.f1 x.f0 x.f1 = some true := by
  have hl := lay_len h
  unfold laws_eqLay.f
  rw [laws_eqIntS_f x.f0 x.f0 (by omega) k (by omega), laws_eqStringSS_f x.f1 x.f1 (by omega) 8796093021953 (by decide) hl.2.2 k (by omega)]
  have e1 : all2 intSame x.f0 x.f0 = true := all2_refl _ _ (fun a _ => intSame_refl a)
  have e2 : all2 strsSame x.f1 x.f1 = true := all2_refl _ _ (fun l _ => all2_refl _ _ (fun a _ => strSame_refl a))
  simp only [Option.bind_some, e1, e2, if_true]
end Go.Proofs.Ytppmalfpggkpdaa.L
namespace Go.Proofs.Ytppmalfpggkpdaa.L
open Go.RowKit Go.Proofs.YtppmalfpggkpdaaW.PrintWords Go.Proofs.YtppmalfpggkpdaaW.PrintLast Go.Proofs.YtppmalfpggkpdaaW.PrintMore Go.Proofs.Ytppmalfpggkpdaa.P
theorem fit_cv {x : S95} (h : Ok95 x) : FitF (cvFun x) := by
  refine ⟨h.1, ?_, fun y hy => ?_⟩
  · simp only [cvFun, List.length_map]
    have := ok_len h
    omega
  · obtain ⟨z, hz, rfl⟩ := List.mem_map.1 hy
    exact (h.2.2.2 z hz).2.2
theorem fits_cv {l : List S95} (h : OkU l) : ∀ x ∈ l.map cvFun, FitF x := by
  intro x hx
  obtain ⟨y, hy, rfl⟩ := List.mem_map.1 hx
  exact fit_cv (h.2 y hy)
end Go.Proofs.Ytppmalfpggkpdaa.L

/- Loops over a list with a state, told once. -/
namespace Go.Proofs.Ytppmalfpggkpdaa.L
open Go.RowKit Go.Proofs.YtppmalfpggkpdaaW.PrintWords Go.Proofs.YtppmalfpggkpdaaW.PrintLast Go.Proofs.YtppmalfpggkpdaaW.PrintMore Go.Proofs.Ytppmalfpggkpdaa.P
set_option linter.unusedVariables false
set_option linter.unusedSimpArgs false
/-- A walk over a list with a state, that may end early. -/
def runS {α σ β : Type} (f : Nat → α → σ → σ ⊕ β) (E : σ → β) : List α → Nat → σ → β
  | [], _, s => E s
  | x :: l, i, s => match f i x s with
    | .inl s' => runS f E l (i + 1) s'
    | .inr r => r
theorem loop_run {α σ β : Type} (f : Nat → α → σ → σ ⊕ β) (E : Nat → σ → β) (I : Nat → σ → Prop) (d : α) (l : List α) (hn : l.length ≤ 9223372036854775806) (L : Nat → σ → Int → β) (K : Nat)
    (hS : ∀ (k i : Nat) (s : σ), K ≤ k → i < l.length → I i s → L (k + 1) s (i : Int) = match f i (l.getD i d) s with | .inl s' => L k s' (wrap64 ((i : Int) + 1)) | .inr r => r)
    (hI : ∀ (i : Nat) (s s' : σ), i < l.length → I i s → f i (l.getD i d) s = .inl s' → I (i + 1) s')
    (hE : ∀ (k : Nat) (s : σ), K ≤ k → I l.length s → L (k + 1) s (l.length : Int) = E k s) (k : Nat) (hk : K + l.length < k) (s : σ) (h0 : I 0 s) : L k s 0 = runS f (E (k - l.length - 1)) l 0 s := by
  have key : ∀ (n k i : Nat) (s : σ), i + n = l.length → K + n < k → I i s → L k s (i : Int) = runS f (E (k - n - 1)) (l.drop i) i s := by
    intro n
    induction n with
    | zero =>
      intro k i s hi hk hs
      obtain ⟨k, rfl, _⟩ := succ_of hk
      have : i = l.length := by omega
      subst this
      rw [hE k s (by omega) hs, List.drop_length]
      rfl
    | succ n ih =>
      intro k i s hi hk hs
      obtain ⟨k, rfl, _⟩ := succ_of hk
      rw [hS k i s (by omega) (by omega) hs, drop_getD l d i (by omega)]
      simp only [runS]
      cases hf : f i (l.getD i d) s with
      | inr r => rfl
      | inl s' =>
        simp only
        rw [wrap_id (by omega) (by omega)]
        have h2 := ih k (i + 1) s' (by omega) (by omega) (hI i s s' (by omega) hs hf)
        rw [show k + 1 - (n + 1) - 1 = k - n - 1 by omega, ← h2]
        rfl
  have h := key l.length k 0 s (by omega) hk h0
  simpa using h
/-- A loop whose rounds hold loops: each takes up to c more rounds of fuel. -/
theorem loop_var {α σ β : Type} (f : Nat → α → σ → σ ⊕ β) (E : σ → β) (I : Nat → σ → Prop) (d : α) (l : List α) (hn : l.length ≤ 9223372036854775806) (L : Nat → σ → Int → β) (K c : Nat)
    (hS : ∀ (k i : Nat) (s : σ), K ≤ k → i < l.length → I i s → match f i (l.getD i d) s with
      | .inl s' => I (i + 1) s' ∧ ∃ k', k ≤ k' + c ∧ L (k + 1) s (i : Int) = L k' s' (wrap64 ((i : Int) + 1))
      | .inr r => L (k + 1) s (i : Int) = r)
    (hE : ∀ (k : Nat) (s : σ), K ≤ k → I l.length s → L (k + 1) s (l.length : Int) = E s) (k : Nat) (hk : K + l.length * (c + 1) < k) (s : σ) (h0 : I 0 s) : L k s 0 = runS f E l 0 s := by
  have key : ∀ (n k i : Nat) (s : σ), i + n = l.length → K + n * (c + 1) < k → I i s → L k s (i : Int) = runS f E (l.drop i) i s := by
    intro n
    induction n with
    | zero =>
      intro k i s hi hk hs
      obtain ⟨k, rfl, _⟩ := succ_of hk
      have : i = l.length := by omega
      subst this
      rw [hE k s (by omega) hs, List.drop_length]
      rfl
    | succ n ih =>
      intro k i s hi hk hs
      rw [Nat.succ_mul] at hk
      obtain ⟨k, rfl, _⟩ := succ_of hk
      have h := hS k i s (by omega) (by omega) hs
      rw [drop_getD l d i (by omega)]
      simp only [runS]
      cases hf : f i (l.getD i d) s with
      | inr r => rw [hf] at h; exact h
      | inl s' =>
        rw [hf] at h
        obtain ⟨h1, k', h2, h3⟩ := h
        simp only
        rw [h3, wrap_id (by omega) (by omega)]
        have h4 := ih k' (i + 1) s' (by omega) (by omega) h1
        rw [← h4]
        rfl
  have h := key l.length k 0 s (by omega) hk h0
  simpa using h
/-- .. and goes on with what fuel is left. -/
theorem loop_vark {α σ β : Type} (f : Nat → α → σ → σ ⊕ β) (E : Nat → σ → β) (I : Nat → σ → Prop) (d : α) (l : List α) (hn : l.length ≤ 9223372036854775806) (L : Nat → σ → Int → β) (K c : Nat)
    (hS : ∀ (k i : Nat) (s : σ), K ≤ k → i < l.length → I i s → match f i (l.getD i d) s with
      | .inl s' => I (i + 1) s' ∧ ∃ k', k ≤ k' + c ∧ L (k + 1) s (i : Int) = L k' s' (wrap64 ((i : Int) + 1))
      | .inr r => L (k + 1) s (i : Int) = r)
    (hE : ∀ (k : Nat) (s : σ), K ≤ k → I l.length s → L (k + 1) s (l.length : Int) = E k s) (k : Nat) (hk : K + l.length * (c + 1) < k) (s : σ) (h0 : I 0 s) : ∃ k', k ≤ k' + (l.length * (c + 1) + 1) ∧ L k s 0 = runS f (E k') l 0 s := by
  have key : ∀ (n k i : Nat) (s : σ), i + n = l.length → K + n * (c + 1) < k → I i s → ∃ k', k ≤ k' + (n * (c + 1) + 1) ∧ L k s (i : Int) = runS f (E k') (l.drop i) i s := by
    intro n
    induction n with
    | zero =>
      intro k i s hi hk hs
      obtain ⟨k, rfl, _⟩ := succ_of hk
      have : i = l.length := by omega
      subst this
      refine ⟨k, by omega, ?_⟩
      rw [hE k s (by omega) hs, List.drop_length]
      rfl
    | succ n ih =>
      intro k i s hi hk hs
      rw [Nat.succ_mul] at hk ⊢
      obtain ⟨k, rfl, _⟩ := succ_of hk
      have h := hS k i s (by omega) (by omega) hs
      rw [drop_getD l d i (by omega)]
      simp only [runS]
      cases hf : f i (l.getD i d) s with
      | inr r => rw [hf] at h; exact ⟨k + 1, by omega, h⟩
      | inl s' =>
        rw [hf] at h
        obtain ⟨h1, k', h2, h3⟩ := h
        simp only
        obtain ⟨k2, h5, h4⟩ := ih k' (i + 1) s' (by omega) (by omega) h1
        refine ⟨k2, by omega, ?_⟩
        rw [h3, wrap_id (by omega) (by omega), ← h4]
        rfl
  have h := key l.length k 0 s (by omega) hk h0
  simpa using h
/-- A test of each element and its place. -/
theorem runS_from {α β : Type} (q : Nat → α → Bool) (E F : β) : ∀ (l : List α) (i : Nat), runS (fun i x (_ : Unit) => if q i x then (.inl () : Unit ⊕ β) else .inr F) (fun _ => E) l i () = if allFrom q l i = true then E else F
  | [], _ => rfl
  | a :: l, i => by
    simp only [runS]
    by_cases h : q i a = true
    · rw [if_pos h, show allFrom q (a :: l) i = allFrom q l (i + 1) by simp only [allFrom, h, Bool.true_and]]; exact runS_from q E F l (i + 1)
    · have h' : q i a = false := Bool.eq_false_iff.mpr h
      rw [if_neg h, show allFrom q (a :: l) i = false by simp only [allFrom, h', Bool.false_and]]; rfl
/-- A loop with a property of its state: it ends, and what it gives has another property. -/
theorem loop_inv {σ β : Type} (I : Nat → σ → Prop) (Q : β → Prop) (n : Nat) (hn : n ≤ 9223372036854775806) (L : Nat → σ → Int → Option β) (K : Nat)
    (hS : ∀ (k i : Nat) (s : σ), K ≤ k → i < n → I i s → (∃ s', I (i + 1) s' ∧ L (k + 1) s (i : Int) = L k s' (wrap64 ((i : Int) + 1))) ∨ ∃ r, L (k + 1) s (i : Int) = some r ∧ Q r)
    (hE : ∀ (k : Nat) (s : σ), K ≤ k → I n s → ∃ r, L (k + 1) s (n : Int) = some r ∧ Q r) (k : Nat) (hk : K + n < k) (s : σ) (h0 : I 0 s) : ∃ r, L k s 0 = some r ∧ Q r := by
  have key : ∀ (m k i : Nat) (s : σ), i + m = n → K + m < k → I i s → ∃ r, L k s (i : Int) = some r ∧ Q r := by
    intro m
    induction m with
    | zero =>
      intro k i s hi hk hs
      obtain ⟨k, rfl, _⟩ := succ_of hk
      have : i = n := by omega
      subst this
      exact hE k s (by omega) hs
    | succ m ih =>
      intro k i s hi hk hs
      obtain ⟨k, rfl, _⟩ := succ_of hk
      rcases hS k i s (by omega) (by omega) hs with ⟨s', h1, h2⟩ | h
      · rw [h2, wrap_id (by omega) (by omega)]
        exact ih k (i + 1) s' (by omega) (by omega) h1
      · exact h
  exact key n k 0 s (by omega) hk h0
end Go.Proofs.Ytppmalfpggkpdaa.L

-- made by printx.py (own driver over the kit's print); Lean checks it
namespace Go.Proofs.Ytppmalfpggkpdaa.P
open Go.RowKit Go.Proofs.YtppmalfpggkpdaaW.PrintWords Go.Proofs.YtppmalfpggkpdaaW.PrintLast Go.Proofs.YtppmalfpggkpdaaW.PrintMore
attribute [local go_sem] max2_int min2_int max_two min_two max_three min_three max_four min_four   -- for this text's walks alone
set_option linter.unusedVariables false
set_option linter.unusedSimpArgs false

/-! ### impl_FunRefs: function 37 -/
def impl_FunRefs.f (k : Nat) (a0_0 : ByteArray) (a0_1 : Bool) (l0_2 : List (S110)) : Option (List ByteArray) := (impl_FunOk.f a0_0 a0_1 l0_2).bind fun t744 => (if t744 = true then ((impl_Fun_refs.f k a0_0 a0_1 l0_2).bind fun t745 => (some t745)) else (some ([] : List ByteArray)))
theorem impl_FunRefs.mono : ∀ a0 a1 a2 k, LeO (impl_FunRefs.f k a0 a1 a2) (impl_FunRefs.f (k + 1) a0 a1 a2) := by
  intro a0 a1 a2 k
  unfold impl_FunRefs.f
  repeat' first
      | (with_reducible exact impl_Fun_refs.mono _ _ _ _)
      | (with_reducible exact LeO.refl _)
      | (with_reducible exact LeO.none _)
      | (with_reducible refine LeO.ite ?_ ?_)
      | (with_reducible refine LeO.bind ?_ (fun _ => ?_))
      | exact impl_Fun_refs.mono _ _ _ _
      | exact LeO.none _
      | refine LeO.ite ?_ ?_
      | refine LeO.bind ?_ (fun _ => ?_)
set_option maxHeartbeats 8000000 in
set_option maxRecDepth 100000 in
theorem impl_FunRefs.calls (k : Nat) (a0_0 : ByteArray) (a0_1 : Bool) (A0_2 : Option Addr) (c0_2 : Nat) (l0_2 : List (S110)) (r : List ByteArray) (w : World) (hr0_2 : Kd.C k110 w A0_2 l0_2.length l0_2) (hc0_2 : l0_2.length ≤ c0_2) (h : impl_FunRefs.f k a0_0 a0_1 l0_2 = some r) :
    Calls Try.prog 37 #[.agg #[.string a0_0, .bool a0_1, .slice A0_2 l0_2.length c0_2]] w fun e w' => ∃ v0_ : Value, e = .returned (v0_) ∧ Kd.R Kd.string 9 w' w.heap.size (fun _ => True) v0_ r ∧ Below w.heap.size w w' := by
  have hu52 := Try.underlying52
  have HR0_2 := Aside0.mk hr0_2
  have HC0_2 := Aside0.mk hc0_2
  clear hr0_2 hc0_2
  have HB := Aside0.mk (Below.refl w.heap.size w)
  have H : ((impl_FunOk.f a0_0 a0_1 l0_2).bind fun t744 => (if t744 = true then ((impl_Fun_refs.f k a0_0 a0_1 l0_2).bind fun t745 => (some t745)) else (some ([] : List ByteArray)))) = some r := h
  clear h
  replace H := Option.bind_eq_some_iff.mp H
  obtain ⟨t744, A20, H⟩ := H
  replace H : (if t744 = true then ((impl_Fun_refs.f k a0_0 a0_1 l0_2).bind fun t745 => (some t745)) else (some ([] : List ByteArray))) = some r := H
  have A2 := Aside0.mk A20
  clear A20
  by_cases c3 : t744 = true
  · subst c3
    have H1 : ((impl_Fun_refs.f k a0_0 a0_1 l0_2).bind fun t745 => (some t745)) = some r := by rw [if_pos rfl] at H; exact H
    clear H
    have H := H1
    clear H1
    replace H := Option.bind_eq_some_iff.mp H
    obtain ⟨t745, A40, H⟩ := H
    replace H : (some t745) = some r := H
    have A4 := Aside0.mk A40
    clear A40
    obtain rfl := Option.some.inj H
    go_enter Try.func37, Try.ntmps37
    go_wp2_with (first | ((with_reducible refine gate_dst (N := 1) rfl ?_); refine box_event ?hg (N := 1) ?hd (cs := #[.string a0_0, .bool a0_1, .slice A0_2 l0_2.length c0_2]) (t := 52) ?hr ?_; (case hd => rfl); (case hg => rfl); (case hr => first | (go_simp; done) | (go_simp; rfl)); intro gb743 hg w5 hbox hb; have n0_ := Aside0.mk (below_step (by repeat (first | (with_reducible first | exact HB.out | apply below_alloc | apply pw_below_drewN | apply below_drew1) | exact HB.out)) hb); have n1_ := Aside0.mk (hbox); have n2_ := Aside0.mk ((by rw [hg]; exact (below_size (by repeat (first | (with_reducible first | exact HB.out | apply below_alloc | apply pw_below_drewN | apply below_drew1) | exact HB.out))) : w.heap.size ≤ gb743)); have n3_ := Aside0.mk ((by rw [hg]; exact (below_size (by repeat (first | (with_reducible first | exact HB.out | apply below_alloc | apply pw_below_drewN | apply below_drew1) | exact HB.out))) : w.heap.size ≤ gb743)); clear HB; have HB := n0_; have BK743 := n1_; have GW743 := n2_; have GE743 := n3_; clear n0_ n1_ n2_ n3_; clear hb hbox hg; have hcz6_0 : w5.cell? ⟨gb743, 0, none⟩ = some (.string a0_0) := (blk_cell BK743.out 0).trans rfl; have hcz6_1 : w5.cell? ⟨gb743, 1, none⟩ = some (.bool a0_1) := (blk_cell BK743.out 1).trans rfl; have hcz6_2 : w5.cell? ⟨gb743, 2, none⟩ = some (.slice A0_2 l0_2.length c0_2) := (blk_cell BK743.out 2).trans rfl; have hfz6_0 := blk_frozen BK743.out 0; have hfz6_1 := blk_frozen BK743.out 1; have hfz6_2 := blk_frozen BK743.out 2) | ((with_reducible refine gate_callee (f := 80) rfl ?_); refine goesL_ (some 4) rfl rfl Try.func80 (by kernel_rfl) rfl #[.agg #[.string a0_0, .bool a0_1, .slice A0_2 l0_2.length c0_2]] rfl (by (try simp only [List.map_toArray, List.map_cons, List.map_nil]); first | done | rfl | (simp only [List.length_drop, List.length_take]; rfl)) ?_; (with_reducible refine (impl_FunOk.calls a0_0 a0_1 _ _ l0_2 true _ ?side1 ?side2 A2.out).mono ?_); (case side1 => repeat (first | exact (Kd.C_below HR0_2.out HB.out) | (with_reducible refine Kd.C_alloc ?_ _) | (with_reducible refine Kd.C_drewN ?_ _) | (with_reducible refine Kd.C_drew ?_))); (case side2 => exact HC0_2.out); rintro e w7 ⟨rfl, hb⟩; refine ⟨_, rfl, ?_⟩; have n0_ := Aside0.mk (blk_below (g := gb743) (o := .cells #[.string a0_0, .bool a0_1, .slice A0_2 l0_2.length c0_2] 52 (0, 0)) (by (with_reducible repeat (first | refine blk_drewN ?_ _ | refine blk_drew ?_ | refine blk_alloc ?_ _)); exact BK743.out) hb); have n1_ := Aside0.mk (below_step (by repeat (first | (with_reducible first | exact HB.out | apply below_alloc | apply pw_below_drewN | apply below_drew1 | refine below_set ?_ GE743.out) | exact HB.out)) hb); clear BK743; clear HB; have BK743 := n0_; have HB := n1_; clear n0_ n1_; (try clear hb); (try clear hb2); (try clear hk); (try clear hi); have hcz8_0 : w7.cell? ⟨gb743, 0, none⟩ = some (.string a0_0) := (blk_cell BK743.out 0).trans rfl; have hcz8_1 : w7.cell? ⟨gb743, 1, none⟩ = some (.bool a0_1) := (blk_cell BK743.out 1).trans rfl; have hcz8_2 : w7.cell? ⟨gb743, 2, none⟩ = some (.slice A0_2 l0_2.length c0_2) := (blk_cell BK743.out 2).trans rfl; have hfz8_0 := blk_frozen BK743.out 0; have hfz8_1 := blk_frozen BK743.out 1; have hfz8_2 := blk_frozen BK743.out 2) | ((with_reducible refine gate_callee (f := 81) rfl ?_); refine goesL_ (some 7) rfl rfl Try.func81 (by kernel_rfl) rfl #[.agg #[.string a0_0, .bool a0_1, .slice A0_2 l0_2.length c0_2]] rfl (by (try simp only [List.map_toArray, List.map_cons, List.map_nil]); first | done | rfl | (simp only [List.length_drop, List.length_take]; rfl)) ?_; (with_reducible refine (impl_Fun_refs.calls k a0_0 a0_1 _ _ l0_2 t745 _ ?side1 ?side2 A4.out).mono ?_); (case side1 => repeat (first | exact (Kd.C_below HR0_2.out HB.out) | (with_reducible refine Kd.C_alloc ?_ _) | (with_reducible refine Kd.C_drewN ?_ _) | (with_reducible refine Kd.C_drew ?_))); (case side2 => exact HC0_2.out); rintro e w9 ⟨v746, rfl, ho0, hb⟩; refine ⟨_, rfl, ?_⟩; have n0_ := Aside0.mk (Kd.R_lower ho0 (below_size (by repeat (first | (with_reducible first | exact HB.out | apply below_alloc | apply pw_below_drewN | apply below_drew1 | refine below_set ?_ GE743.out) | exact HB.out)))); have n1_ := Aside0.mk (blk_below (g := gb743) (o := .cells #[.string a0_0, .bool a0_1, .slice A0_2 l0_2.length c0_2] 52 (0, 0)) (by (with_reducible repeat (first | refine blk_drewN ?_ _ | refine blk_drew ?_ | refine blk_alloc ?_ _)); exact BK743.out) hb); have n2_ := Aside0.mk (below_step (by repeat (first | (with_reducible first | exact HB.out | apply below_alloc | apply pw_below_drewN | apply below_drew1 | refine below_set ?_ GE743.out) | exact HB.out)) hb); clear BK743; clear HB; have HO747 := n0_; have BK743 := n1_; have HB := n2_; clear n0_ n1_ n2_; (try clear hb); (try clear hb2); (try clear hk); (try clear hi); (try clear ho0)))
    go_ret
    exact ⟨_, by first | rfl | (simp [errW_none, errW_some] <;> rfl) | (simp [*, errW_none, errW_some] <;> rfl), by (with_reducible repeat (first | apply Kd.R_alloc | apply Kd.R_drewN | apply Kd.R_drew)); exact HO747.out, by repeat (first | (with_reducible first | exact HB.out | apply below_alloc | apply pw_below_drewN | apply below_drew1 | refine below_set ?_ GE743.out) | exact HB.out)⟩
  · replace c3 := Bool.eq_false_iff.mpr c3
    subst c3
    have H1 : (some ([] : List ByteArray)) = some r := by rw [if_neg (show ¬ (false = true) by decide)] at H; exact H
    clear H
    have H := H1
    clear H1
    obtain rfl := Option.some.inj H
    go_enter Try.func37, Try.ntmps37
    go_wp2_with (first | ((with_reducible refine gate_dst (N := 1) rfl ?_); refine box_event ?hg (N := 1) ?hd (cs := #[.string a0_0, .bool a0_1, .slice A0_2 l0_2.length c0_2]) (t := 52) ?hr ?_; (case hd => rfl); (case hg => rfl); (case hr => first | (go_simp; done) | (go_simp; rfl)); intro gb743 hg w10 hbox hb; have n0_ := Aside0.mk (below_step (by repeat (first | (with_reducible first | exact HB.out | apply below_alloc | apply pw_below_drewN | apply below_drew1) | exact HB.out)) hb); have n1_ := Aside0.mk (hbox); have n2_ := Aside0.mk ((by rw [hg]; exact (below_size (by repeat (first | (with_reducible first | exact HB.out | apply below_alloc | apply pw_below_drewN | apply below_drew1) | exact HB.out))) : w.heap.size ≤ gb743)); have n3_ := Aside0.mk ((by rw [hg]; exact (below_size (by repeat (first | (with_reducible first | exact HB.out | apply below_alloc | apply pw_below_drewN | apply below_drew1) | exact HB.out))) : w.heap.size ≤ gb743)); clear HB; have HB := n0_; have BK743 := n1_; have GW743 := n2_; have GE743 := n3_; clear n0_ n1_ n2_ n3_; clear hb hbox hg; have hcz11_0 : w10.cell? ⟨gb743, 0, none⟩ = some (.string a0_0) := (blk_cell BK743.out 0).trans rfl; have hcz11_1 : w10.cell? ⟨gb743, 1, none⟩ = some (.bool a0_1) := (blk_cell BK743.out 1).trans rfl; have hcz11_2 : w10.cell? ⟨gb743, 2, none⟩ = some (.slice A0_2 l0_2.length c0_2) := (blk_cell BK743.out 2).trans rfl; have hfz11_0 := blk_frozen BK743.out 0; have hfz11_1 := blk_frozen BK743.out 1; have hfz11_2 := blk_frozen BK743.out 2) | ((with_reducible refine gate_callee (f := 80) rfl ?_); refine goesL_ (some 4) rfl rfl Try.func80 (by kernel_rfl) rfl #[.agg #[.string a0_0, .bool a0_1, .slice A0_2 l0_2.length c0_2]] rfl (by (try simp only [List.map_toArray, List.map_cons, List.map_nil]); first | done | rfl | (simp only [List.length_drop, List.length_take]; rfl)) ?_; (with_reducible refine (impl_FunOk.calls a0_0 a0_1 _ _ l0_2 false _ ?side1 ?side2 A2.out).mono ?_); (case side1 => repeat (first | exact (Kd.C_below HR0_2.out HB.out) | (with_reducible refine Kd.C_alloc ?_ _) | (with_reducible refine Kd.C_drewN ?_ _) | (with_reducible refine Kd.C_drew ?_))); (case side2 => exact HC0_2.out); rintro e w12 ⟨rfl, hb⟩; refine ⟨_, rfl, ?_⟩; have n0_ := Aside0.mk (blk_below (g := gb743) (o := .cells #[.string a0_0, .bool a0_1, .slice A0_2 l0_2.length c0_2] 52 (0, 0)) (by (with_reducible repeat (first | refine blk_drewN ?_ _ | refine blk_drew ?_ | refine blk_alloc ?_ _)); exact BK743.out) hb); have n1_ := Aside0.mk (below_step (by repeat (first | (with_reducible first | exact HB.out | apply below_alloc | apply pw_below_drewN | apply below_drew1 | refine below_set ?_ GE743.out) | exact HB.out)) hb); clear BK743; clear HB; have BK743 := n0_; have HB := n1_; clear n0_ n1_; (try clear hb); (try clear hb2); (try clear hk); (try clear hi)))
    go_ret
    exact ⟨_, by first | rfl | (simp [errW_none, errW_some] <;> rfl) | (simp [*, errW_none, errW_some] <;> rfl), by first | exact Kd.R_nil _ _ _ _ _ | exact Kd.N_nil _ _ _ _ _ | exact Kd.V_nil _ _ _ _ _ | exact Kd.Q_nil _ _ _ _ _ | exact Kd.S_nil _ _ _ _ _, by repeat (first | (with_reducible first | exact HB.out | apply below_alloc | apply pw_below_drewN | apply below_drew1 | refine below_set ?_ GE743.out) | exact HB.out)⟩

end Go.Proofs.Ytppmalfpggkpdaa.P

/- The names in a function; marks in texts. -/
namespace Go.Proofs.Ytppmalfpggkpdaa.L
open Go.RowKit Go.Proofs.YtppmalfpggkpdaaW.PrintWords Go.Proofs.YtppmalfpggkpdaaW.PrintLast Go.Proofs.YtppmalfpggkpdaaW.PrintMore Go.Proofs.Ytppmalfpggkpdaa.P
set_option linter.unusedVariables false
set_option linter.unusedSimpArgs false
def hasB (l : List ByteArray) (a : ByteArray) : Bool := l.any fun x => x.toList == a.toList
def refsAdd (x : S110) (s : List ByteArray) : List ByteArray := if refersB x.f0 && !hasB s x.f2 then s ++ [x.f2] else s
def refsV (l : List S110) : List ByteArray := l.foldl (fun s x => refsAdd x s) []
theorem refsAdd_len (x : S110) (s : List ByteArray) : (refsAdd x s).length ≤ s.length + 1 := by
  unfold refsAdd
  split
  · simp
  · omega
theorem foldl_len : ∀ (l : List S110) (s : List ByteArray), (l.foldl (fun s x => refsAdd x s) s).length ≤ s.length + l.length
  | [], s => by simp
  | x :: l, s => by
    have := foldl_len l (refsAdd x s)
    have := refsAdd_len x s
    simp only [List.foldl, List.length_cons]
    omega
theorem refsV_len (l : List S110) : (refsV l).length ≤ l.length := by
  have := foldl_len l []
  simpa [refsV] using this
theorem runS_fold {β : Type} (E : List ByteArray → β) : ∀ (l : List S110) (i : Nat) (s : List ByteArray), runS (fun _ x s => (.inl (refsAdd x s) : List ByteArray ⊕ β)) E l i s = E (l.foldl (fun s x => refsAdd x s) s)
  | [], _, _ => rfl
  | x :: l, i, s => runS_fold E l (i + 1) (refsAdd x s)
theorem slices_Contains_sstring_string_f (l : List ByteArray) (hn : l.length ≤ 9223372036854775807) (a : ByteArray) (k : Nat) (hk : l.length < k) : slices_Contains_sstring_string.f k l a = some (hasB l a) := by
  unfold slices_Contains_sstring_string.f slices_Index_sstring_string.f
  have h : slices_Index_sstring_string.l0 k l a (l.length : Int) 0 = some (idxFrom (fun x => x.toList == a.toList) l 0) := by
    refine loop_idx (fun x => x.toList == a.toList) ByteArray.empty l hn (fun k i => slices_Index_sstring_string.l0 k l a (l.length : Int) i) 0 ?_ ?_ ?_ k (by omega)
    · intro k i _ hi hq
      simp only [slices_Index_sstring_string.l0]
      rw [if_pos (by omega), if_pos (by omega), if_pos (by omega), if_pos (show a.toList = (rdOf ByteArray.empty l (i : Int)).toList from (beq_iff_eq.mp hq).symm)]
    · intro k i _ hi hq
      simp only [slices_Index_sstring_string.l0]
      rw [if_pos (by omega), if_pos (by omega), if_pos (by omega), if_neg (show ¬ a.toList = (rdOf ByteArray.empty l (i : Int)).toList from fun e => beq_eq_false_iff_ne.mp hq e.symm)]
    · intro k _
      simp only [slices_Index_sstring_string.l0]
      rw [if_neg (by omega)]
  rw [h]
  simp only [Option.bind_some, hasB]
  rw [← idxFrom_any _ l 0 (by decide)]
theorem spec_l2Has_f (l : List ByteArray) (hn : l.length ≤ 9223372036854775806) (a : ByteArray) (k : Nat) (hk : l.length < k) : spec_l2Has.f k l a = some (hasB l a) := by
  have e : ∀ (l' : List ByteArray) (i : Nat), runS (fun _ x (_ : Unit) => if x.toList = a.toList then (.inr (some true) : Unit ⊕ Option Bool) else .inl ()) (fun _ => some false) l' i () = some (hasB l' a) := by
    intro l'
    induction l' with
    | nil => intro i; rfl
    | cons x l' ih =>
      intro i
      simp only [runS, hasB, List.any_cons]
      by_cases h : x.toList = a.toList
      · rw [if_pos h, beq_iff_eq.mpr h]; rfl
      · rw [if_neg h, beq_eq_false_iff_ne.mpr h]
        exact ih (i + 1)
  unfold spec_l2Has.f
  refine (loop_run (fun _ x (_ : Unit) => if x.toList = a.toList then (.inr (some true) : Unit ⊕ Option Bool) else .inl ()) (fun _ _ => some false) (fun _ _ => True) ByteArray.empty l hn (fun k _ i => spec_l2Has.l0 k l a i) 0 ?_ (fun _ _ _ _ _ _ => trivial) ?_ k (by omega) () trivial).trans (e l 0)
  · intro k i s _ hi _
    simp only [spec_l2Has.l0]
    rw [if_pos (by omega), if_pos (by omega)]
    show (if (l.getD i ByteArray.empty).toList = a.toList then _ else _) = _
    split <;> rfl
  · intro k s _ _
    simp only [spec_l2Has.l0]
    rw [if_neg (by omega)]
theorem impl_Fun_refs_f (a : ByteArray) (b : Bool) (l : List S110) (hn : l.length ≤ 8796093022207) (k : Nat) (hk : 2 * l.length + 5 < k) : impl_Fun_refs.f k a b l = some (refsV l) := by
  unfold impl_Fun_refs.f
  refine (loop_run (fun _ x s => (.inl (refsAdd x s) : List ByteArray ⊕ Option (List ByteArray))) (fun _ s => some s) (fun i s => s.length ≤ i) z110 l (by omega) (fun k s i => impl_Fun_refs.l0 k s l (l.length : Int) i) (l.length + 1) ?_ ?_ ?_ k (by omega) [] (by simp)).trans (runS_fold _ l 0 [])
  · intro k i s hK hi hs
    simp only [impl_Fun_refs.l0]
    rw [if_pos (by omega), if_pos (by omega), if_pos (by omega), impl_InsRefs_f (rd_T110 l (i : Int)).f0 _ _]
    simp only [Option.bind_some]
    rw [slices_Contains_sstring_string_f s (by omega) _ k (by omega)]
    simp only [Option.bind_some]
    show (if refersB (l.getD i z110).f0 = true then (if hasB s (l.getD i z110).f2 = true then _ else (if s.length < 8796093022208 then impl_Fun_refs.l0 k (s ++ [(l.getD i z110).f2]) l (l.length : Int) (wrap64 ((i : Int) + 1)) else none)) else _) = impl_Fun_refs.l0 k (refsAdd (l.getD i z110) s) l (l.length : Int) (wrap64 ((i : Int) + 1))
    rw [if_pos (show s.length < 8796093022208 by omega)]
    unfold refsAdd
    cases refersB (l.getD i z110).f0 <;> cases hasB s (l.getD i z110).f2 <;> rfl
  · intro i s s' hi hs he
    have := refsAdd_len (l.getD i z110) s
    cases he
    omega
  · intro k s _ _
    simp only [impl_Fun_refs.l0]
    rw [if_neg (by omega)]
theorem spec_l2Refs_f (l : List S110) (hn : l.length ≤ 8796093022207) (k : Nat) (hk : 2 * l.length + 5 < k) : spec_l2Refs.f k l = some (refsV l) := by
  unfold spec_l2Refs.f
  refine (loop_run (fun _ x s => (.inl (refsAdd x s) : List ByteArray ⊕ Option (List ByteArray))) (fun _ s => some s) (fun i s => s.length ≤ i) z110 l (by omega) (fun k s i => spec_l2Refs.l0 k l s i) (l.length + 1) ?_ ?_ ?_ k (by omega) [] (by simp)).trans (runS_fold _ l 0 [])
  · intro k i s hK hi hs
    simp only [spec_l2Refs.l0]
    rw [if_pos (by omega), if_pos (by omega), spec_InsRefs_f (rd_T110 l (i : Int)).f0 _ _]
    simp only [Option.bind_some]
    rw [spec_l2Has_f s (by omega) _ k (by omega)]
    simp only [Option.bind_some]
    show (if refersB (l.getD i z110).f0 = true then (if hasB s (l.getD i z110).f2 = true then _ else (if s.length < 8796093022208 then spec_l2Refs.l0 k l (s ++ [(l.getD i z110).f2]) (wrap64 ((i : Int) + 1)) else none)) else _) = spec_l2Refs.l0 k l (refsAdd (l.getD i z110) s) (wrap64 ((i : Int) + 1))
    rw [if_pos (show s.length < 8796093022208 by omega)]
    unfold refsAdd
    cases refersB (l.getD i z110).f0 <;> cases hasB s (l.getD i z110).f2 <;> rfl
  · intro i s s' hi hs he
    have := refsAdd_len (l.getD i z110) s
    cases he
    omega
  · intro k s _ _
    simp only [spec_l2Refs.l0]
    rw [if_neg (by omega)]
def funRefsV (x : S52) : List ByteArray := if funOkB x.f0 x.f2 = true then refsV x.f2 else []
theorem funRefsV_len (x : S52) : (funRefsV x).length ≤ 10 := by
  unfold funRefsV
  split
  · rename_i h
    have := funOkB_len h
    have := refsV_len x.f2
    omega
  · simp
theorem impl_FunRefs_f (x : S52) (hx : FitF x) (k : Nat) (hk : 100 < k) : impl_FunRefs.f k x.f0 x.f1 x.f2 = some (funRefsV x) := by
  unfold impl_FunRefs.f funRefsV
  rw [impl_FunOk_f x hx]
  simp only [Option.bind_some]
  by_cases h : funOkB x.f0 x.f2 = true
  · have := funOkB_len h
    rw [if_pos h, if_pos h, impl_Fun_refs_f x.f0 x.f1 x.f2 (by omega) k (by omega)]
    rfl
  · rw [if_neg h, if_neg h]
end Go.Proofs.Ytppmalfpggkpdaa.L

/- The names that functions lack; when a program is ok. -/
namespace Go.Proofs.Ytppmalfpggkpdaa.L
open Go.RowKit Go.Proofs.YtppmalfpggkpdaaW.PrintWords Go.Proofs.YtppmalfpggkpdaaW.PrintLast Go.Proofs.YtppmalfpggkpdaaW.PrintMore Go.Proofs.Ytppmalfpggkpdaa.P
set_option linter.unusedVariables false
set_option linter.unusedSimpArgs false
/-- Of some names, those that no function of p has. -/
def lackOf (p : List S52) (ns : List ByteArray) : List ByteArray := ns.filter fun a => decide (findI p a < 0)
def lackRaw (p l : List S52) : List ByteArray := l.flatMap fun x => lackOf p (refsV x.f2)
theorem lackOf_len (p : List S52) (ns : List ByteArray) : (lackOf p ns).length ≤ ns.length := List.length_filter_le _ _
def goodRaw (p : List S52) : Bool := p.all fun x => (refsV x.f2).all fun a => !decide (findI p a < 0)
theorem lackRaw_good (p : List S52) : (lackRaw p p).isEmpty = goodRaw p := by
  have key : ∀ l : List S52, (lackRaw p l).isEmpty = l.all fun x => (refsV x.f2).all fun a => !decide (findI p a < 0) := by
    intro l
    induction l with
    | nil => rfl
    | cons x l ih =>
      have e : lackRaw p (x :: l) = lackOf p (refsV x.f2) ++ lackRaw p l := by simp [lackRaw]
      have e2 : ∀ ns : List ByteArray, (lackOf p ns).isEmpty = ns.all fun a => !decide (findI p a < 0) := by
        intro ns
        induction ns with
        | nil => rfl
        | cons a ns ih2 =>
          rw [List.all_cons, ← ih2]
          unfold lackOf
          rw [List.filter_cons]
          cases h : decide (findI p a < 0) with
          | true => simp
          | false => simp
      have e3 : ∀ a b : List ByteArray, (a ++ b).isEmpty = (a.isEmpty && b.isEmpty) := fun a b => by cases a <;> rfl
      rw [e, List.all_cons, ← ih, ← e2, e3]
  exact key p
theorem compact_nil_iff (l : List (List UInt8)) : (Lib.compact l).isEmpty = l.isEmpty := by
  have key : ∀ (d : Array (List UInt8)) (m : Nat), Lib.compactUpTo d (m + 1) ≠ [] := by
    intro d m
    induction m with
    | zero =>
      rw [Lib.compactUpTo_succ]
      have : Lib.keeps d 0 = true := by simp [Lib.keeps]
      rw [if_pos this]
      simp
    | succ m ih =>
      rw [Lib.compactUpTo_succ]
      intro h
      exact ih (List.append_eq_nil_iff.mp h).1
  cases l with
  | nil => rfl
  | cons x l =>
    have := key (x :: l).toArray l.length
    unfold Lib.compact
    cases h : Lib.compactUpTo (x :: l).toArray (x :: l).length with
    | nil => exact absurd h this
    | cons _ _ => rfl
theorem orderedV_nil (l : List ByteArray) : (orderedV l).isEmpty = l.isEmpty := by
  have h1 : ∀ m : List (List UInt8), (textsL m).isEmpty = m.isEmpty := fun m => by cases m <;> rfl
  have h2 : ∀ m : List (List UInt8), (sortV m).isEmpty = m.isEmpty := fun m => by
    have := List.length_mergeSort (le := fun x y => decide (x ≤ y)) m
    cases h : sortV m with
    | nil => unfold sortV at h; rw [h] at this; cases m with
      | nil => rfl
      | cons _ _ => simp at this
    | cons _ _ => unfold sortV at h; rw [h] at this; cases m with
      | nil => simp at this
      | cons _ _ => rfl
  have h3 : (bytesL l).isEmpty = l.isEmpty := by cases l <;> rfl
  unfold orderedV
  rw [h1, compact_nil_iff, h2, h3]
theorem len_isEmpty {α : Type} (l : List α) : (((l.length : Nat) : Int) == 0) = l.isEmpty := by
  cases l with
  | nil => rfl
  | cons x l => simp only [List.length_cons, List.isEmpty_cons, beq_eq_false_iff_ne]; omega
theorem runS_filter {β : Type} (q : ByteArray → Bool) (E : List ByteArray → β) : ∀ (l : List ByteArray) (i : Nat) (s : List ByteArray), runS (fun _ a s => if q a then (.inl (s ++ [a]) : List ByteArray ⊕ β) else .inl s) E l i s = E (s ++ l.filter q)
  | [], _, s => by simp [runS]
  | a :: l, i, s => by
    simp only [runS, List.filter_cons]
    cases h : q a with
    | true => rw [if_pos rfl, if_pos rfl]; simp only; rw [runS_filter q E l (i + 1) (s ++ [a]), List.append_assoc]; rfl
    | false => rw [if_neg (by decide), if_neg (by decide)]; simp only; exact runS_filter q E l (i + 1) s
theorem runS_flat {β : Type} (p : List S52) (E : List ByteArray → β) : ∀ (l : List S52) (i : Nat) (s : List ByteArray), runS (fun _ x s => (.inl (s ++ lackOf p (refsV x.f2)) : List ByteArray ⊕ β)) E l i s = E (s ++ lackRaw p l)
  | [], _, s => by simp [runS, lackRaw]
  | x :: l, i, s => by
    simp only [runS]
    rw [runS_flat p E l (i + 1) _, List.append_assoc]
    rfl
theorem impl_lacking_l1 (p l : List S52) (c j : Int) (ns : List ByteArray) (hn : ns.length ≤ 1000) (s : List ByteArray) (hs : s.length ≤ 1000000) (k : Nat) (hk : ns.length < k) :
    impl_lacking.l1 k p s l c j ns (ns.length : Int) 0 = impl_lacking.l0 (k - ns.length - 1) p (s ++ lackOf p ns) l c (wrap64 (j + 1)) := by
  refine (loop_run (fun _ a s => if decide (findI p a < 0) then (.inl (s ++ [a]) : List ByteArray ⊕ Option (List ByteArray)) else .inl s) (fun k s => impl_lacking.l0 k p s l c (wrap64 (j + 1))) (fun i s => s.length ≤ 1000000 + i) ByteArray.empty ns (by omega) (fun k s i => impl_lacking.l1 k p s l c j ns (ns.length : Int) i) 0 ?_ ?_ ?_ k (by omega) s (by omega)).trans (runS_filter _ _ ns 0 s)
  · intro k i s _ hi hI
    simp only [impl_lacking.l1, impl_find.f]
    rw [if_pos (by omega), if_pos (by omega), if_pos (by omega)]
    simp only [Option.bind_some]
    show (if findI p (ns.getD i ByteArray.empty) < 0 then (if s.length < 8796093022208 then impl_lacking.l1 k p (s ++ [ns.getD i ByteArray.empty]) l c j ns (ns.length : Int) (wrap64 ((i : Int) + 1)) else none) else _) = _
    rw [if_pos (show s.length < 8796093022208 by omega)]
    by_cases h : findI p (ns.getD i ByteArray.empty) < 0
    · rw [if_pos h, if_pos (decide_eq_true h)]
    · rw [if_neg h, if_neg (by rw [decide_eq_false h]; decide)]
  · intro i s s' hi hI he
    split at he
    · cases he; simp only [List.length_append, List.length_cons, List.length_nil]; omega
    · cases he; omega
  · intro k s _ _
    simp only [impl_lacking.l1]
    rw [if_neg (by omega)]
theorem impl_lacking_f (p : List S52) (hn : p.length ≤ 100) (hx : ∀ x ∈ p, x.f2.length ≤ 100) (k : Nat) (hk : 100000 < k) : impl_lacking.f k p = some (orderedV (lackRaw p p)) := by
  unfold impl_lacking.f
  refine (loop_var (fun _ x s => (.inl (s ++ lackOf p (refsV x.f2)) : List ByteArray ⊕ Option (List ByteArray))) (fun s => some (orderedV s)) (fun i s => s.length ≤ 100 * i) z52 p (by omega) (fun k s i => impl_lacking.l0 k p s p (p.length : Int) i) 1000 200 ?_ ?_ k (by omega) [] (by simp)).trans (by rw [runS_flat]; rfl)
  · intro k i s hK hi hs
    have hr := refsV_len (p.getD i z52).f2
    have hx2 := hx _ (getD_mem (d := z52) hi)
    have hl := lackOf_len p (refsV (p.getD i z52).f2)
    simp only
    refine ⟨by rw [List.length_append]; omega, k - (refsV (p.getD i z52).f2).length - 1, by omega, ?_⟩
    simp only [impl_lacking.l0]
    rw [show rd_T52 p (i : Int) = p.getD i z52 from rfl]
    rw [if_pos (by omega), if_pos (by omega), if_pos (by omega), impl_Fun_refs_f _ _ (p.getD i z52).f2 (by omega) k (by omega)]
    simp only [Option.bind_some]
    rw [impl_lacking_l1 p p _ _ _ (by omega) s (by omega) k (by omega)]
  · intro k s _ hs
    simp only [impl_lacking.l0]
    rw [if_neg (by omega)]
    unfold impl_ordered.f
    rw [if_pos (by omega)]
    rfl
def keepOkB (p : List S52) : Bool := (decide (1 ≤ (p.length : Int)) && decide ((p.length : Int) ≤ 40)) && (unitGood p && goodRaw p)
theorem unitGood_len {p : List S52} (h : unitGood p = true) : ∀ x ∈ p, x.f2.length ≤ 10 := by
  have key : ∀ (l : List S52) (i : Nat), allFrom (fun i x => funOkB x.f0 x.f2 && (findI p x.f0 == (i : Int))) l i = true → ∀ x ∈ l, x.f2.length ≤ 10 := by
    intro l
    induction l with
    | nil => intro i _ x hx; simp at hx
    | cons y l ih =>
      intro i h x hx
      simp only [allFrom, Bool.and_eq_true] at h
      rcases List.mem_cons.mp hx with rfl | hx
      · exact (funOkB_len h.1.1).2
      · exact ih (i + 1) h.2 x hx
  exact key p 0 h
theorem impl_KeepOk_f (p : List S52) (hn : p.length ≤ 140737488351232) (hx : ∀ x ∈ p, FitF x) (k : Nat) (hk : 100000 + p.length < k) : impl_KeepOk.f k p = some (keepOkB p) := by
  unfold impl_KeepOk.f keepOkB
  rw [impl_in_f]
  simp only [Option.bind_some]
  cases h1 : decide (1 ≤ (p.length : Int)) && decide ((p.length : Int) ≤ 40) with
  | false => rw [if_neg (by decide)]; rfl
  | true =>
    rw [if_pos rfl, impl_funsOk_f p hn hx k (by omega)]
    simp only [Option.bind_some, Bool.true_and]
    cases h2 : unitGood p with
    | false => rw [if_neg (by decide)]; rfl
    | true =>
      simp only [Bool.and_eq_true, decide_eq_true_eq] at h1
      have h3 := unitGood_len h2
      rw [if_pos rfl, impl_lacking_f p (by omega) (fun x hx => by have := h3 x hx; omega) k (by omega)]
      simp only [Option.bind_some, Bool.true_and]
      rw [len_isEmpty, orderedV_nil, lackRaw_good]
theorem runS_all {β : Type} (q : ByteArray → Bool) (E : β) (F : β) : ∀ (l : List ByteArray) (i : Nat), runS (fun _ a (_ : Unit) => if q a then (.inr F : Unit ⊕ β) else .inl ()) (fun _ => E) l i () = if (l.all fun a => !q a) = true then E else F
  | [], _ => rfl
  | a :: l, i => by
    simp only [runS]
    by_cases h : q a = true
    · rw [if_pos h, show ((a :: l).all fun a => !q a) = false by rw [List.all_cons, h]; rfl]; rfl
    · have h' : q a = false := by simpa using h
      rw [if_neg h, show ((a :: l).all fun a => !q a) = (l.all fun a => !q a) by rw [List.all_cons, h']; rfl]; exact runS_all q E F l (i + 1)
theorem spec_KeepOk_l2 (p : List S52) (hn : p.length ≤ 1000) (j : Int) (ns : List ByteArray) (hl : ns.length ≤ 1000) (k : Nat) (hk : 1001 + ns.length < k) :
    spec_KeepOk.l2 k p j ns 0 = if (ns.all fun a => !decide (findI p a < 0)) = true then spec_KeepOk.l1 (k - ns.length - 1) p (wrap64 (j + 1)) else some false := by
  refine (loop_run (fun _ a (_ : Unit) => if decide (findI p a < 0) then (.inr (some false) : Unit ⊕ Option Bool) else .inl ()) (fun k _ => spec_KeepOk.l1 k p (wrap64 (j + 1))) (fun _ _ => True) ByteArray.empty ns (by omega) (fun k _ i => spec_KeepOk.l2 k p j ns i) 1001 ?_ (fun _ _ _ _ _ _ => trivial) ?_ k (by omega) () trivial).trans (runS_all _ _ _ ns 0)
  · intro k i s hK hi _
    simp only [spec_KeepOk.l2]
    rw [if_pos (by omega), if_pos (by omega), spec_l2Find_f p (by omega) _ k (by omega)]
    simp only [Option.bind_some]
    show (if findI p (ns.getD i ByteArray.empty) < 0 then _ else _) = _
    by_cases h : findI p (ns.getD i ByteArray.empty) < 0
    · rw [if_pos h, if_pos (decide_eq_true h)]
    · rw [if_neg h, if_neg (by rw [decide_eq_false h]; decide)]
  · intro k s _ _
    simp only [spec_KeepOk.l2]
    rw [if_neg (by omega)]
theorem runS_allF {β : Type} (q : S52 → Bool) (E : β) (F : β) : ∀ (l : List S52) (i : Nat), runS (fun _ a (_ : Unit) => if q a then (.inl () : Unit ⊕ β) else .inr F) (fun _ => E) l i () = if l.all q = true then E else F
  | [], _ => rfl
  | a :: l, i => by
    simp only [runS]
    by_cases h : q a = true
    · rw [if_pos h, show (a :: l).all q = l.all q by rw [List.all_cons, h]; rfl]; exact runS_allF q E F l (i + 1)
    · have h' : q a = false := by simpa using h
      rw [if_neg h, show (a :: l).all q = false by rw [List.all_cons, h']; rfl]; rfl
theorem spec_KeepOk_l1 (p : List S52) (hn : p.length ≤ 1000) (hx : ∀ x ∈ p, x.f2.length ≤ 10) (k : Nat) (hk : 200000 < k) : spec_KeepOk.l1 k p 0 = some (goodRaw p) := by
  refine (loop_var (fun _ x (_ : Unit) => if (refsV x.f2).all (fun a => !decide (findI p a < 0)) then (.inl () : Unit ⊕ Option Bool) else .inr (some false)) (fun _ => some true) (fun _ _ => True) z52 p (by omega) (fun k _ i => spec_KeepOk.l1 k p i) 2000 100 ?_ ?_ k (by omega) () trivial).trans ?_
  · intro k i s hK hi _
    have hr := refsV_len (p.getD i z52).f2
    have hx2 := hx _ (getD_mem (d := z52) hi)
    have e : spec_KeepOk.l1 (k + 1) p (i : Int) = if ((refsV (p.getD i z52).f2).all fun a => !decide (findI p a < 0)) = true then spec_KeepOk.l1 (k - (refsV (p.getD i z52).f2).length - 1) p (wrap64 ((i : Int) + 1)) else some false := by
      simp only [spec_KeepOk.l1]
      rw [show rd_T52 p (i : Int) = p.getD i z52 from rfl]
      rw [if_pos (by omega), if_pos (by omega), spec_l2Refs_f (p.getD i z52).f2 (by omega) k (by omega)]
      simp only [Option.bind_some]
      rw [spec_KeepOk_l2 p hn _ _ (by omega) k (by omega)]
    simp only [e]
    cases h : (refsV (p.getD i z52).f2).all fun a => !decide (findI p a < 0) with
    | true => exact ⟨trivial, k - (refsV (p.getD i z52).f2).length - 1, by omega, rfl⟩
    | false => rfl
  · intro k s _ _
    simp only [spec_KeepOk.l1]
    rw [if_neg (by omega)]
  · rw [runS_allF]
    unfold goodRaw
    split
    · rename_i h; rw [h]
    · rename_i h; rw [Bool.not_eq_true] at h; rw [h]
theorem spec_KeepOk_f (p : List S52) (hn : p.length ≤ 140737488351232) (hx : ∀ x ∈ p, FitF x) (k : Nat) (hk : 1000000000000000 ≤ k) : spec_KeepOk.f k p = some (keepOkB p) := by
  obtain ⟨m, rfl⟩ : ∃ m, k = m + 1 := ⟨k - 1, by omega⟩
  have hj (b : Bool) : spec_KeepOk.j0 (m + 1) p b = if b = true then some false else spec_KeepOk.l0 m p 0 := by simp only [spec_KeepOk.j0]
  unfold spec_KeepOk.f keepOkB
  rw [hj, hj]
  by_cases h1 : (p.length : Int) < 1
  · rw [if_pos h1, if_pos rfl, decide_eq_false (by omega)]; rfl
  · rw [if_neg h1, decide_eq_true (show 1 ≤ (p.length : Int) by omega)]
    by_cases h2 : (p.length : Int) > 40
    · rw [if_pos (decide_eq_true h2), decide_eq_false (show ¬ (p.length : Int) ≤ 40 by omega)]; rfl
    · rw [if_neg (by rw [decide_eq_false h2]; decide), decide_eq_true (show (p.length : Int) ≤ 40 by omega)]
      simp only [Bool.true_and]
      have e := loop_run (fun i x (_ : Unit) => if funOkB x.f0 x.f2 && (findI p x.f0 == (i : Int)) then (.inl () : Unit ⊕ Option Bool) else .inr (some false)) (fun k _ => spec_KeepOk.l1 k p 0) (fun _ _ => True) z52 p (by omega) (fun k _ i => spec_KeepOk.l0 k p i) 300000000000000 ?_ (fun _ _ _ _ _ _ => trivial) ?_ m (by omega) () trivial
      · rw [e]
        have key : ∀ (l : List S52) (i : Nat) (E : Option Bool), runS (fun i x (_ : Unit) => if funOkB x.f0 x.f2 && (findI p x.f0 == (i : Int)) then (.inl () : Unit ⊕ Option Bool) else .inr (some false)) (fun _ => E) l i () = if allFrom (fun i x => funOkB x.f0 x.f2 && (findI p x.f0 == (i : Int))) l i = true then E else some false := by
          intro l
          induction l with
          | nil => intro i E; rfl
          | cons x l ih =>
            intro i E
            simp only [runS]
            by_cases h : (funOkB x.f0 x.f2 && (findI p x.f0 == (i : Int))) = true
            · rw [if_pos h, show allFrom (fun i x => funOkB x.f0 x.f2 && (findI p x.f0 == (i : Int))) (x :: l) i = allFrom (fun i x => funOkB x.f0 x.f2 && (findI p x.f0 == (i : Int))) l (i + 1) by simp only [allFrom, h, Bool.true_and]]; exact ih (i + 1) E
            · have h' : (funOkB x.f0 x.f2 && (findI p x.f0 == (i : Int))) = false := Bool.eq_false_iff.mpr h
              rw [if_neg h, show allFrom (fun i x => funOkB x.f0 x.f2 && (findI p x.f0 == (i : Int))) (x :: l) i = false by simp only [allFrom, h', Bool.false_and]]; rfl
        rw [key p 0 _]
        show (if unitGood p = true then _ else _) = _
        cases h3 : unitGood p with
        | false => rfl
        | true =>
          rw [if_pos rfl, spec_KeepOk_l1 p (by omega) (unitGood_len h3) _ (by omega)]
          rfl
      · intro k i s hK hi _
        have hf := hx _ (getD_mem (d := z52) hi)
        simp only [spec_KeepOk.l0]
        rw [if_pos (by omega), if_pos (by omega), spec_FunOk_f (rd_T52 p (i : Int)) hf k (by have := hf.2.1; have e9 : rd_T52 p (i : Int) = p.getD i z52 := rfl; rw [e9]; omega)]
        simp only [Option.bind_some]
        show (if funOkB (p.getD i z52).f0 (p.getD i z52).f2 = true then _ else _) = _
        cases h3 : funOkB (p.getD i z52).f0 (p.getD i z52).f2 with
        | false => rw [if_neg (by decide)]; rfl
        | true =>
          rw [if_pos rfl, spec_l2Find_f p (by omega) _ k (by omega)]
          simp only [Option.bind_some, Bool.true_and]
          show (if findI p (p.getD i z52).f0 = (i : Int) then _ else _) = _
          by_cases hq : findI p (p.getD i z52).f0 = (i : Int)
          · rw [if_pos hq, if_pos (beq_iff_eq.mpr hq)]
          · rw [if_neg hq, if_neg (by rw [beq_eq_false_iff_ne.mpr hq]; decide)]
      · intro k s _ _
        simp only [spec_KeepOk.l0]
        rw [if_neg (by omega)]
end Go.Proofs.Ytppmalfpggkpdaa.L

/- When a laying is a program's. -/
namespace Go.Proofs.Ytppmalfpggkpdaa.L
open Go.RowKit Go.Proofs.YtppmalfpggkpdaaW.PrintWords Go.Proofs.YtppmalfpggkpdaaW.PrintLast Go.Proofs.YtppmalfpggkpdaaW.PrintMore Go.Proofs.Ytppmalfpggkpdaa.P
set_option linter.unusedVariables false
set_option linter.unusedSimpArgs false
def stoneQ (p : List S52) (st : List ByteArray) (i : Nat) (a : ByteArray) : Bool := !decide (findI p a < 0) && !hasB (st.take i) a
def stoneOk (p : List S52) (st : List ByteArray) : Bool := allFrom (stoneQ p st) st 0
/-- A round of the walk over a laying. -/
def layStep (p : List S52) (at_ : List Int) (ss : List (List ByteArray)) (i : Nat) (x : S52) (s : Int) : Int ⊕ Option Bool :=
  if at_.getD i 0 = s then (if stoneOk p (ss.getD i []) = true then .inl (s + ((x.f2.length : Int) + ((ss.getD i []).length : Int))) else .inr (some false)) else .inr (some false)
def laidV (p : List S52) (at_ : List Int) (ss : List (List ByteArray)) : Option Bool :=
  if keepOkB p && (decide ((at_.length : Int) = p.length) && decide ((ss.length : Int) = p.length)) then runS (layStep p at_ ss) (fun _ => some true) p 0 0 else some false
theorem laidV_some (p : List S52) (at_ : List Int) (ss : List (List ByteArray)) : ∃ b, laidV p at_ ss = some b := by
  unfold laidV
  split
  · have key : ∀ (l : List S52) (i : Nat) (s : Int), ∃ b, runS (layStep p at_ ss) (fun _ => some true) l i s = some b := by
      intro l
      induction l with
      | nil => intro i s; exact ⟨true, rfl⟩
      | cons x l ih =>
        intro i s
        simp only [runS]
        cases h : layStep p at_ ss i x s with
        | inl s' => exact ih (i + 1) s'
        | inr r =>
          unfold layStep at h
          split at h
          · split at h
            · cases h
            · cases h; exact ⟨false, rfl⟩
          · cases h; exact ⟨false, rfl⟩
    exact key p 0 0
  · exact ⟨false, rfl⟩
theorem laidV_true {p : List S52} {at_ : List Int} {ss : List (List ByteArray)} (h : laidV p at_ ss = some true) : at_.length = p.length ∧ ss.length = p.length ∧ 1 ≤ p.length ∧ p.length ≤ 40 := by
  unfold laidV at h
  split at h
  · rename_i hc
    simp only [keepOkB, Bool.and_eq_true, decide_eq_true_eq] at hc
    omega
  · cases h
/-- How long rows may be. -/
def LayFit (ss : List (List ByteArray)) : Prop := ∀ st ∈ ss, st.length ≤ 100000000000000
theorem keepOkB_len {p : List S52} (h : keepOkB p = true) : 1 ≤ p.length ∧ p.length ≤ 40 ∧ ∀ x ∈ p, x.f2.length ≤ 10 := by
  simp only [keepOkB, Bool.and_eq_true, decide_eq_true_eq] at h
  have := unitGood_len h.2.1
  exact ⟨by omega, by omega, this⟩
theorem impl_laid_l1 (p : List S52) (at_ : List Int) (ss : List (List ByteArray)) (s : Int) (i : Nat) (hi : i < ss.length) (hs : 0 ≤ s ∧ s ≤ 9000000000000000000) (c : Int) (b0 : ByteArray) (b1 : Bool) (b2 : List S110) (hb : b2.length ≤ 10) (hl : (ss.getD i []).length ≤ 100000000000000) (k : Nat) (hk : 2 * (ss.getD i []).length + 5 < k) :
    impl_laid.l1 k p s (i : Int) p c (i : Int) (ss.getD i []) ((ss.getD i []).length : Int) 0 at_ ss b0 b1 b2 = if stoneOk p (ss.getD i []) = true then impl_laid.l0 (k - (ss.getD i []).length - 1) p (s + ((b2.length : Int) + ((ss.getD i []).length : Int))) p c (wrap64 ((i : Int) + 1)) at_ ss else some false := by
  have hr : rd_L14 ss (i : Int) = ss.getD i [] := rfl
  refine (loop_run (fun j a (_ : Unit) => if stoneQ p (ss.getD i []) j a then (.inl () : Unit ⊕ Option Bool) else .inr (some false)) (fun k _ => impl_laid.l0 k p (s + ((b2.length : Int) + ((ss.getD i []).length : Int))) p c (wrap64 ((i : Int) + 1)) at_ ss) (fun _ _ => True) ByteArray.empty (ss.getD i []) (by omega) (fun k _ j => impl_laid.l1 k p s (i : Int) p c (i : Int) (ss.getD i []) ((ss.getD i []).length : Int) j at_ ss b0 b1 b2) ((ss.getD i []).length + 2) ?_ (fun _ _ _ _ _ _ => trivial) ?_ k (by omega) () trivial).trans (runS_from _ _ _ _ 0)
  · intro k j _ hK hj _
    simp only [impl_laid.l1, impl_find.f]
    rw [if_pos (by omega), if_pos (by omega), if_pos (by omega), hr, if_pos (by omega), if_pos (by omega), if_pos (by omega)]
    simp only [Option.bind_some]
    rw [slices_Contains_sstring_string_f _ (by rw [List.length_take]; omega) _ k (by rw [List.length_take]; omega)]
    simp only [Option.bind_some]
    show (if findI p ((ss.getD i []).getD j ByteArray.empty) < 0 then _ else (if hasB ((ss.getD i []).take j) ((ss.getD i []).getD j ByteArray.empty) = true then _ else _)) = _
    unfold stoneQ
    by_cases h : findI p ((ss.getD i []).getD j ByteArray.empty) < 0
    · rw [if_pos h, if_neg (by rw [decide_eq_true h]; simp)]
    · rw [if_neg h, decide_eq_false h]
      cases hasB ((ss.getD i []).take j) ((ss.getD i []).getD j ByteArray.empty) <;> rfl
  · intro k _ _ _
    simp only [impl_laid.l1]
    rw [if_neg (by omega), if_pos (by omega), if_pos (by omega), hr, wrap_id (n := (b2.length : Int) + ((ss.getD i []).length : Int)) (by omega) (by omega), wrap_id (by omega) (by omega)]
theorem impl_laid_f (p : List S52) (hn : p.length ≤ 140737488351232) (hx : ∀ x ∈ p, FitF x) (at_ : List Int) (ss : List (List ByteArray)) (hss : LayFit ss) (hz : ss.length ≤ 1000000000000000000) (hz2 : at_.length ≤ 1000000000000000000) (k : Nat) (hk : 10000000000000000000 ≤ k) : impl_laid.f k p at_ ss = laidV p at_ ss := by
  obtain ⟨m, rfl⟩ : ∃ m, k = m + 1 := ⟨k - 1, by omega⟩
  have hj (b : Bool) : impl_laid.j0 (m + 1) p b at_ ss = if b = true then some false else impl_laid.l0 m p 0 p (p.length : Int) 0 at_ ss := by simp only [impl_laid.j0]
  unfold impl_laid.f laidV
  rw [hj, hj, impl_KeepOk_f p hn hx _ (by omega)]
  simp only [Option.bind_some]
  cases hkp : keepOkB p with
  | false => rfl
  | true =>
    obtain ⟨k1, k2, k3⟩ := keepOkB_len hkp
    rw [if_pos rfl, Bool.true_and]
    by_cases h1 : (at_.length : Int) = (p.length : Int)
    · rw [if_pos h1, decide_eq_true h1, Bool.true_and]
      by_cases h2 : (ss.length : Int) = (p.length : Int)
      · rw [decide_eq_true h2, if_neg (by rw [h2]; simp), if_pos rfl]
        refine loop_var (layStep p at_ ss) (fun _ => some true) (fun i s => 0 ≤ s ∧ s ≤ 200000000000000 * i) z52 p (by omega) (fun k s i => impl_laid.l0 k p s p (p.length : Int) i at_ ss) 1000000000000000 200000000000000 ?_ ?_ m (by omega) 0 ⟨by omega, by omega⟩
        · intro k i s hK hi hs
          have hb := k3 _ (getD_mem (d := z52) hi)
          have hst : (ss.getD i []).length ≤ 100000000000000 := hss _ (getD_mem (by omega))
          have e : impl_laid.l0 (k + 1) p s p (p.length : Int) (i : Int) at_ ss = if at_.getD i 0 = s then (if stoneOk p (ss.getD i []) = true then impl_laid.l0 (k - (ss.getD i []).length - 1) p (s + (((p.getD i z52).f2.length : Int) + ((ss.getD i []).length : Int))) p (p.length : Int) (wrap64 ((i : Int) + 1)) at_ ss else some false) else some false := by
            simp only [impl_laid.l0]
            rw [if_pos (by omega), if_pos (by omega), if_pos (by omega), if_pos (by omega), show rd_T52 p (i : Int) = p.getD i z52 from rfl, show rd_L14 ss (i : Int) = ss.getD i [] from rfl, if_pos (show (i : Int) < (ss.length : Int) by omega)]
            rw [impl_laid_l1 p at_ ss s i (by omega) ⟨by omega, by omega⟩ _ _ _ _ hb hst k (by omega)]
            rfl
          unfold layStep
          by_cases hq : at_.getD i 0 = s
          · rw [if_pos hq] at e ⊢
            cases hso : stoneOk p (ss.getD i []) with
            | true =>
              rw [hso, if_pos rfl] at e
              rw [if_pos rfl]
              exact ⟨⟨by omega, by push_cast; omega⟩, k - (ss.getD i []).length - 1, by omega, e⟩
            | false =>
              rw [hso, if_neg (by decide)] at e
              rw [if_neg (by decide)]
              exact e
          · rw [if_neg hq] at e ⊢
            exact e
        · intro k s _ _
          simp only [impl_laid.l0]
          rw [if_neg (by omega)]
      · rw [decide_eq_false h2, if_pos (by simpa using h2)]; rfl
    · rw [if_neg h1, decide_eq_false h1]; rfl
theorem spec_l7Form_l2 (p : List S52) (at_ : List Int) (ss : List (List ByteArray)) (s : Int) (i : Nat) (hi : i < ss.length) (j : Nat) (hj : j < (ss.getD i []).length) (hl : (ss.getD i []).length ≤ 100000000000000) (k : Nat) (hk : j < k) :
    spec_l7Form.l2 k p s (i : Int) (j : Int) 0 at_ ss = if hasB ((ss.getD i []).take j) ((ss.getD i []).getD j ByteArray.empty) = true then some false else spec_l7Form.l1 (k - j - 1) p s (i : Int) (wrap64 ((j : Int) + 1)) at_ ss := by
  have hr : rd_L14 ss (i : Int) = ss.getD i [] := rfl
  have hlen : ((ss.getD i []).take j).length = j := by rw [List.length_take]; omega
  have e := loop_run (fun _ a (_ : Unit) => if a.toList == ((ss.getD i []).getD j ByteArray.empty).toList then (.inr (some false) : Unit ⊕ Option Bool) else .inl ()) (fun k _ => spec_l7Form.l1 k p s (i : Int) (wrap64 ((j : Int) + 1)) at_ ss) (fun _ _ => True) ByteArray.empty ((ss.getD i []).take j) (by omega) (fun k _ m => spec_l7Form.l2 k p s (i : Int) (j : Int) m at_ ss) 0 ?_ (fun _ _ _ _ _ _ => trivial) ?_ k (by omega) () trivial
  · rw [e, runS_all, hlen]
    have e2 : (((ss.getD i []).take j).all fun a => !(a.toList == ((ss.getD i []).getD j ByteArray.empty).toList)) = !hasB ((ss.getD i []).take j) ((ss.getD i []).getD j ByteArray.empty) := by
      unfold hasB
      rw [List.not_any_eq_all_not]
    rw [e2]
    cases hasB ((ss.getD i []).take j) ((ss.getD i []).getD j ByteArray.empty) <;> rfl
  · intro k m _ _ hm _
    rw [hlen] at hm
    simp only [spec_l7Form.l2]
    rw [if_pos (by omega), if_pos (by omega), if_pos (by omega), hr, if_pos (by omega), if_pos (by omega), if_pos (by omega), if_pos (by omega)]
    have e3 : ((ss.getD i []).take j).getD m ByteArray.empty = (ss.getD i []).getD m ByteArray.empty := by
      simp only [List.getD_eq_getElem?_getD, List.getElem?_take]
      rw [if_pos hm]
    rw [e3]
    show (if ((ss.getD i []).getD m ByteArray.empty).toList = ((ss.getD i []).getD j ByteArray.empty).toList then _ else _) = _
    by_cases h : ((ss.getD i []).getD m ByteArray.empty).toList = ((ss.getD i []).getD j ByteArray.empty).toList
    · rw [if_pos h, if_pos (beq_iff_eq.mpr h)]
    · rw [if_neg h, if_neg (by rw [beq_eq_false_iff_ne.mpr h]; decide)]
  · intro k _ _ _
    rw [hlen]
    simp only [spec_l7Form.l2]
    rw [if_neg (by omega)]
theorem spec_l7Form_l1 (p : List S52) (hp : p.length ≤ 1000) (at_ : List Int) (ss : List (List ByteArray)) (s : Int) (i : Nat) (hip : i < p.length) (hi : i < ss.length) (hs : 0 ≤ s ∧ s ≤ 9000000000000000000) (hb : (p.getD i z52).f2.length ≤ 10) (hl : (ss.getD i []).length ≤ 100000000000000) (k : Nat) (hk : 100000000000010000000000000000 < k) :
    ∃ k', k ≤ k' + 100000000000010000000000000000 ∧ spec_l7Form.l1 k p s (i : Int) 0 at_ ss = if stoneOk p (ss.getD i []) = true then spec_l7Form.l0 k' p (s + (((p.getD i z52).f2.length : Int) + ((ss.getD i []).length : Int))) (wrap64 ((i : Int) + 1)) at_ ss else some false := by
  have hr : rd_L14 ss (i : Int) = ss.getD i [] := rfl
  have hm : (ss.getD i []).length * (100000000000001 + 1) ≤ 100000000000000 * (100000000000001 + 1) := Nat.mul_le_mul_right _ hl
  obtain ⟨k', h1, h2⟩ := loop_vark (fun j a (_ : Unit) => if stoneQ p (ss.getD i []) j a then (.inl () : Unit ⊕ Option Bool) else .inr (some false)) (fun k _ => spec_l7Form.l0 k p (s + (((p.getD i z52).f2.length : Int) + ((ss.getD i []).length : Int))) (wrap64 ((i : Int) + 1)) at_ ss) (fun _ _ => True) ByteArray.empty (ss.getD i []) (by omega) (fun k _ j => spec_l7Form.l1 k p s (i : Int) j at_ ss) 100000000000002 100000000000001 (by
      intro k j _ hK hj _
      have e : spec_l7Form.l1 (k + 1) p s (i : Int) (j : Int) at_ ss = if findI p ((ss.getD i []).getD j ByteArray.empty) < 0 then some false else (if hasB ((ss.getD i []).take j) ((ss.getD i []).getD j ByteArray.empty) = true then some false else spec_l7Form.l1 (k - j - 1) p s (i : Int) (wrap64 ((j : Int) + 1)) at_ ss) := by
        simp only [spec_l7Form.l1]
        rw [if_pos (by omega), if_pos (by omega), hr, if_pos (by omega), if_pos (by omega), spec_l2Find_f p (by omega) _ k (by omega)]
        simp only [Option.bind_some]
        rw [spec_l7Form_l2 p at_ ss s i hi j hj hl k (by omega)]
        rfl
      unfold stoneQ
      by_cases h : findI p ((ss.getD i []).getD j ByteArray.empty) < 0
      · rw [if_pos h] at e
        rw [if_neg (by rw [decide_eq_true h]; simp)]
        exact e
      · rw [if_neg h] at e
        rw [decide_eq_false h]
        cases hh : hasB ((ss.getD i []).take j) ((ss.getD i []).getD j ByteArray.empty) with
        | true =>
          rw [hh, if_pos rfl] at e
          rw [if_neg (by decide)]
          exact e
        | false =>
          rw [hh, if_neg (by decide)] at e
          rw [if_pos (by decide)]
          exact ⟨trivial, k - j - 1, by omega, e⟩) (by
      intro k _ _ _
      simp only [spec_l7Form.l1]
      rw [if_pos (by omega), if_pos (by omega), hr, if_neg (by omega), if_pos (by omega), show rd_T52 p (i : Int) = p.getD i z52 from rfl, wrap_id (n := s + ((p.getD i z52).f2.length : Int)) (by omega) (by omega), wrap_id (n := s + ((p.getD i z52).f2.length : Int) + ((ss.getD i []).length : Int)) (by omega) (by omega), Int.add_assoc]) k (by omega) () trivial
  exact ⟨k', by omega, h2.trans (runS_from _ _ _ _ 0)⟩
theorem spec_l7Form_f (p : List S52) (hn : p.length ≤ 140737488351232) (hx : ∀ x ∈ p, FitF x) (at_ : List Int) (ss : List (List ByteArray)) (hss : LayFit ss) (hz : ss.length ≤ 1000000000000000000) (hz2 : at_.length ≤ 1000000000000000000) (k : Nat) (hk : 100000000000000000000000000000000 ≤ k) : spec_l7Form.f k p at_ ss = laidV p at_ ss := by
  obtain ⟨m, rfl⟩ : ∃ m, k = m + 1 := ⟨k - 1, by omega⟩
  have hj (b : Bool) : spec_l7Form.j0 (m + 1) p b at_ ss = if b = true then some false else spec_l7Form.l0 m p 0 0 at_ ss := by simp only [spec_l7Form.j0]
  unfold spec_l7Form.f laidV
  rw [hj, hj, spec_KeepOk_f p hn hx _ (by omega)]
  simp only [Option.bind_some]
  cases hkp : keepOkB p with
  | false => rfl
  | true =>
    obtain ⟨k1, k2, k3⟩ := keepOkB_len hkp
    rw [if_pos rfl, Bool.true_and]
    by_cases h1 : (at_.length : Int) = (p.length : Int)
    · rw [if_pos h1, decide_eq_true h1, Bool.true_and]
      by_cases h2 : (ss.length : Int) = (p.length : Int)
      · rw [decide_eq_true h2, if_neg (by rw [h2]; simp), if_pos rfl]
        refine loop_var (layStep p at_ ss) (fun _ => some true) (fun i s => 0 ≤ s ∧ s ≤ 200000000000000 * i) z52 p (by omega) (fun k s i => spec_l7Form.l0 k p s i at_ ss) 200000000000020000000000000000 100000000000010000000000000000 ?_ ?_ m (by omega) 0 ⟨by omega, by omega⟩
        · intro k i s hK hi hs
          have hb := k3 _ (getD_mem (d := z52) hi)
          have hst : (ss.getD i []).length ≤ 100000000000000 := hss _ (getD_mem (by omega))
          obtain ⟨k', hk', e1⟩ := spec_l7Form_l1 p (by omega) at_ ss s i hi (by omega) ⟨by omega, by omega⟩ hb hst k (by omega)
          have e : spec_l7Form.l0 (k + 1) p s (i : Int) at_ ss = if at_.getD i 0 = s then (if stoneOk p (ss.getD i []) = true then spec_l7Form.l0 k' p (s + (((p.getD i z52).f2.length : Int) + ((ss.getD i []).length : Int))) (wrap64 ((i : Int) + 1)) at_ ss else some false) else some false := by
            simp only [spec_l7Form.l0]
            rw [if_pos (by omega), if_pos (by omega), if_pos (by omega), e1]
            rfl
          unfold layStep
          by_cases hq : at_.getD i 0 = s
          · rw [if_pos hq] at e ⊢
            cases hso : stoneOk p (ss.getD i []) with
            | true =>
              rw [hso, if_pos rfl] at e
              rw [if_pos rfl]
              exact ⟨⟨by omega, by push_cast; omega⟩, k', by omega, e⟩
            | false =>
              rw [hso, if_neg (by decide)] at e
              rw [if_neg (by decide)]
              exact e
          · rw [if_neg hq] at e ⊢
            exact e
        · intro k s _ _
          simp only [spec_l7Form.l0]
          rw [if_neg (by omega)]
      · rw [decide_eq_false h2, if_pos (by simpa using h2)]; rfl
    · rw [if_neg h1, decide_eq_false h1]; rfl
def stoneV (p : List S52) (at_ : List Int) (ss : List (List ByteArray)) (a b : Int) : Int :=
  if laidV p at_ ss = some true ∧ (0 ≤ a ∧ a < p.length) ∧ (0 ≤ b ∧ b < ((rd_L14 ss a).length : Int)) then wrap64 ((wrap64 ((rd at_ a) + (((rd_T52 p a).f2).length : Int))) + b) else -1
theorem impl_LayStone_f (p : List S52) (hn : p.length ≤ 140737488351232) (hx : ∀ x ∈ p, FitF x) (at_ : List Int) (ss : List (List ByteArray)) (hss : LayFit ss) (hz : ss.length ≤ 1000000000000000000) (hz2 : at_.length ≤ 1000000000000000000) (a b : Int) (k : Nat) (hk : 10000000000000000000 ≤ k) : impl_LayStone.f k p at_ ss a b = some (stoneV p at_ ss a b) := by
  obtain ⟨l, hl⟩ := laidV_some p at_ ss
  unfold impl_LayStone.f stoneV
  rw [impl_laid_f p hn hx at_ ss hss hz hz2 k hk, hl]
  simp only [Option.bind_some]
  cases l with
  | false => rw [if_neg (by decide), if_neg (fun h => absurd h.1 (by decide))]
  | true =>
    obtain ⟨l1, l2, l3, l4⟩ := laidV_true hl
    rw [if_pos rfl, impl_in_f, wrap_id (by omega) (by omega)]
    simp only [Option.bind_some]
    by_cases ha : 0 ≤ a ∧ a < (p.length : Int)
    · have hlen : (rd_L14 ss a).length ≤ 100000000000000 := hss _ (getD_mem (by omega))
      rw [decide_eq_true ha.1, decide_eq_true (show a ≤ (p.length : Int) - 1 by omega), if_pos (show (true && true) = true from rfl), if_pos ha.1, if_pos (by omega), impl_in_f, wrap_id (by omega) (by omega)]
      simp only [Option.bind_some]
      by_cases hb : 0 ≤ b ∧ b < ((rd_L14 ss a).length : Int)
      · rw [decide_eq_true hb.1, decide_eq_true (show b ≤ ((rd_L14 ss a).length : Int) - 1 by omega), if_pos (show (true && true) = true from rfl), if_pos (by omega), if_pos (by omega), if_pos ⟨trivial, ha, hb⟩]
      · rw [if_neg (by simp only [Bool.and_eq_true, decide_eq_true_eq]; omega), if_neg (fun h => hb h.2.2)]
    · rw [if_neg (by simp only [Bool.and_eq_true, decide_eq_true_eq]; omega), if_neg (fun h => ha h.2.1)]
theorem spec_LayStone_f (p : List S52) (hn : p.length ≤ 140737488351232) (hx : ∀ x ∈ p, FitF x) (at_ : List Int) (ss : List (List ByteArray)) (hss : LayFit ss) (hz : ss.length ≤ 1000000000000000000) (hz2 : at_.length ≤ 1000000000000000000) (a b : Int) (k : Nat) (hk : 100000000000000000000000000000000 ≤ k) : spec_LayStone.f k p at_ ss a b = some (stoneV p at_ ss a b) := by
  obtain ⟨l, hl⟩ := laidV_some p at_ ss
  obtain ⟨m, rfl⟩ : ∃ m, k = m + 1 := ⟨k - 1, by omega⟩
  have hj (c : Bool) : spec_LayStone.j0 (m + 1) p a b c at_ ss = if c = true then some (-1) else ((spec_l7Stone.f p at_ ss a b).bind fun t => some t) := by simp only [spec_LayStone.j0]
  unfold spec_LayStone.f stoneV
  rw [hj, hj, spec_l7Form_f p hn hx at_ ss hss hz hz2 _ hk, hl]
  simp only [Option.bind_some, if_true]
  cases l with
  | false => rw [if_neg (by decide), if_neg (fun h => absurd h.1 (by decide))]
  | true =>
    obtain ⟨l1, l2, l3, l4⟩ := laidV_true hl
    rw [if_pos rfl]
    by_cases ha : a < 0
    · rw [if_pos ha, if_neg (fun h => by have := h.2.1.1; omega)]
    · rw [if_neg ha]
      by_cases ha2 : a ≥ (p.length : Int)
      · rw [if_pos ha2, if_neg (fun h => by have := h.2.1.2; omega)]
      · rw [if_neg ha2]
        by_cases hb : b < 0
        · rw [if_pos hb, if_neg (fun h => by have := h.2.2.1; omega)]
        · rw [if_neg hb, if_pos (by omega), if_pos (by omega)]
          by_cases hb2 : b ≥ ((rd_L14 ss a).length : Int)
          · rw [if_pos (decide_eq_true hb2), if_neg (fun h => by have := h.2.2.2; omega)]
          · rw [if_neg (by rw [decide_eq_false hb2]; decide), if_pos ⟨rfl, ⟨by omega, by omega⟩, by omega, by omega⟩]
            unfold spec_l7Stone.f
            rw [if_pos (by omega), if_pos (by omega), if_pos (by omega)]
            rfl
end Go.Proofs.Ytppmalfpggkpdaa.L

/- The program's LayStone returns what the reference's returns, for all arguments. -/
namespace Go.Proofs.Ytppmalfpggkpdaa.Pure
open Go.RowKit Go.Proofs.Ytppmalfpggkpdaa.P Go.Proofs.Ytppmalfpggkpdaa.L Go.Proofs.YtppmalfpggkpdaaW.PrintWords
set_option linter.unusedVariables false
theorem FnExactLayStone : laws_FnExactLayStone.Pure := by
  intro x y a b h_x h_y _ _
  replace h_x : OkU x := h_x
  obtain ⟨K, hK⟩ : ∃ K : Nat, 10000000000000000000000000000000000000000 ≤ K := ⟨_, Nat.le_refl _⟩
  refine ⟨K + 12, ?_⟩
  unfold laws_FnExactLayStone.f
  rw [a_szFunS h_x 1048576 (by decide) (by decide) _ (by omega)]
  simp only [Option.bind_some]
  have b_x := gFunS_le x 1048576 (by decide)
  by_cases c_x : gFunS x 1048576 < 0
  · rw [if_pos c_x]
  rw [if_neg c_x]
  simp only [laws_FnExactLayStone.j0]
  rw [a_szLay h_y (gFunS x 1048576) (by omega) (by omega) _ (by omega)]
  simp only [Option.bind_some]
  by_cases c_y : gLay y (gFunS x 1048576) < 0
  · rw [if_pos c_y]
  rw [if_neg c_y]
  simp only [laws_FnExactLayStone.j1]
  rw [a_toFunS h_x _ (by omega)]
  simp only [Option.bind_some]
  rw [a_toLay h_y _ (by omega)]
  simp only [Option.bind_some]
  have hl : (x.map cvFun).length ≤ 2932031007402 := by rw [List.length_map]; exact h_x.len
  have hy := lay_len h_y
  have hss : LayFit y.f1 := fun st h => by have := hy.2.2 st h; omega
  rw [spec_LayStone_f (x.map cvFun) (by omega) (fits_cv h_x) y.f0 y.f1 hss (by omega) (by omega) a b _ (by omega), impl_LayStone_f (x.map cvFun) (by omega) (fits_cv h_x) y.f0 y.f1 hss (by omega) (by omega) a b _ (by omega)]
  simp only [Option.bind_some, if_true, laws_FnExactLayStone.j2]
  rw [a_toFunS h_x _ (by omega)]
  simp only [Option.bind_some]
  rw [a_eqFunS h_x _ (by omega)]
  simp only [Option.bind_some, if_true, laws_FnExactLayStone.j3]
  rw [a_toLay h_y _ (by omega)]
  simp only [Option.bind_some]
  rw [a_eqLay h_y _ (by omega)]
  simp only [Option.bind_some, if_true]
end Go.Proofs.Ytppmalfpggkpdaa.Pure
