/- What the laws' own conversions compute: sizes, copies, comparisons. -/
import Derived.Test.YtccknlcokknadaaPxlawseqFun
import Derived.Test.YtccknlcokknadaaPxlawseqFunSS
import Derived.Test.YtccknlcokknadaaPxlawsszFunS
import Derived.Test.YtccknlcokknadaaPxlawsszFunSS
import Derived.Test.YtccknlcokknadaaPxlawsszIns
import Derived.Test.YtccknlcokknadaaLSameF
namespace Go.Proofs.Ytccknlcokknadaa.L
open Go.RowKit Go.Proofs.YtccknlcokknadaaW.PrintWords Go.Proofs.YtccknlcokknadaaW.PrintLast Go.Proofs.YtccknlcokknadaaW.PrintMore Go.Proofs.Ytccknlcokknadaa.P
set_option linter.unusedVariables false
set_option linter.unusedSimpArgs false

/-- What is left of a bound behind a list. -/
def szL {α : Type} (g : α → Int → Int) (l : List α) (s : Int) : Int := if s < l.length then -1 else szFold g l (s - l.length)
theorem szL_le {α : Type} (g : α → Int → Int) (h : ∀ x s, 0 ≤ s → -1 ≤ g x s ∧ g x s ≤ s) (l : List α) (s : Int) (hs : 0 ≤ s) : -1 ≤ szL g l s ∧ szL g l s ≤ s := by
  unfold szL
  split
  · omega
  · have := szFold_le g h l (s - l.length) (by omega)
    omega
/-- What is left behind a text. -/
def szS (a : ByteArray) (s : Int) : Int := if s < a.size then -1 else s - a.size
theorem szS_le (a : ByteArray) (s : Int) (hs : 0 ≤ s) : -1 ≤ szS a s ∧ szS a s ≤ s := by
  unfold szS
  split <;> omega
/-- How far a text may go. -/
abbrev Fits (s : ByteArray) : Prop := s.size ≤ 140737488351232
theorem szS_wrap (a : ByteArray) (s : Int) (ha : Fits a) (h0 : 0 ≤ s) (h1 : s ≤ 1048576) : (if (wrap64 (s - (a.size : Int))) < 0 then (-1 : Int) else (wrap64 (s - (a.size : Int)))) = szS a s := by
  rw [wrap_id (by omega) (by omega)]
  unfold szS
  by_cases h : s < a.size
  · rw [if_pos (by omega), if_pos h]
  · rw [if_neg (by omega), if_neg h]
theorem len_wrap {s : Int} {n : Nat} (hn : n ≤ 140737488351232) (h0 : 0 ≤ s) (h1 : s ≤ 1048576) : wrap64 (s - (n : Int)) = s - n := wrap_id (by omega) (by omega)
def gIns (x : S117) (s : Int) : Int := szS x.f2 s
theorem gIns_le (x : S117) (s : Int) (h : 0 ≤ s) : -1 ≤ gIns x s ∧ gIns x s ≤ s := szS_le _ _ h
def FitsIns (x : S117) : Prop := Fits x.f2
theorem laws_szIns_g (x : S117) (hx : FitsIns x) (s : Int) (h0 : 0 ≤ s) (h1 : s ≤ 1048576) : laws_szIns.f x.f0 x.f1 x.f2 s = some (gIns x s) := by
  unfold laws_szIns.f gIns
  rw [← szS_wrap x.f2 s hx h0 h1]
  split <;> rfl
theorem laws_szInsS_f (l : List S117) (hn : l.length ≤ 140737488351232) (hx : ∀ x ∈ l, FitsIns x) (s : Int) (h0 : 0 ≤ s) (h1 : s ≤ 1048576) (k : Nat) (hk : l.length < k) : laws_szInsS.f k l s = some (szL gIns l s) := by
  unfold laws_szInsS.f szL
  rw [len_wrap hn h0 h1]
  by_cases h : s < l.length
  · rw [if_pos (by omega), if_pos h]
  · rw [if_neg (by omega), if_neg h]
    refine loop_sz l z117 gIns gIns_le (by omega) (fun k s i => laws_szInsS.l0 k l s i) 0 ?_ ?_ (s - l.length) (by omega) (by omega) k (by omega)
    · intro k i s _ hi h0 h1
      simp only [laws_szInsS.l0]
      rw [if_pos (by omega), if_pos (by omega), laws_szIns_g (rd_T117 l (i : Int)) (hx _ (getD_mem hi)) s h0 h1]
      rfl
    · intro k s _
      simp only [laws_szInsS.l0]
      rw [if_neg (by omega)]
def gFun (x : S24) (s : Int) : Int := if szS x.f0 s < 0 then -1 else szL gIns x.f2 (szS x.f0 s)
theorem gFun_le (x : S24) (s : Int) (h : 0 ≤ s) : -1 ≤ gFun x s ∧ gFun x s ≤ s := by
  unfold gFun
  have := szS_le x.f0 s h
  split
  · omega
  · have := szL_le gIns gIns_le x.f2 (szS x.f0 s) (by omega)
    omega
def FitsFun (x : S24) : Prop := Fits x.f0 ∧ x.f2.length ≤ 140737488351232 ∧ ∀ y ∈ x.f2, FitsIns y
theorem laws_szFun_g (x : S24) (hx : FitsFun x) (s : Int) (h0 : 0 ≤ s) (h1 : s ≤ 1048576) (k : Nat) (hk : x.f2.length < k) : laws_szFun.f k x.f0 x.f1 x.f2 s = some (gFun x s) := by
  unfold laws_szFun.f gFun
  have e := szS_wrap x.f0 s hx.1 h0 h1
  have hb := szS_le x.f0 s h0
  have hs := hx.1
  have w : wrap64 (s - (x.f0.size : Int)) = s - x.f0.size := wrap_id (by have : x.f0.size ≤ 140737488351232 := hs; omega) (by omega)
  rw [w] at e ⊢
  by_cases h : s - (x.f0.size : Int) < 0
  · rw [if_pos h] at e ⊢
    rw [← e, if_pos (by omega)]
  · rw [if_neg h] at e ⊢
    rw [← e, if_neg h, laws_szInsS_f x.f2 hx.2.1 hx.2.2 _ (by omega) (by omega) k hk]
    simp only [Option.bind_some]
    have := szL_le gIns gIns_le x.f2 (s - x.f0.size) (by omega)
    split
    · congr 1; omega
    · rfl
theorem laws_szFunS_f (l : List S24) (hn : l.length ≤ 140737488351232) (hx : ∀ x ∈ l, FitsFun x) (B : Nat) (hB : ∀ x ∈ l, x.f2.length < B) (s : Int) (h0 : 0 ≤ s) (h1 : s ≤ 1048576) (k : Nat) (hk : B + l.length < k) : laws_szFunS.f k l s = some (szL gFun l s) := by
  unfold laws_szFunS.f szL
  rw [len_wrap hn h0 h1]
  by_cases h : s < l.length
  · rw [if_pos (by omega), if_pos h]
  · rw [if_neg (by omega), if_neg h]
    refine loop_sz l z24 gFun gFun_le (by omega) (fun k s i => laws_szFunS.l0 k l s i) B ?_ ?_ (s - l.length) (by omega) (by omega) k (by omega)
    · intro k i s hK hi h0 h1
      simp only [laws_szFunS.l0]
      rw [if_pos (by omega), if_pos (by omega), laws_szFun_g (rd_T24 l (i : Int)) (hx _ (getD_mem hi)) s h0 h1 k (by have := hB _ (getD_mem (d := z24) hi); exact Nat.lt_of_lt_of_le this hK)]
      rfl
    · intro k s _
      simp only [laws_szFunS.l0]
      rw [if_neg (by omega)]
def gFunS (l : List S24) (s : Int) : Int := szL gFun l s
theorem gFunS_le (l : List S24) (s : Int) (h : 0 ≤ s) : -1 ≤ gFunS l s ∧ gFunS l s ≤ s := szL_le _ gFun_le _ _ h
def FitsUnit (B : Nat) (u : List S24) : Prop := u.length ≤ 140737488351232 ∧ (∀ x ∈ u, FitsFun x) ∧ ∀ x ∈ u, x.f2.length < B
theorem laws_szFunS_g (B : Nat) (l : List S24) (hl : FitsUnit B l) (s : Int) (h0 : 0 ≤ s) (h1 : s ≤ 1048576) (k : Nat) (hk : B + l.length < k) : laws_szFunS.f k l s = some (gFunS l s) := laws_szFunS_f l hl.1 hl.2.1 B hl.2.2 s h0 h1 k hk
theorem laws_szFunSS_f (l : List (List S24)) (hn : l.length ≤ 140737488351232) (B C : Nat) (hx : ∀ u ∈ l, FitsUnit B u) (hB : ∀ u ∈ l, B + u.length < C) (s : Int) (h0 : 0 ≤ s) (h1 : s ≤ 1048576) (k : Nat) (hk : C + l.length < k) : laws_szFunSS.f k l s = some (szL gFunS l s) := by
  unfold laws_szFunSS.f szL
  rw [len_wrap hn h0 h1]
  by_cases h : s < l.length
  · rw [if_pos (by omega), if_pos h]
  · rw [if_neg (by omega), if_neg h]
    refine loop_sz l [] gFunS gFunS_le (by omega) (fun k s i => laws_szFunSS.l0 k l s i) C ?_ ?_ (s - l.length) (by omega) (by omega) k (by omega)
    · intro k i s hK hi h0 h1
      simp only [laws_szFunSS.l0]
      rw [if_pos (by omega), if_pos (by omega), laws_szFunS_g B (rd_L13 l (i : Int)) (hx _ (getD_mem hi)) s h0 h1 k (by have := hB _ (getD_mem (d := []) hi); exact Nat.lt_of_lt_of_le this hK)]
      rfl
    · intro k s _
      simp only [laws_szFunSS.l0]
      rw [if_neg (by omega)]
def cvIns (x : S117) : S88 := ⟨x.f0, x.f1, x.f2⟩
theorem laws_toIns_c (x : S117) : laws_toIns.f x.f0 x.f1 x.f2 = some (x.f0, x.f1, x.f2) := rfl
theorem laws_toInsS_f (l : List S117) (hn : l.length ≤ 8796093022208) (k : Nat) (hk : l.length < k) : laws_toInsS.f k l = some (l.map cvIns) := by
  unfold laws_toInsS.f
  rw [if_pos (by omega), if_pos (by omega)]
  refine loop_fill l z117 z88 cvIns (by omega) (fun k acc i => laws_toInsS.l0 k l acc i) 0 ?_ ?_ k (by omega)
  · intro k i acc hK hi ha
    simp only [laws_toInsS.l0]
    rw [if_pos (by omega), if_pos (by omega), laws_toIns_c (rd_T117 l (i : Int))]
    simp only [Option.bind_some]
    rw [if_pos (by omega)]
    rfl
  · intro k acc _
    simp only [laws_toInsS.l0]
    rw [if_neg (by omega)]
def cvFun (x : S24) : S29 := ⟨x.f0, x.f1, x.f2.map cvIns⟩
theorem laws_toFun_c (x : S24) (hn : x.f2.length ≤ 8796093022208) (k : Nat) (hk : x.f2.length < k) : laws_toFun.f k x.f0 x.f1 x.f2 = some (x.f0, x.f1, x.f2.map cvIns) := by
  unfold laws_toFun.f
  rw [laws_toInsS_f x.f2 hn k hk]
  rfl
theorem laws_toFunS_f (l : List S24) (hn : l.length ≤ 5864062014805) (hx : ∀ x ∈ l, x.f2.length ≤ 8796093022208) (B : Nat) (hB : ∀ x ∈ l, x.f2.length < B) (k : Nat) (hk : B + l.length < k) : laws_toFunS.f k l = some (l.map cvFun) := by
  unfold laws_toFunS.f
  rw [if_pos (by omega), if_pos (by omega)]
  refine loop_fill l z24 z29 cvFun (by omega) (fun k acc i => laws_toFunS.l0 k l acc i) B ?_ ?_ k (by omega)
  · intro k i acc hK hi ha
    simp only [laws_toFunS.l0]
    rw [if_pos (by omega), if_pos (by omega), laws_toFun_c (rd_T24 l (i : Int)) (hx _ (getD_mem hi)) k (by have := hB _ (getD_mem (d := z24) hi); exact Nat.lt_of_lt_of_le this hK)]
    simp only [Option.bind_some]
    rw [if_pos (by omega)]
    rfl
  · intro k acc _
    simp only [laws_toFunS.l0]
    rw [if_neg (by omega)]
def FitsMake (B : Nat) (u : List S24) : Prop := u.length ≤ 5864062014805 ∧ (∀ x ∈ u, x.f2.length ≤ 8796093022208) ∧ ∀ x ∈ u, x.f2.length < B
theorem laws_toFunS_c (B : Nat) (l : List S24) (hl : FitsMake B l) (k : Nat) (hk : B + l.length < k) : laws_toFunS.f k l = some (l.map cvFun) := laws_toFunS_f l hl.1 hl.2.1 B hl.2.2 k hk
theorem laws_toFunSS_f (l : List (List S24)) (hn : l.length ≤ 5864062014805) (B C : Nat) (hx : ∀ u ∈ l, FitsMake B u) (hB : ∀ u ∈ l, B + u.length < C) (k : Nat) (hk : C + l.length < k) : laws_toFunSS.f k l = some (l.map (List.map cvFun)) := by
  unfold laws_toFunSS.f
  rw [if_pos (by omega), if_pos (by omega)]
  refine loop_fill l [] [] (List.map cvFun) (by omega) (fun k acc i => laws_toFunSS.l0 k l acc i) C ?_ ?_ k (by omega)
  · intro k i acc hK hi ha
    simp only [laws_toFunSS.l0]
    rw [if_pos (by omega), if_pos (by omega), laws_toFunS_c B (rd_L13 l (i : Int)) (hx _ (getD_mem hi)) k (by have := hB _ (getD_mem (d := []) hi); exact Nat.lt_of_lt_of_le this hK)]
    simp only [Option.bind_some]
    rw [if_pos (by omega)]
    rfl
  · intro k acc _
    simp only [laws_toFunSS.l0]
    rw [if_neg (by omega)]
theorem laws_eqIns_f (x y : S88) : laws_eqIns.f x.f0 x.f1 x.f2 y.f0 y.f1 y.f2 = some (insSame x y) := by
  unfold laws_eqIns.f insSame
  by_cases h0 : x.f0 = y.f0
  · rw [if_pos h0, beq_iff_eq.mpr h0]
    by_cases h1 : x.f1 = y.f1
    · rw [if_pos h1, beq_iff_eq.mpr h1]
      by_cases h2 : x.f2.toList = y.f2.toList
      · rw [if_pos h2, beq_iff_eq.mpr h2]; rfl
      · rw [if_neg h2, beq_eq_false_iff_ne.mpr h2]; rfl
    · rw [if_neg h1, beq_eq_false_iff_ne.mpr h1]; rfl
  · rw [if_neg h0, beq_eq_false_iff_ne.mpr h0]; rfl
theorem laws_eqInsS_f (l m : List S88) (hn : l.length ≤ 9223372036854775807) (k : Nat) (hk : l.length < k) : laws_eqInsS.f k l m = some (all2 insSame l m) := by
  unfold laws_eqInsS.f
  by_cases hl : l.length = m.length
  · rw [if_pos (by omega)]
    refine loop_all2 insSame z88 z88 l m hl hn (fun k i => laws_eqInsS.l0 k l m i) 0 ?_ ?_ ?_ k (by omega)
    · intro k i hK hi hq
      have hi' : i < m.length := by omega
      simp only [laws_eqInsS.l0]
      rw [if_pos (by omega), if_pos (by omega), if_pos (by omega)]
      have e := laws_eqIns_f (rd_T88 l (i : Int)) (rd_T88 m (i : Int))
      rw [show insSame (rd_T88 l (i : Int)) (rd_T88 m (i : Int)) = true from hq] at e
      rw [e]
      rfl
    · intro k i hK hi hq
      have hi' : i < m.length := by omega
      simp only [laws_eqInsS.l0]
      rw [if_pos (by omega), if_pos (by omega), if_pos (by omega)]
      have e := laws_eqIns_f (rd_T88 l (i : Int)) (rd_T88 m (i : Int))
      rw [show insSame (rd_T88 l (i : Int)) (rd_T88 m (i : Int)) = false from hq] at e
      rw [e]
      rfl
    · intro k hK
      simp only [laws_eqInsS.l0]
      rw [if_neg (by omega)]
  · rw [if_neg (by omega), all2_len _ _ _ hl]
theorem laws_eqFun_f (x y : S29) (hn : x.f2.length ≤ 9223372036854775807) (k : Nat) (hk : x.f2.length < k) : laws_eqFun.f k x.f0 x.f1 x.f2 y.f0 y.f1 y.f2 = some (funSame x y) := by
  unfold laws_eqFun.f
  rw [laws_eqInsS_f x.f2 y.f2 hn k hk]
  by_cases h : x.f0.toList = y.f0.toList
  · rw [if_pos h]
    cases h2 : (x.f1 == y.f1) with
    | true =>
      rw [if_neg (by simp only [bne, h2]; decide)]
      cases h3 : all2 insSame x.f2 y.f2 <;> simp [funSame, h, h2, h3]
    | false =>
      rw [if_pos (by simp only [bne, h2]; decide)]
      simp [funSame, h, h2]
  · rw [if_neg h]
    simp [funSame, beq_eq_false_iff_ne.mpr h]
theorem laws_eqFunS_f (l m : List S29) (hn : l.length ≤ 9223372036854775807) (B : Nat) (hB : B ≤ 9223372036854775807) (hb : ∀ x ∈ l, x.f2.length < B) (k : Nat) (hk : B + l.length < k) : laws_eqFunS.f k l m = some (all2 funSame l m) := by
  unfold laws_eqFunS.f
  by_cases hl : l.length = m.length
  · rw [if_pos (by omega)]
    refine loop_all2 funSame z29 z29 l m hl hn (fun k i => laws_eqFunS.l0 k l m i) B ?_ ?_ ?_ k (by omega)
    · intro k i hK hi hq
      have hi' : i < m.length := by omega
      simp only [laws_eqFunS.l0]
      rw [if_pos (by omega), if_pos (by omega), if_pos (by omega)]
      have e := laws_eqFun_f (rd_T29 l (i : Int)) (rd_T29 m (i : Int)) (by have := hb _ (getD_mem (d := z29) hi); have e0 : rd_T29 l (i : Int) = l.getD i z29 := rfl; rw [e0]; omega) k (by have := hb _ (getD_mem (d := z29) hi); have e0 : rd_T29 l (i : Int) = l.getD i z29 := rfl; rw [e0]; omega)
      rw [show funSame (rd_T29 l (i : Int)) (rd_T29 m (i : Int)) = true from hq] at e
      rw [e]
      rfl
    · intro k i hK hi hq
      have hi' : i < m.length := by omega
      simp only [laws_eqFunS.l0]
      rw [if_pos (by omega), if_pos (by omega), if_pos (by omega)]
      have e := laws_eqFun_f (rd_T29 l (i : Int)) (rd_T29 m (i : Int)) (by have := hb _ (getD_mem (d := z29) hi); have e0 : rd_T29 l (i : Int) = l.getD i z29 := rfl; rw [e0]; omega) k (by have := hb _ (getD_mem (d := z29) hi); have e0 : rd_T29 l (i : Int) = l.getD i z29 := rfl; rw [e0]; omega)
      rw [show funSame (rd_T29 l (i : Int)) (rd_T29 m (i : Int)) = false from hq] at e
      rw [e]
      rfl
    · intro k hK
      simp only [laws_eqFunS.l0]
      rw [if_neg (by omega)]
  · rw [if_neg (by omega), all2_len _ _ _ hl]
theorem laws_eqFunS_u (l m : List S29) (hn : l.length ≤ 9223372036854775807) (B : Nat) (hB : B ≤ 9223372036854775807) (hb : ∀ x ∈ l, x.f2.length < B) (k : Nat) (hk : B + l.length < k) : laws_eqFunS.f k l m = some (unitSame l m) := laws_eqFunS_f l m hn B hB hb k hk
theorem laws_eqFunSS_f (l m : List (List S29)) (hn : l.length ≤ 9223372036854775807) (B C : Nat) (hB : B ≤ 9223372036854775807) (hC : C ≤ 9223372036854775807) (hb : ∀ u ∈ l, B + u.length < C ∧ ∀ x ∈ u, x.f2.length < B) (k : Nat) (hk : C + l.length < k) : laws_eqFunSS.f k l m = some (all2 unitSame l m) := by
  unfold laws_eqFunSS.f
  by_cases hl : l.length = m.length
  · rw [if_pos (by omega)]
    refine loop_all2 unitSame [] [] l m hl hn (fun k i => laws_eqFunSS.l0 k l m i) C ?_ ?_ ?_ k (by omega)
    · intro k i hK hi hq
      have hi' : i < m.length := by omega
      simp only [laws_eqFunSS.l0]
      rw [if_pos (by omega), if_pos (by omega), if_pos (by omega)]
      have e := laws_eqFunS_u (rd_L21 l (i : Int)) (rd_L21 m (i : Int)) (by have := (hb _ (getD_mem (d := []) hi)).1; have e0 : rd_L21 l (i : Int) = l.getD i [] := rfl; rw [e0]; omega) B hB (by have := (hb _ (getD_mem (d := []) hi)).2; exact this) k (by have := (hb _ (getD_mem (d := []) hi)).1; have e0 : rd_L21 l (i : Int) = l.getD i [] := rfl; rw [e0]; omega)
      rw [show unitSame (rd_L21 l (i : Int)) (rd_L21 m (i : Int)) = true from hq] at e
      rw [e]
      rfl
    · intro k i hK hi hq
      have hi' : i < m.length := by omega
      simp only [laws_eqFunSS.l0]
      rw [if_pos (by omega), if_pos (by omega), if_pos (by omega)]
      have e := laws_eqFunS_u (rd_L21 l (i : Int)) (rd_L21 m (i : Int)) (by have := (hb _ (getD_mem (d := []) hi)).1; have e0 : rd_L21 l (i : Int) = l.getD i [] := rfl; rw [e0]; omega) B hB (by have := (hb _ (getD_mem (d := []) hi)).2; exact this) k (by have := (hb _ (getD_mem (d := []) hi)).1; have e0 : rd_L21 l (i : Int) = l.getD i [] := rfl; rw [e0]; omega)
      rw [show unitSame (rd_L21 l (i : Int)) (rd_L21 m (i : Int)) = false from hq] at e
      rw [e]
      rfl
    · intro k hK
      simp only [laws_eqFunSS.l0]
      rw [if_neg (by omega)]
  · rw [if_neg (by omega), all2_len _ _ _ hl]
end Go.Proofs.Ytccknlcokknadaa.L
