/- What the laws' own conversions compute: sizes, copies, comparisons. -/
import Derived.Test.YtccknlcokknadaaPxlawseqStringSS
import Derived.Test.YtccknlcokknadaaPxlawsszIntS
import Derived.Test.YtccknlcokknadaaPxlawsszStringS
import Derived.Test.YtccknlcokknadaaLSameY
namespace Go.Proofs.Ytccknlcokknadaa.L
open Go.RowKit Go.Proofs.YtccknlcokknadaaW.PrintWords Go.Proofs.YtccknlcokknadaaW.PrintLast Go.Proofs.YtccknlcokknadaaW.PrintMore Go.Proofs.Ytccknlcokknadaa.P
set_option linter.unusedVariables false
set_option linter.unusedSimpArgs false

/-- What is left of a bound behind a list. -/
def szL {α : Type} (g : α → Int → Int) (l : List α) (s : Int) : Int := if s < l.length then -1 else szFold g l (s - l.length)
theorem szL_le {α : Type} (g : α → Int → Int) (h : ∀ x s, 0 ≤ s → -1 ≤ g x s ∧ g x s ≤ s) (l : List α) (s : Int) (hs : 0 ≤ s) : -1 ≤ szL g l s ∧ szL g l s ≤ s := by
  unfold szL
  split
  · omega
  · have := szFold_le g h l (s - l.length) (by omega)
    omega
/-- What is left behind a text. -/
def szS (a : ByteArray) (s : Int) : Int := if s < a.size then -1 else s - a.size
theorem szS_le (a : ByteArray) (s : Int) (hs : 0 ≤ s) : -1 ≤ szS a s ∧ szS a s ≤ s := by
  unfold szS
  split <;> omega
/-- How far a text may go. -/
abbrev Fits (s : ByteArray) : Prop := s.size ≤ 140737488351232
theorem szS_wrap (a : ByteArray) (s : Int) (ha : Fits a) (h0 : 0 ≤ s) (h1 : s ≤ 1048576) : (if (wrap64 (s - (a.size : Int))) < 0 then (-1 : Int) else (wrap64 (s - (a.size : Int)))) = szS a s := by
  rw [wrap_id (by omega) (by omega)]
  unfold szS
  by_cases h : s < a.size
  · rw [if_pos (by omega), if_pos h]
  · rw [if_neg (by omega), if_neg h]
theorem len_wrap {s : Int} {n : Nat} (hn : n ≤ 140737488351232) (h0 : 0 ≤ s) (h1 : s ≤ 1048576) : wrap64 (s - (n : Int)) = s - n := wrap_id (by omega) (by omega)
def szN (n : Nat) (s : Int) : Int := if s < n then -1 else s - n
theorem szN_le (n : Nat) (s : Int) (hs : 0 ≤ s) : -1 ≤ szN n s ∧ szN n s ≤ s := by
  unfold szN
  split <;> omega
theorem laws_szIntS_f (l : List Int) (hn : l.length ≤ 140737488351232) (s : Int) (h0 : 0 ≤ s) (h1 : s ≤ 1048576) : laws_szIntS.f l s = some (szN l.length s) := by
  unfold laws_szIntS.f szN
  rw [len_wrap hn h0 h1]
  by_cases h : s < l.length
  · rw [if_pos (by omega), if_pos h]
  · rw [if_neg (by omega), if_neg h]
theorem laws_szStringS_f (l : List ByteArray) (hn : l.length ≤ 140737488351232) (hx : ∀ x ∈ l, Fits x) (s : Int) (h0 : 0 ≤ s) (h1 : s ≤ 1048576) (k : Nat) (hk : l.length < k) : laws_szStringS.f k l s = some (szL szS l s) := by
  unfold laws_szStringS.f szL
  rw [len_wrap hn h0 h1]
  by_cases h : s < l.length
  · rw [if_pos (by omega), if_pos h]
  · rw [if_neg (by omega), if_neg h]
    refine loop_sz l ByteArray.empty szS szS_le (by omega) (fun k s i => laws_szStringS.l0 k l s i) 0 ?_ ?_ (s - l.length) (by omega) (by omega) k (by omega)
    · intro k i s _ hi h0 h1
      simp only [laws_szStringS.l0]
      rw [if_pos (by omega), if_pos (by omega)]
      have e := szS_wrap (rdOf ByteArray.empty l (i : Int)) s (hx _ (getD_mem hi)) h0 h1
      have hb := szS_le (rdOf ByteArray.empty l (i : Int)) s h0
      show _ = if szS (rdOf ByteArray.empty l (i : Int)) s < 0 then some (-1) else laws_szStringS.l0 k l (szS (rdOf ByteArray.empty l (i : Int)) s) _
      by_cases hw : wrap64 (s - ((rdOf ByteArray.empty l (i : Int)).size : Int)) < 0
      · rw [if_pos hw] at e ⊢
        rw [← e, if_pos (by decide)]
      · rw [if_neg hw] at e ⊢
        rw [← e, if_neg hw]
    · intro k s _
      simp only [laws_szStringS.l0]
      rw [if_neg (by omega)]
def gStrS (l : List ByteArray) (s : Int) : Int := szL szS l s
theorem gStrS_le (l : List ByteArray) (s : Int) (h : 0 ≤ s) : -1 ≤ gStrS l s ∧ gStrS l s ≤ s := szL_le _ szS_le _ _ h
theorem laws_szStringSS_f (l : List (List ByteArray)) (hn : l.length ≤ 140737488351232) (hx : ∀ x ∈ l, (x.length ≤ 140737488351232 ∧ ∀ y ∈ x, Fits y)) (B : Nat) (hB : ∀ x ∈ l, x.length < B) (s : Int) (h0 : 0 ≤ s) (h1 : s ≤ 1048576) (k : Nat) (hk : B + l.length < k) : laws_szStringSS.f k l s = some (szL gStrS l s) := by
  unfold laws_szStringSS.f szL
  rw [len_wrap hn h0 h1]
  by_cases h : s < l.length
  · rw [if_pos (by omega), if_pos h]
  · rw [if_neg (by omega), if_neg h]
    refine loop_sz l [] gStrS gStrS_le (by omega) (fun k s i => laws_szStringSS.l0 k l s i) B ?_ ?_ (s - l.length) (by omega) (by omega) k (by omega)
    · intro k i s hK hi h0 h1
      simp only [laws_szStringSS.l0]
      rw [if_pos (by omega), if_pos (by omega), laws_szStringS_f (rd_L7 l (i : Int)) (hx _ (getD_mem hi)).1 (hx _ (getD_mem hi)).2 s h0 h1 k (by have := hB _ (getD_mem (d := []) hi); exact Nat.lt_of_lt_of_le this hK)]
      rfl
    · intro k s _
      simp only [laws_szStringSS.l0]
      rw [if_neg (by omega)]
theorem laws_toIntS_f (l : List Int) (hn : l.length ≤ 35184372088832) (k : Nat) (hk : l.length < k) : laws_toIntS.f k l = some (l.map id) := by
  unfold laws_toIntS.f
  rw [if_pos (by omega), if_pos (by omega)]
  refine loop_fill l 0 0 id (by omega) (fun k acc i => laws_toIntS.l0 k l acc i) 0 ?_ ?_ k (by omega)
  · intro k i acc hK hi ha
    simp only [laws_toIntS.l0]
    rw [if_pos (by omega), if_pos (by omega), if_pos (by omega)]
    rfl
  · intro k acc _
    simp only [laws_toIntS.l0]
    rw [if_neg (by omega)]
theorem laws_toStringS_f (l : List ByteArray) (hn : l.length ≤ 17592186044416) (k : Nat) (hk : l.length < k) : laws_toStringS.f k l = some (l.map id) := by
  unfold laws_toStringS.f
  rw [if_pos (by omega), if_pos (by omega)]
  refine loop_fill l ByteArray.empty (⟨#[]⟩ : ByteArray) id (by omega) (fun k acc i => laws_toStringS.l0 k l acc i) 0 ?_ ?_ k (by omega)
  · intro k i acc hK hi ha
    simp only [laws_toStringS.l0]
    rw [if_pos (by omega), if_pos (by omega), if_pos (by omega)]
    rfl
  · intro k acc _
    simp only [laws_toStringS.l0]
    rw [if_neg (by omega)]
theorem laws_toStringS_c (l : List ByteArray) (hn : l.length ≤ 17592186044416) (k : Nat) (hk : l.length < k) : laws_toStringS.f k l = some l := by
  rw [laws_toStringS_f l hn k hk, List.map_id]
theorem laws_toStringSS_f (l : List (List ByteArray)) (hn : l.length ≤ 11728124029610) (B : Nat) (hx : ∀ x ∈ l, x.length ≤ 17592186044416) (hB : ∀ x ∈ l, x.length < B) (k : Nat) (hk : B + l.length < k) : laws_toStringSS.f k l = some (l.map id) := by
  unfold laws_toStringSS.f
  rw [if_pos (by omega), if_pos (by omega)]
  refine loop_fill l [] [] id (by omega) (fun k acc i => laws_toStringSS.l0 k l acc i) B ?_ ?_ k (by omega)
  · intro k i acc hK hi ha
    simp only [laws_toStringSS.l0]
    rw [if_pos (by omega), if_pos (by omega), laws_toStringS_c (rd_L7 l (i : Int)) (hx _ (getD_mem hi)) k (by have := hB _ (getD_mem (d := []) hi); exact Nat.lt_of_lt_of_le this hK)]
    simp only [Option.bind_some]
    rw [if_pos (by omega)]
    rfl
  · intro k acc _
    simp only [laws_toStringSS.l0]
    rw [if_neg (by omega)]
def strsSame (l m : List ByteArray) : Bool := all2 strSame l m
theorem laws_eqStringS_u (l m : List ByteArray) (hn : l.length ≤ 9223372036854775807) (k : Nat) (hk : l.length < k) : laws_eqStringS.f k l m = some (strsSame l m) := laws_eqStringS_f l m hn k hk
theorem laws_eqStringSS_f (l m : List (List ByteArray)) (hn : l.length ≤ 9223372036854775807) (B : Nat) (hB : B ≤ 9223372036854775807) (hb : ∀ x ∈ l, x.length < B) (k : Nat) (hk : B + l.length < k) : laws_eqStringSS.f k l m = some (all2 strsSame l m) := by
  unfold laws_eqStringSS.f
  by_cases hl : l.length = m.length
  · rw [if_pos (by omega)]
    refine loop_all2 strsSame [] [] l m hl hn (fun k i => laws_eqStringSS.l0 k l m i) B ?_ ?_ ?_ k (by omega)
    · intro k i hK hi hq
      have hi' : i < m.length := by omega
      simp only [laws_eqStringSS.l0]
      rw [if_pos (by omega), if_pos (by omega), if_pos (by omega)]
      have e := laws_eqStringS_u (rd_L7 l (i : Int)) (rd_L7 m (i : Int)) (by have := hb _ (getD_mem (d := []) hi); have e0 : rd_L7 l (i : Int) = l.getD i [] := rfl; rw [e0]; omega) k (by have := hb _ (getD_mem (d := []) hi); have e0 : rd_L7 l (i : Int) = l.getD i [] := rfl; rw [e0]; omega)
      rw [show strsSame (rd_L7 l (i : Int)) (rd_L7 m (i : Int)) = true from hq] at e
      rw [e]
      rfl
    · intro k i hK hi hq
      have hi' : i < m.length := by omega
      simp only [laws_eqStringSS.l0]
      rw [if_pos (by omega), if_pos (by omega), if_pos (by omega)]
      have e := laws_eqStringS_u (rd_L7 l (i : Int)) (rd_L7 m (i : Int)) (by have := hb _ (getD_mem (d := []) hi); have e0 : rd_L7 l (i : Int) = l.getD i [] := rfl; rw [e0]; omega) k (by have := hb _ (getD_mem (d := []) hi); have e0 : rd_L7 l (i : Int) = l.getD i [] := rfl; rw [e0]; omega)
      rw [show strsSame (rd_L7 l (i : Int)) (rd_L7 m (i : Int)) = false from hq] at e
      rw [e]
      rfl
    · intro k hK
      simp only [laws_eqStringSS.l0]
      rw [if_neg (by omega)]
  · rw [if_neg (by omega), all2_len _ _ _ hl]
end Go.Proofs.Ytccknlcokknadaa.L
