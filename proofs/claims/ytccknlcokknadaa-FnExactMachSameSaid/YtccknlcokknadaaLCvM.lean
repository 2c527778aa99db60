/- What the laws' own conversions compute: sizes, copies, comparisons. -/
import Derived.Test.YtccknlcokknadaaPxlawsszIntS
import Derived.Test.YtccknlcokknadaaPxlawsszSpotS
import Derived.Test.YtccknlcokknadaaPxslicesEqualsimplSpotimplSpot
import Derived.Test.YtccknlcokknadaaLSameM
namespace Go.Proofs.Ytccknlcokknadaa.L
open Go.RowKit Go.Proofs.YtccknlcokknadaaW.PrintWords Go.Proofs.YtccknlcokknadaaW.PrintLast Go.Proofs.YtccknlcokknadaaW.PrintMore Go.Proofs.Ytccknlcokknadaa.P
set_option linter.unusedVariables false
set_option linter.unusedSimpArgs false

/-- What is left of a bound behind a list. -/
def szL {α : Type} (g : α → Int → Int) (l : List α) (s : Int) : Int := if s < l.length then -1 else szFold g l (s - l.length)
theorem szL_le {α : Type} (g : α → Int → Int) (h : ∀ x s, 0 ≤ s → -1 ≤ g x s ∧ g x s ≤ s) (l : List α) (s : Int) (hs : 0 ≤ s) : -1 ≤ szL g l s ∧ szL g l s ≤ s := by
  unfold szL
  split
  · omega
  · have := szFold_le g h l (s - l.length) (by omega)
    omega
/-- What is left behind a text. -/
def szS (a : ByteArray) (s : Int) : Int := if s < a.size then -1 else s - a.size
theorem szS_le (a : ByteArray) (s : Int) (hs : 0 ≤ s) : -1 ≤ szS a s ∧ szS a s ≤ s := by
  unfold szS
  split <;> omega
/-- How far a text may go. -/
abbrev Fits (s : ByteArray) : Prop := s.size ≤ 140737488351232
theorem szS_wrap (a : ByteArray) (s : Int) (ha : Fits a) (h0 : 0 ≤ s) (h1 : s ≤ 1048576) : (if (wrap64 (s - (a.size : Int))) < 0 then (-1 : Int) else (wrap64 (s - (a.size : Int)))) = szS a s := by
  rw [wrap_id (by omega) (by omega)]
  unfold szS
  by_cases h : s < a.size
  · rw [if_pos (by omega), if_pos h]
  · rw [if_neg (by omega), if_neg h]
theorem len_wrap {s : Int} {n : Nat} (hn : n ≤ 140737488351232) (h0 : 0 ≤ s) (h1 : s ≤ 1048576) : wrap64 (s - (n : Int)) = s - n := wrap_id (by omega) (by omega)
def szN (n : Nat) (s : Int) : Int := if s < n then -1 else s - n
theorem szN_le (n : Nat) (s : Int) (hs : 0 ≤ s) : -1 ≤ szN n s ∧ szN n s ≤ s := by
  unfold szN
  split <;> omega
theorem laws_szIntS_f (l : List Int) (hn : l.length ≤ 140737488351232) (s : Int) (h0 : 0 ≤ s) (h1 : s ≤ 1048576) : laws_szIntS.f l s = some (szN l.length s) := by
  unfold laws_szIntS.f szN
  rw [len_wrap hn h0 h1]
  by_cases h : s < l.length
  · rw [if_pos (by omega), if_pos h]
  · rw [if_neg (by omega), if_neg h]
theorem laws_szSpotS_f (l : List S43) (hn : l.length ≤ 140737488351232) (s : Int) (h0 : 0 ≤ s) (h1 : s ≤ 1048576) : laws_szSpotS.f l s = some (szN l.length s) := by
  unfold laws_szSpotS.f szN
  rw [len_wrap hn h0 h1]
  by_cases h : s < l.length
  · rw [if_pos (by omega), if_pos h]
  · rw [if_neg (by omega), if_neg h]
theorem laws_toIntS_f (l : List Int) (hn : l.length ≤ 35184372088832) (k : Nat) (hk : l.length < k) : laws_toIntS.f k l = some (l.map id) := by
  unfold laws_toIntS.f
  rw [if_pos (by omega), if_pos (by omega)]
  refine loop_fill l 0 0 id (by omega) (fun k acc i => laws_toIntS.l0 k l acc i) 0 ?_ ?_ k (by omega)
  · intro k i acc hK hi ha
    simp only [laws_toIntS.l0]
    rw [if_pos (by omega), if_pos (by omega), if_pos (by omega)]
    rfl
  · intro k acc _
    simp only [laws_toIntS.l0]
    rw [if_neg (by omega)]
def cvSpot (x : S43) : S49 := ⟨x.f0, x.f1⟩
theorem laws_toSpot_c (x : S43) : laws_toSpot.f x.f0 x.f1 = some (x.f0, x.f1) := rfl
theorem laws_toSpotS_f (l : List S43) (hn : l.length ≤ 17592186044416) (k : Nat) (hk : l.length < k) : laws_toSpotS.f k l = some (l.map cvSpot) := by
  unfold laws_toSpotS.f
  rw [if_pos (by omega), if_pos (by omega)]
  refine loop_fill l z43 z49 cvSpot (by omega) (fun k acc i => laws_toSpotS.l0 k l acc i) 0 ?_ ?_ k (by omega)
  · intro k i acc hK hi ha
    simp only [laws_toSpotS.l0]
    rw [if_pos (by omega), if_pos (by omega), laws_toSpot_c (rd_T43 l (i : Int))]
    simp only [Option.bind_some]
    rw [if_pos (by omega)]
    rfl
  · intro k acc _
    simp only [laws_toSpotS.l0]
    rw [if_neg (by omega)]
theorem laws_eqSpot_f (x y : S49) : laws_eqSpot.f x.f0 x.f1 y.f0 y.f1 = some (spotSame x y) := by
  unfold laws_eqSpot.f spotSame
  by_cases h0 : x.f0 = y.f0
  · rw [if_pos h0, beq_iff_eq.mpr h0]
    by_cases h1 : x.f1 = y.f1
    · rw [if_pos h1, beq_iff_eq.mpr h1]; rfl
    · rw [if_neg h1, beq_eq_false_iff_ne.mpr h1]; rfl
  · rw [if_neg h0, beq_eq_false_iff_ne.mpr h0]; rfl
theorem laws_eqSpotS_f (l m : List S49) (hn : l.length ≤ 9223372036854775807) (k : Nat) (hk : l.length < k) : laws_eqSpotS.f k l m = some (all2 spotSame l m) := by
  unfold laws_eqSpotS.f
  by_cases hl : l.length = m.length
  · rw [if_pos (by omega)]
    refine loop_all2 spotSame z49 z49 l m hl hn (fun k i => laws_eqSpotS.l0 k l m i) 0 ?_ ?_ ?_ k (by omega)
    · intro k i hK hi hq
      have hi' : i < m.length := by omega
      simp only [laws_eqSpotS.l0]
      rw [if_pos (by omega), if_pos (by omega), if_pos (by omega)]
      have e := laws_eqSpot_f (rd_T49 l (i : Int)) (rd_T49 m (i : Int))
      rw [show spotSame (rd_T49 l (i : Int)) (rd_T49 m (i : Int)) = true from hq] at e
      rw [e]
      rfl
    · intro k i hK hi hq
      have hi' : i < m.length := by omega
      simp only [laws_eqSpotS.l0]
      rw [if_pos (by omega), if_pos (by omega), if_pos (by omega)]
      have e := laws_eqSpot_f (rd_T49 l (i : Int)) (rd_T49 m (i : Int))
      rw [show spotSame (rd_T49 l (i : Int)) (rd_T49 m (i : Int)) = false from hq] at e
      rw [e]
      rfl
    · intro k hK
      simp only [laws_eqSpotS.l0]
      rw [if_neg (by omega)]
  · rw [if_neg (by omega), all2_len _ _ _ hl]
end Go.Proofs.Ytccknlcokknadaa.L
