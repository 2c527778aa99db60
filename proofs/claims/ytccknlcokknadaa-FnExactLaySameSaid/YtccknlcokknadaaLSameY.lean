/- What the comparisons compute: two lists alike, place by place. -/
import Derived.Test.YtccknlcokknadaaPxlawsszIntS
import Derived.Test.YtccknlcokknadaaPxlawsszStringS
import Derived.Test.YtccknlcokknadaaPxspecl5Ints
import Derived.Test.YtccknlcokknadaaPxspecl7Names
import Derived.Test.YtccknlcokknadaaLSeq
namespace Go.Proofs.Ytccknlcokknadaa.L
open Go.RowKit Go.Proofs.YtccknlcokknadaaW.PrintWords Go.Proofs.YtccknlcokknadaaW.PrintLast Go.Proofs.YtccknlcokknadaaW.PrintMore Go.Proofs.Ytccknlcokknadaa.P
set_option linter.unusedVariables false
set_option linter.unusedSimpArgs false

def insSame (x y : S88) : Bool := (x.f0 == y.f0) && ((x.f1 == y.f1) && (x.f2.toList == y.f2.toList))
theorem insSame_not (x y : S88) : (!(x.f0 == y.f0) || (!(x.f1 == y.f1) || (!(x.f2.toList == y.f2.toList)))) = !insSame x y := by
  simp only [insSame, Bool.not_and]
def funSame (x y : S29) : Bool := (x.f0.toList == y.f0.toList) && ((x.f1 == y.f1) && all2 insSame x.f2 y.f2)
def unitSame (l m : List S29) : Bool := all2 funSame l m
def strSame (a b : ByteArray) : Bool := a.toList == b.toList
def intSame (a b : Int) : Bool := a == b
def laySame (a : List Int) (b : List (List ByteArray)) (c : List Int) (d : List (List ByteArray)) : Bool := all2 intSame a c && all2 (all2 strSame) b d
theorem insSame_refl (x : S88) : insSame x x = true := by simp [insSame]
theorem funSame_refl (x : S29) : funSame x x = true := by simp [funSame, all2_refl insSame _ (fun y _ => insSame_refl y)]
theorem unitSame_refl (l : List S29) : unitSame l l = true := all2_refl _ _ (fun x _ => funSame_refl x)
theorem strSame_refl (a : ByteArray) : strSame a a = true := by simp [strSame]
theorem intSame_refl (a : Int) : intSame a a = true := by simp [intSame]
theorem insSame_comm (x y : S88) : insSame x y = insSame y x := by
  simp only [insSame, Bool.beq_comm (a := x.f0), Bool.beq_comm (a := x.f1), Bool.beq_comm (a := x.f2.toList)]
theorem slices_Equal_sint_int_f (l m : List Int) (hn : l.length ≤ 9223372036854775807) (k : Nat) (hk : l.length < k) : slices_Equal_sint_int.f k l m = some (all2 intSame l m) := by
  unfold slices_Equal_sint_int.f
  by_cases hl : l.length = m.length
  · rw [if_pos (by omega)]
    refine loop_all2 intSame 0 0 l m hl hn (fun k i => slices_Equal_sint_int.l0 k l m (l.length : Int) i) 0 ?_ ?_ ?_ k (by omega)
    · intro k i hK hi hq
      have hi' : i < m.length := by omega
      simp only [slices_Equal_sint_int.l0]
      rw [if_pos (by omega), if_pos (by omega), if_pos (by omega), if_pos (by omega)]
      rw [if_pos (show rd l (i : Int) = rd m (i : Int) from beq_iff_eq.mp hq)]
    · intro k i hK hi hq
      have hi' : i < m.length := by omega
      simp only [slices_Equal_sint_int.l0]
      rw [if_pos (by omega), if_pos (by omega), if_pos (by omega), if_pos (by omega)]
      rw [if_neg (show ¬ (rd l (i : Int) = rd m (i : Int)) from beq_eq_false_iff_ne.mp hq)]
    · intro k hK
      simp only [slices_Equal_sint_int.l0]
      rw [if_neg (by omega)]
  · rw [if_neg (by omega), all2_len _ _ _ hl]
theorem spec_l5Ints_f (l m : List Int) (hn : l.length ≤ 9223372036854775807) (k : Nat) (hk : l.length < k) : spec_l5Ints.f k l m = some (all2 intSame l m) := by
  unfold spec_l5Ints.f
  by_cases hl : l.length = m.length
  · rw [if_pos (by omega)]
    refine loop_all2 intSame 0 0 l m hl hn (fun k i => spec_l5Ints.l0 k l m i) 0 ?_ ?_ ?_ k (by omega)
    · intro k i hK hi hq
      have hi' : i < m.length := by omega
      simp only [spec_l5Ints.l0]
      rw [if_pos (by omega), if_pos (by omega), if_pos (by omega)]
      rw [if_pos (show rd l (i : Int) = rd m (i : Int) from beq_iff_eq.mp hq)]
    · intro k i hK hi hq
      have hi' : i < m.length := by omega
      simp only [spec_l5Ints.l0]
      rw [if_pos (by omega), if_pos (by omega), if_pos (by omega)]
      rw [if_neg (show ¬ (rd l (i : Int) = rd m (i : Int)) from beq_eq_false_iff_ne.mp hq)]
    · intro k hK
      simp only [spec_l5Ints.l0]
      rw [if_neg (by omega)]
  · rw [if_neg (by omega), all2_len _ _ _ hl]
theorem laws_eqIntS_f (l m : List Int) (hn : l.length ≤ 9223372036854775807) (k : Nat) (hk : l.length < k) : laws_eqIntS.f k l m = some (all2 intSame l m) := by
  unfold laws_eqIntS.f
  by_cases hl : l.length = m.length
  · rw [if_pos (by omega)]
    refine loop_all2 intSame 0 0 l m hl hn (fun k i => laws_eqIntS.l0 k l m i) 0 ?_ ?_ ?_ k (by omega)
    · intro k i hK hi hq
      have hi' : i < m.length := by omega
      simp only [laws_eqIntS.l0]
      rw [if_pos (by omega), if_pos (by omega), if_pos (by omega)]
      rw [if_pos (show rd l (i : Int) = rd m (i : Int) from beq_iff_eq.mp hq)]
    · intro k i hK hi hq
      have hi' : i < m.length := by omega
      simp only [laws_eqIntS.l0]
      rw [if_pos (by omega), if_pos (by omega), if_pos (by omega)]
      rw [if_neg (show ¬ (rd l (i : Int) = rd m (i : Int)) from beq_eq_false_iff_ne.mp hq)]
    · intro k hK
      simp only [laws_eqIntS.l0]
      rw [if_neg (by omega)]
  · rw [if_neg (by omega), all2_len _ _ _ hl]
theorem slices_Equal_sstring_string_f (l m : List ByteArray) (hn : l.length ≤ 9223372036854775807) (k : Nat) (hk : l.length < k) : slices_Equal_sstring_string.f k l m = some (all2 strSame l m) := by
  unfold slices_Equal_sstring_string.f
  by_cases hl : l.length = m.length
  · rw [if_pos (by omega)]
    refine loop_all2 strSame ByteArray.empty ByteArray.empty l m hl hn (fun k i => slices_Equal_sstring_string.l0 k l m (l.length : Int) i) 0 ?_ ?_ ?_ k (by omega)
    · intro k i hK hi hq
      have hi' : i < m.length := by omega
      simp only [slices_Equal_sstring_string.l0]
      rw [if_pos (by omega), if_pos (by omega), if_pos (by omega), if_pos (by omega)]
      rw [if_pos (show (rdOf ByteArray.empty l (i : Int)).toList = (rdOf ByteArray.empty m (i : Int)).toList from beq_iff_eq.mp hq)]
    · intro k i hK hi hq
      have hi' : i < m.length := by omega
      simp only [slices_Equal_sstring_string.l0]
      rw [if_pos (by omega), if_pos (by omega), if_pos (by omega), if_pos (by omega)]
      rw [if_neg (show ¬ ((rdOf ByteArray.empty l (i : Int)).toList = (rdOf ByteArray.empty m (i : Int)).toList) from beq_eq_false_iff_ne.mp hq)]
    · intro k hK
      simp only [slices_Equal_sstring_string.l0]
      rw [if_neg (by omega)]
  · rw [if_neg (by omega), all2_len _ _ _ hl]
theorem spec_l7Names_f (l m : List ByteArray) (hn : l.length ≤ 9223372036854775807) (k : Nat) (hk : l.length < k) : spec_l7Names.f k l m = some (all2 strSame l m) := by
  unfold spec_l7Names.f
  by_cases hl : l.length = m.length
  · rw [if_pos (by omega)]
    refine loop_all2 strSame ByteArray.empty ByteArray.empty l m hl hn (fun k i => spec_l7Names.l0 k l m i) 0 ?_ ?_ ?_ k (by omega)
    · intro k i hK hi hq
      have hi' : i < m.length := by omega
      simp only [spec_l7Names.l0]
      rw [if_pos (by omega), if_pos (by omega), if_pos (by omega)]
      rw [if_pos (show (rdOf ByteArray.empty l (i : Int)).toList = (rdOf ByteArray.empty m (i : Int)).toList from beq_iff_eq.mp hq)]
    · intro k i hK hi hq
      have hi' : i < m.length := by omega
      simp only [spec_l7Names.l0]
      rw [if_pos (by omega), if_pos (by omega), if_pos (by omega)]
      rw [if_neg (show ¬ ((rdOf ByteArray.empty l (i : Int)).toList = (rdOf ByteArray.empty m (i : Int)).toList) from beq_eq_false_iff_ne.mp hq)]
    · intro k hK
      simp only [spec_l7Names.l0]
      rw [if_neg (by omega)]
  · rw [if_neg (by omega), all2_len _ _ _ hl]
theorem laws_eqStringS_f (l m : List ByteArray) (hn : l.length ≤ 9223372036854775807) (k : Nat) (hk : l.length < k) : laws_eqStringS.f k l m = some (all2 strSame l m) := by
  unfold laws_eqStringS.f
  by_cases hl : l.length = m.length
  · rw [if_pos (by omega)]
    refine loop_all2 strSame ByteArray.empty ByteArray.empty l m hl hn (fun k i => laws_eqStringS.l0 k l m i) 0 ?_ ?_ ?_ k (by omega)
    · intro k i hK hi hq
      have hi' : i < m.length := by omega
      simp only [laws_eqStringS.l0]
      rw [if_pos (by omega), if_pos (by omega), if_pos (by omega)]
      rw [if_pos (show (rdOf ByteArray.empty l (i : Int)).toList = (rdOf ByteArray.empty m (i : Int)).toList from beq_iff_eq.mp hq)]
    · intro k i hK hi hq
      have hi' : i < m.length := by omega
      simp only [laws_eqStringS.l0]
      rw [if_pos (by omega), if_pos (by omega), if_pos (by omega)]
      rw [if_neg (show ¬ ((rdOf ByteArray.empty l (i : Int)).toList = (rdOf ByteArray.empty m (i : Int)).toList) from beq_eq_false_iff_ne.mp hq)]
    · intro k hK
      simp only [laws_eqStringS.l0]
      rw [if_neg (by omega)]
  · rw [if_neg (by omega), all2_len _ _ _ hl]
end Go.Proofs.Ytccknlcokknadaa.L
