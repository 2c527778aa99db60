/- What the comparisons compute: two lists alike, place by place. -/
import Derived.Test.YtccknlcokknadaaPxlawsszFunSS
import Derived.Test.YtccknlcokknadaaPxspecUnitSame
import Derived.Test.YtccknlcokknadaaPxspecl2Body
import Derived.Test.YtccknlcokknadaaLSeq
namespace Go.Proofs.Ytccknlcokknadaa.L
open Go.RowKit Go.Proofs.YtccknlcokknadaaW.PrintWords Go.Proofs.YtccknlcokknadaaW.PrintLast Go.Proofs.YtccknlcokknadaaW.PrintMore Go.Proofs.Ytccknlcokknadaa.P
set_option linter.unusedVariables false
set_option linter.unusedSimpArgs false

def insSame (x y : S88) : Bool := (x.f0 == y.f0) && ((x.f1 == y.f1) && (x.f2.toList == y.f2.toList))
theorem insSame_not (x y : S88) : (!(x.f0 == y.f0) || (!(x.f1 == y.f1) || (!(x.f2.toList == y.f2.toList)))) = !insSame x y := by
  simp only [insSame, Bool.not_and]
def funSame (x y : S29) : Bool := (x.f0.toList == y.f0.toList) && ((x.f1 == y.f1) && all2 insSame x.f2 y.f2)
def unitSame (l m : List S29) : Bool := all2 funSame l m
def strSame (a b : ByteArray) : Bool := a.toList == b.toList
def intSame (a b : Int) : Bool := a == b
def laySame (a : List Int) (b : List (List ByteArray)) (c : List Int) (d : List (List ByteArray)) : Bool := all2 intSame a c && all2 (all2 strSame) b d
theorem insSame_refl (x : S88) : insSame x x = true := by simp [insSame]
theorem funSame_refl (x : S29) : funSame x x = true := by simp [funSame, all2_refl insSame _ (fun y _ => insSame_refl y)]
theorem unitSame_refl (l : List S29) : unitSame l l = true := all2_refl _ _ (fun x _ => funSame_refl x)
theorem strSame_refl (a : ByteArray) : strSame a a = true := by simp [strSame]
theorem intSame_refl (a : Int) : intSame a a = true := by simp [intSame]
theorem insSame_comm (x y : S88) : insSame x y = insSame y x := by
  simp only [insSame, Bool.beq_comm (a := x.f0), Bool.beq_comm (a := x.f1), Bool.beq_comm (a := x.f2.toList)]
theorem slices_Equal_simpl_Ins_impl_Ins_f (l m : List S88) (hn : l.length ≤ 9223372036854775807) (k : Nat) (hk : l.length < k) : slices_Equal_simpl_Ins_impl_Ins.f k l m = some (all2 insSame l m) := by
  unfold slices_Equal_simpl_Ins_impl_Ins.f
  by_cases hl : l.length = m.length
  · rw [if_pos (by omega)]
    refine loop_all2 insSame z88 z88 l m hl hn (fun k i => slices_Equal_simpl_Ins_impl_Ins.l0 k l m (l.length : Int) i) 0 ?_ ?_ ?_ k (by omega)
    · intro k i hK hi hq
      have hi' : i < m.length := by omega
      simp only [slices_Equal_simpl_Ins_impl_Ins.l0]
      rw [if_pos (by omega), if_pos (by omega), if_pos (by omega), if_pos (by omega)]
      have e := insSame_not (rd_T88 l (i : Int)) (rd_T88 m (i : Int))
      rw [show insSame (rd_T88 l (i : Int)) (rd_T88 m (i : Int)) = true from hq] at e
      rw [e, if_neg (by decide)]
    · intro k i hK hi hq
      have hi' : i < m.length := by omega
      simp only [slices_Equal_simpl_Ins_impl_Ins.l0]
      rw [if_pos (by omega), if_pos (by omega), if_pos (by omega), if_pos (by omega)]
      have e := insSame_not (rd_T88 l (i : Int)) (rd_T88 m (i : Int))
      rw [show insSame (rd_T88 l (i : Int)) (rd_T88 m (i : Int)) = false from hq] at e
      rw [e, if_pos (by decide)]
    · intro k hK
      simp only [slices_Equal_simpl_Ins_impl_Ins.l0]
      rw [if_neg (by omega)]
  · rw [if_neg (by omega), all2_len _ _ _ hl]
theorem spec_l2Body_f (l m : List S88) (hn : l.length ≤ 9223372036854775807) (k : Nat) (hk : l.length < k) : spec_l2Body.f k l m = some (all2 insSame l m) := by
  unfold spec_l2Body.f
  by_cases hl : l.length = m.length
  · rw [if_pos (by omega)]
    refine loop_all2 insSame z88 z88 l m hl hn (fun k i => spec_l2Body.l0 k l m i) 0 ?_ ?_ ?_ k (by omega)
    · intro k i hK hi hq
      have hi' : i < m.length := by omega
      simp only [spec_l2Body.l0]
      rw [if_pos (by omega), if_pos (by omega), if_pos (by omega)]
      have e := insSame_not (rd_T88 l (i : Int)) (rd_T88 m (i : Int))
      rw [show insSame (rd_T88 l (i : Int)) (rd_T88 m (i : Int)) = true from hq] at e
      rw [e, if_neg (by decide)]
    · intro k i hK hi hq
      have hi' : i < m.length := by omega
      simp only [spec_l2Body.l0]
      rw [if_pos (by omega), if_pos (by omega), if_pos (by omega)]
      have e := insSame_not (rd_T88 l (i : Int)) (rd_T88 m (i : Int))
      rw [show insSame (rd_T88 l (i : Int)) (rd_T88 m (i : Int)) = false from hq] at e
      rw [e, if_pos (by decide)]
    · intro k hK
      simp only [spec_l2Body.l0]
      rw [if_neg (by omega)]
  · rw [if_neg (by omega), all2_len _ _ _ hl]
theorem impl_FunSame_f (x y : S29) (hn : x.f2.length ≤ 9223372036854775807) (k : Nat) (hk : x.f2.length < k) : impl_FunSame.f k x.f0 x.f1 x.f2 y.f0 y.f1 y.f2 = some (funSame x y) := by
  unfold impl_FunSame.f
  rw [slices_Equal_simpl_Ins_impl_Ins_f x.f2 y.f2 hn k hk]
  by_cases h : x.f0.toList = y.f0.toList
  · rw [if_pos h]
    by_cases h2 : (x.f1 == y.f1) = true
    · rw [if_pos h2]
      simp [funSame, h, h2]
    · rw [if_neg h2]
      simp [funSame, h, Bool.eq_false_iff.mpr h2]
  · rw [if_neg h]
    simp [funSame, beq_eq_false_iff_ne.mpr h]
theorem spec_FunSame_f (x y : S29) (hn : x.f2.length ≤ 9223372036854775807) (k : Nat) (hk : x.f2.length < k) : spec_FunSame.f k x.f0 x.f1 x.f2 y.f0 y.f1 y.f2 = some (funSame x y) := by
  unfold spec_FunSame.f
  rw [spec_l2Body_f x.f2 y.f2 hn k hk]
  by_cases h : x.f0.toList = y.f0.toList
  · rw [if_pos h]
    by_cases h2 : (x.f1 == y.f1) = true
    · rw [if_pos h2]
      simp [funSame, h, h2]
    · rw [if_neg h2]
      simp [funSame, h, Bool.eq_false_iff.mpr h2]
  · rw [if_neg h]
    simp [funSame, beq_eq_false_iff_ne.mpr h]
theorem spec_UnitSame_f (l m : List S29) (hn : l.length ≤ 9223372036854775807) (B : Nat) (hB : B ≤ 9223372036854775807) (hb : ∀ x ∈ l, x.f2.length < B) (k : Nat) (hk : B + l.length < k) : spec_UnitSame.f k l m = some (all2 funSame l m) := by
  unfold spec_UnitSame.f
  by_cases hl : l.length = m.length
  · rw [if_pos (by omega)]
    refine loop_all2 funSame z29 z29 l m hl hn (fun k i => spec_UnitSame.l0 k l m i) B ?_ ?_ ?_ k (by omega)
    · intro k i hK hi hq
      have hi' : i < m.length := by omega
      simp only [spec_UnitSame.l0]
      rw [if_pos (by omega), if_pos (by omega), if_pos (by omega)]
      have e := spec_FunSame_f (rd_T29 l (i : Int)) (rd_T29 m (i : Int)) (by have := hb _ (getD_mem (d := z29) hi); have e0 : rd_T29 l (i : Int) = l.getD i z29 := rfl; rw [e0]; omega) k (by have := hb _ (getD_mem (d := z29) hi); have e0 : rd_T29 l (i : Int) = l.getD i z29 := rfl; rw [e0]; omega)
      rw [show funSame (rd_T29 l (i : Int)) (rd_T29 m (i : Int)) = true from hq] at e
      rw [e]
      rfl
    · intro k i hK hi hq
      have hi' : i < m.length := by omega
      simp only [spec_UnitSame.l0]
      rw [if_pos (by omega), if_pos (by omega), if_pos (by omega)]
      have e := spec_FunSame_f (rd_T29 l (i : Int)) (rd_T29 m (i : Int)) (by have := hb _ (getD_mem (d := z29) hi); have e0 : rd_T29 l (i : Int) = l.getD i z29 := rfl; rw [e0]; omega) k (by have := hb _ (getD_mem (d := z29) hi); have e0 : rd_T29 l (i : Int) = l.getD i z29 := rfl; rw [e0]; omega)
      rw [show funSame (rd_T29 l (i : Int)) (rd_T29 m (i : Int)) = false from hq] at e
      rw [e]
      rfl
    · intro k hK
      simp only [spec_UnitSame.l0]
      rw [if_neg (by omega)]
  · rw [if_neg (by omega), all2_len _ _ _ hl]
theorem spec_UnitSame_u (l m : List S29) (hn : l.length ≤ 9223372036854775807) (B : Nat) (hB : B ≤ 9223372036854775807) (hb : ∀ x ∈ l, x.f2.length < B) (k : Nat) (hk : B + l.length < k) : spec_UnitSame.f k l m = some (unitSame l m) := spec_UnitSame_f l m hn B hB hb k hk
theorem spec_PickSame_f (l m : List (List S29)) (hn : l.length ≤ 9223372036854775807) (B C : Nat) (hB : B ≤ 9223372036854775807) (hC : C ≤ 9223372036854775807) (hb : ∀ u ∈ l, B + u.length < C ∧ ∀ x ∈ u, x.f2.length < B) (k : Nat) (hk : C + l.length < k) : spec_PickSame.f k l m = some (all2 unitSame l m) := by
  unfold spec_PickSame.f
  by_cases hl : l.length = m.length
  · rw [if_pos (by omega)]
    refine loop_all2 unitSame [] [] l m hl hn (fun k i => spec_PickSame.l0 k l m i) C ?_ ?_ ?_ k (by omega)
    · intro k i hK hi hq
      have hi' : i < m.length := by omega
      simp only [spec_PickSame.l0]
      rw [if_pos (by omega), if_pos (by omega), if_pos (by omega)]
      have e := spec_UnitSame_u (rd_L21 l (i : Int)) (rd_L21 m (i : Int)) (by have := (hb _ (getD_mem (d := []) hi)).1; have e0 : rd_L21 l (i : Int) = l.getD i [] := rfl; rw [e0]; omega) B hB (by have := (hb _ (getD_mem (d := []) hi)).2; exact this) k (by have := (hb _ (getD_mem (d := []) hi)).1; have e0 : rd_L21 l (i : Int) = l.getD i [] := rfl; rw [e0]; omega)
      rw [show unitSame (rd_L21 l (i : Int)) (rd_L21 m (i : Int)) = true from hq] at e
      rw [e]
      rfl
    · intro k i hK hi hq
      have hi' : i < m.length := by omega
      simp only [spec_PickSame.l0]
      rw [if_pos (by omega), if_pos (by omega), if_pos (by omega)]
      have e := spec_UnitSame_u (rd_L21 l (i : Int)) (rd_L21 m (i : Int)) (by have := (hb _ (getD_mem (d := []) hi)).1; have e0 : rd_L21 l (i : Int) = l.getD i [] := rfl; rw [e0]; omega) B hB (by have := (hb _ (getD_mem (d := []) hi)).2; exact this) k (by have := (hb _ (getD_mem (d := []) hi)).1; have e0 : rd_L21 l (i : Int) = l.getD i [] := rfl; rw [e0]; omega)
      rw [show unitSame (rd_L21 l (i : Int)) (rd_L21 m (i : Int)) = false from hq] at e
      rw [e]
      rfl
    · intro k hK
      simp only [spec_PickSame.l0]
      rw [if_neg (by omega)]
  · rw [if_neg (by omega), all2_len _ _ _ hl]
end Go.Proofs.Ytccknlcokknadaa.L
