/- What the comparison of machines computes. -/
import Derived.Test.YtccknlcokknadaaPxslicesEqualsimplSpotimplSpot
import Derived.Test.YtccknlcokknadaaPxspecMachSame
import Derived.Test.YtccknlcokknadaaPxspecl5Ints
import Derived.Test.YtccknlcokknadaaLCvM
namespace Go.Proofs.Ytccknlcokknadaa.L
open Go.RowKit Go.Proofs.YtccknlcokknadaaW.PrintWords Go.Proofs.YtccknlcokknadaaW.PrintLast Go.Proofs.YtccknlcokknadaaW.PrintMore Go.Proofs.Ytccknlcokknadaa.P
set_option linter.unusedVariables false
set_option linter.unusedSimpArgs false
structure MachV where
  f0 : S49
  f1 : Int
  f2 : List S49
  f3 : List Int
  f4 : Int
def cvMach (x : S46) : MachV := ⟨cvSpot x.f0, x.f1, x.f2.map cvSpot, x.f3, x.f4⟩
def machSame (x y : MachV) : Bool := spotSame x.f0 y.f0 && ((x.f1 == y.f1) && ((x.f4 == y.f4) && (all2 spotSame x.f2 y.f2 && all2 intSame x.f3 y.f3)))
theorem impl_MachSame_f (x y : MachV) (h2 : x.f2.length ≤ 9223372036854775806) (h3 : x.f3.length ≤ 9223372036854775806) (k : Nat) (hk : x.f2.length + x.f3.length < k) : impl_MachSame.f k x.f0.f0 x.f0.f1 x.f1 x.f2 x.f3 x.f4 y.f0.f0 y.f0.f1 y.f1 y.f2 y.f3 y.f4 = some (machSame x y) := by
  unfold impl_MachSame.f machSame
  rw [slices_Equal_simpl_Spot_impl_Spot_f x.f2 y.f2 (by omega) k (by omega), slices_Equal_sint_int_f x.f3 y.f3 (by omega) k (by omega)]
  simp only [Option.bind_some]
  have e0 : (x.f0.f0 == y.f0.f0 && (x.f0.f1 == y.f0.f1)) = spotSame x.f0 y.f0 := rfl
  rw [e0]
  cases spotSame x.f0 y.f0 with
  | false => rfl
  | true =>
    rw [if_pos rfl, Bool.true_and]
    by_cases h1 : x.f1 = y.f1
    · rw [if_pos h1, beq_iff_eq.mpr h1, Bool.true_and]
      by_cases h4 : x.f4 = y.f4
      · rw [if_pos h4, beq_iff_eq.mpr h4, Bool.true_and]
        cases all2 spotSame x.f2 y.f2 <;> rfl
      · rw [if_neg h4, beq_eq_false_iff_ne.mpr h4]; rfl
    · rw [if_neg h1, beq_eq_false_iff_ne.mpr h1]; rfl
theorem spec_MachSame_l0 (x y : MachV) (hl : x.f2.length = y.f2.length) (h2 : x.f2.length ≤ 9223372036854775806) (k : Nat) (hk : x.f2.length < k) : spec_MachSame.l0 k 0 x.f0.f0 x.f0.f1 x.f1 x.f2 x.f3 x.f4 y.f0.f0 y.f0.f1 y.f1 y.f2 y.f3 y.f4 = some (all2 spotSame x.f2 y.f2) := by
  refine loop_all2 spotSame z49 z49 x.f2 y.f2 hl (by omega) (fun k i => spec_MachSame.l0 k i x.f0.f0 x.f0.f1 x.f1 x.f2 x.f3 x.f4 y.f0.f0 y.f0.f1 y.f1 y.f2 y.f3 y.f4) 0 ?_ ?_ ?_ k (by omega)
  · intro k i _ hi hq
    simp only [spec_MachSame.l0]
    have e := spotSame_not (rd_T49 x.f2 (i : Int)) (rd_T49 y.f2 (i : Int))
    rw [show spotSame (rd_T49 x.f2 (i : Int)) (rd_T49 y.f2 (i : Int)) = true from hq] at e
    rw [if_pos (by omega), if_pos (by omega), if_pos (by omega), e, if_neg (by decide)]
  · intro k i _ hi hq
    simp only [spec_MachSame.l0]
    have e := spotSame_not (rd_T49 x.f2 (i : Int)) (rd_T49 y.f2 (i : Int))
    rw [show spotSame (rd_T49 x.f2 (i : Int)) (rd_T49 y.f2 (i : Int)) = false from hq] at e
    rw [if_pos (by omega), if_pos (by omega), if_pos (by omega), e, if_pos (by decide)]
  · intro k _
    simp only [spec_MachSame.l0]
    rw [if_neg (by omega)]
theorem spec_MachSame_f (x y : MachV) (h2 : x.f2.length ≤ 9223372036854775806) (h3 : x.f3.length ≤ 9223372036854775806) (k : Nat) (hk : x.f2.length + x.f3.length + 1 < k) : spec_MachSame.f k x.f0.f0 x.f0.f1 x.f1 x.f2 x.f3 x.f4 y.f0.f0 y.f0.f1 y.f1 y.f2 y.f3 y.f4 = some (machSame x y) := by
  obtain ⟨m, rfl⟩ : ∃ m, k = m + 1 := ⟨k - 1, by omega⟩
  have j (b : Bool) : spec_MachSame.j0 (m + 1) b x.f0.f0 x.f0.f1 x.f1 x.f2 x.f3 x.f4 y.f0.f0 y.f0.f1 y.f1 y.f2 y.f3 y.f4 = if b = true then some false else spec_MachSame.l0 m 0 x.f0.f0 x.f0.f1 x.f1 x.f2 x.f3 x.f4 y.f0.f0 y.f0.f1 y.f1 y.f2 y.f3 y.f4 := by
    simp only [spec_MachSame.j0]
  unfold spec_MachSame.f machSame
  rw [spec_l5Ints_f x.f3 y.f3 (by omega) _ (by omega)]
  simp only [Option.bind_some, j]
  rw [spotSame_not]
  cases spotSame x.f0 y.f0 with
  | false => rfl
  | true =>
    rw [if_neg (by decide), Bool.true_and]
    by_cases h1 : x.f1 = y.f1
    · rw [if_pos h1, beq_iff_eq.mpr h1, Bool.true_and]
      by_cases h4 : x.f4 = y.f4
      · rw [if_pos h4, beq_iff_eq.mpr h4, Bool.true_and]
        by_cases hl : x.f2.length = y.f2.length
        · rw [if_pos (by omega), spec_MachSame_l0 x y hl h2 m (by omega)]
          cases all2 intSame x.f3 y.f3 <;> cases all2 spotSame x.f2 y.f2 <;> rfl
        · rw [if_neg (by omega), all2_len _ _ _ hl]
          rfl
      · rw [if_neg h4, beq_eq_false_iff_ne.mpr h4]; rfl
    · rw [if_neg h1, beq_eq_false_iff_ne.mpr h1]; rfl
end Go.Proofs.Ytccknlcokknadaa.L
