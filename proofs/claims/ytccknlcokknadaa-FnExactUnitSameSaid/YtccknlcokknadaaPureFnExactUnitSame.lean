/- The program's UnitSame returns what the reference's returns, for all arguments. -/
import Derived.Test.YtccknlcokknadaaPutsFnExactUnitSame
import Derived.Test.YtccknlcokknadaaLArgF
namespace Go.Proofs.Ytccknlcokknadaa.Pure
open Go.RowKit Go.Proofs.Ytccknlcokknadaa.P Go.Proofs.Ytccknlcokknadaa.L Go.Proofs.YtccknlcokknadaaW.PrintWords
set_option linter.unusedVariables false
theorem FnExactUnitSame : laws_FnExactUnitSame.Pure := by
  intro x y h_x h_y
  replace h_x : OkU x := h_x
  replace h_y : OkU y := h_y
  obtain ⟨K, hK⟩ : ∃ K : Nat, 100000000000000000 ≤ K := ⟨_, Nat.le_refl _⟩
  refine ⟨K + 12, ?_⟩
  unfold laws_FnExactUnitSame.f
  rw [a_szFunS h_x 1048576 (by decide) (by decide) _ (by omega)]
  simp only [Option.bind_some]
  have b_x := gFunS_le x 1048576 (by decide)
  by_cases c_x : gFunS x 1048576 < 0
  · rw [if_pos c_x]
  rw [if_neg c_x]
  simp only [laws_FnExactUnitSame.j0]
  rw [a_szFunS h_y (gFunS x 1048576) (by omega) (by omega) _ (by omega)]
  simp only [Option.bind_some]
  have b_y := gFunS_le y (gFunS x 1048576) (by omega)
  by_cases c_y : gFunS y (gFunS x 1048576) < 0
  · rw [if_pos c_y]
  rw [if_neg c_y]
  simp only [laws_FnExactUnitSame.j1]
  rw [a_toFunS h_x _ (by omega), a_toFunS h_y _ (by omega)]
  simp only [Option.bind_some]
  rw [spec_UnitSame_f (x.map cvFun) (y.map cvFun) (by simp only [List.length_map]; have := h_x.len; omega) 4398046511105 (by decide) (cv_len h_x) _ (by simp only [List.length_map]; have := h_x.len; omega)]
  simp only [impl_UnitSame.f, unitSame, Option.bind_some]
  rw [if_neg (by simp)]
  simp only [laws_FnExactUnitSame.j2]
  rw [a_toFunS h_x _ (by omega)]
  simp only [Option.bind_some]
  rw [a_eqFunS h_x _ (by omega)]
  simp only [Option.bind_some, if_true]
  simp only [laws_FnExactUnitSame.j3]
  rw [a_toFunS h_y _ (by omega)]
  simp only [Option.bind_some]
  rw [a_eqFunS h_y _ (by omega)]
  simp only [Option.bind_some, if_true]
end Go.Proofs.Ytccknlcokknadaa.Pure
