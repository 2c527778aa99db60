/- The program's PickSame returns what the reference's returns, for all arguments. -/
import Derived.Test.YtccknlcokknadaaPutsFnExactPickSame
import Derived.Test.YtccknlcokknadaaLArgF
namespace Go.Proofs.Ytccknlcokknadaa.Pure
open Go.RowKit Go.Proofs.Ytccknlcokknadaa.P Go.Proofs.Ytccknlcokknadaa.L Go.Proofs.YtccknlcokknadaaW.PrintWords
set_option linter.unusedVariables false
theorem FnExactPickSame : laws_FnExactPickSame.Pure := by
  intro x y h_x h_y
  replace h_x : OkP x := h_x
  replace h_y : OkP y := h_y
  obtain ⟨K, hK⟩ : ∃ K : Nat, 100000000000000000 ≤ K := ⟨_, Nat.le_refl _⟩
  refine ⟨K + 12, ?_⟩
  unfold laws_FnExactPickSame.f
  rw [a_szFunSS h_x 1048576 (by decide) (by decide) _ (by omega)]
  simp only [Option.bind_some]
  have b_x := szL_le gFunS gFunS_le x 1048576 (by decide)
  by_cases c_x : szL gFunS x 1048576 < 0
  · rw [if_pos c_x]
  rw [if_neg c_x]
  simp only [laws_FnExactPickSame.j0]
  rw [a_szFunSS h_y (szL gFunS x 1048576) (by omega) (by omega) _ (by omega)]
  simp only [Option.bind_some]
  have b_y := szL_le gFunS gFunS_le y (szL gFunS x 1048576) (by omega)
  by_cases c_y : szL gFunS y (szL gFunS x 1048576) < 0
  · rw [if_pos c_y]
  rw [if_neg c_y]
  simp only [laws_FnExactPickSame.j1]
  rw [a_toFunSS h_x _ (by omega), a_toFunSS h_y _ (by omega)]
  simp only [Option.bind_some]
  rw [spec_PickSame_f (x.map (List.map cvFun)) (y.map (List.map cvFun)) (by simp only [List.length_map]; have := h_x.len; omega) 4398046511105 8000000000000 (by decide) (by decide) (cvs_len h_x) _ (by simp only [List.length_map]; have := h_x.len; omega)]
  simp only [impl_PickSame.f, Option.bind_some]
  rw [if_neg (by simp)]
  simp only [laws_FnExactPickSame.j2]
  rw [a_toFunSS h_x _ (by omega)]
  simp only [Option.bind_some]
  rw [a_eqFunSS h_x _ (by omega)]
  simp only [Option.bind_some, if_true]
  simp only [laws_FnExactPickSame.j3]
  rw [a_toFunSS h_y _ (by omega)]
  simp only [Option.bind_some]
  rw [a_eqFunSS h_y _ (by omega)]
  simp only [Option.bind_some, if_true]
end Go.Proofs.Ytccknlcokknadaa.Pure
