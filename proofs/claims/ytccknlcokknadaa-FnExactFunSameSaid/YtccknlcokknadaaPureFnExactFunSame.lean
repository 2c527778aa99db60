/- The program's FunSame returns what the reference's returns, for all arguments. -/
import Derived.Test.YtccknlcokknadaaPutsFnExactFunSame
import Derived.Test.YtccknlcokknadaaLArgF
namespace Go.Proofs.Ytccknlcokknadaa.Pure
open Go.RowKit Go.Proofs.Ytccknlcokknadaa.P Go.Proofs.Ytccknlcokknadaa.L Go.Proofs.YtccknlcokknadaaW.PrintWords
set_option linter.unusedVariables false
theorem FnExactFunSame : laws_FnExactFunSame.Pure := by
  intro x y h_x h_y
  obtain ⟨K, hK⟩ : ∃ K : Nat, 100000000000000000 ≤ K := ⟨_, Nat.le_refl _⟩
  refine ⟨K + 12, ?_⟩
  unfold laws_FnExactFunSame.f
  rw [a_szFun h_x 1048576 (by decide) (by decide) _ (by omega)]
  simp only [Option.bind_some]
  have b_x := gFun_le x 1048576 (by decide)
  by_cases c_x : gFun x 1048576 < 0
  · rw [if_pos c_x]
  rw [if_neg c_x]
  simp only [laws_FnExactFunSame.j0]
  rw [a_szFun h_y (gFun x 1048576) (by omega) (by omega) _ (by omega)]
  simp only [Option.bind_some]
  have b_y := gFun_le y (gFun x 1048576) (by omega)
  by_cases c_y : gFun y (gFun x 1048576) < 0
  · rw [if_pos c_y]
  rw [if_neg c_y]
  simp only [laws_FnExactFunSame.j1]
  rw [a_toFun h_x _ (by omega), a_toFun h_y _ (by omega)]
  simp only [Option.bind_some]
  have e1 : ∀ k, 10000000000000000 ≤ k → spec_FunSame.f k x.f0 x.f1 (x.f2.map cvIns) y.f0 y.f1 (y.f2.map cvIns) = some (funSame (cvFun x) (cvFun y)) := fun k hk => spec_FunSame_f (cvFun x) (cvFun y) (by simp only [cvFun, List.length_map]; have := ok_len h_x; omega) k (by simp only [cvFun, List.length_map]; have := ok_len h_x; omega)
  have e2 : ∀ k, 10000000000000000 ≤ k → impl_FunSame.f k x.f0 x.f1 (x.f2.map cvIns) y.f0 y.f1 (y.f2.map cvIns) = some (funSame (cvFun x) (cvFun y)) := fun k hk => impl_FunSame_f (cvFun x) (cvFun y) (by simp only [cvFun, List.length_map]; have := ok_len h_x; omega) k (by simp only [cvFun, List.length_map]; have := ok_len h_x; omega)
  rw [e1 _ (by omega), e2 _ (by omega)]
  simp only [Option.bind_some]
  rw [if_neg (by simp)]
  simp only [laws_FnExactFunSame.j2]
  rw [a_toFun h_x _ (by omega)]
  simp only [Option.bind_some]
  rw [a_eqFun h_x _ (by omega)]
  simp only [Option.bind_some, if_true]
  simp only [laws_FnExactFunSame.j3]
  rw [a_toFun h_y _ (by omega)]
  simp only [Option.bind_some]
  rw [a_eqFun h_y _ (by omega)]
  simp only [Option.bind_some, if_true]
end Go.Proofs.Ytccknlcokknadaa.Pure
