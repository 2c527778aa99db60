/- The program's FunOk returns what the reference's returns, for all arguments. -/
import Derived.Test.YtccknlcokknadaaPutsFnExactFunOk
import Derived.Test.YtccknlcokknadaaLAllF
namespace Go.Proofs.Ytccknlcokknadaa.Pure
open Go.RowKit Go.Proofs.Ytccknlcokknadaa.P Go.Proofs.Ytccknlcokknadaa.L Go.Proofs.YtccknlcokknadaaW.PrintWords
set_option linter.unusedVariables false
theorem FnExactFunOk : laws_FnExactFunOk.Pure := by
  intro x h_x
  obtain ⟨K, hK⟩ : ∃ K : Nat, 100000000000000000 ≤ K := ⟨_, Nat.le_refl _⟩
  refine ⟨K + 12, ?_⟩
  unfold laws_FnExactFunOk.f
  rw [a_szFun h_x 1048576 (by decide) (by decide) _ (by omega)]
  simp only [Option.bind_some]
  have b_x := gFun_le x 1048576 (by decide)
  by_cases c_x : gFun x 1048576 < 0
  · rw [if_pos c_x]
  rw [if_neg c_x]
  simp only [laws_FnExactFunOk.j0]
  rw [a_toFun h_x _ (by omega)]
  simp only [Option.bind_some]
  have e1 : ∀ k, 10000000000000000 ≤ k → spec_FunOk.f k x.f0 x.f1 (x.f2.map cvIns) = some (funOkB (cvFun x).f0 (cvFun x).f2) := fun k hk => spec_FunOk_f (cvFun x) (fit_cv h_x) k (by have e0 : (cvFun x).f2.length = x.f2.length := (by simp only [cvFun, List.length_map]); have := ok_len h_x; omega)
  have e2 : impl_FunOk.f x.f0 x.f1 (x.f2.map cvIns) = some (funOkB (cvFun x).f0 (cvFun x).f2) := impl_FunOk_f (cvFun x) (fit_cv h_x)
  rw [e1 _ (by omega), e2]
  simp only [Option.bind_some]
  rw [if_neg (by simp)]
  simp only [laws_FnExactFunOk.j1]
  rw [a_toFun h_x _ (by omega)]
  simp only [Option.bind_some]
  rw [a_eqFun h_x _ (by omega)]
  simp only [Option.bind_some, if_true]
end Go.Proofs.Ytccknlcokknadaa.Pure
