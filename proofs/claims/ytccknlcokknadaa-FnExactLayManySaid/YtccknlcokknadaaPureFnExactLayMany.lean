/- The program's LayMany returns what the reference's returns, for all arguments. -/
import Derived.Test.YtccknlcokknadaaPutsFnExactLayMany
import Derived.Test.YtccknlcokknadaaLArgY
import Derived.Test.YtccknlcokknadaaLLayY
namespace Go.Proofs.Ytccknlcokknadaa.Pure
open Go.RowKit Go.Proofs.Ytccknlcokknadaa.P Go.Proofs.Ytccknlcokknadaa.L Go.Proofs.YtccknlcokknadaaW.PrintWords
set_option linter.unusedVariables false
theorem FnExactLayMany : laws_FnExactLayMany.Pure := by
  intro x h_x
  obtain ⟨K, hK⟩ : ∃ K : Nat, 100000000000000000 ≤ K := ⟨_, Nat.le_refl _⟩
  refine ⟨K + 12, ?_⟩
  unfold laws_FnExactLayMany.f
  rw [a_szLay h_x 1048576 (by decide) (by decide) _ (by omega)]
  simp only [Option.bind_some]
  have b_x := gLay_le x 1048576 (by decide)
  by_cases c_x : gLay x 1048576 < 0
  · rw [if_pos c_x]
  rw [if_neg c_x]
  simp only [laws_FnExactLayMany.j0]
  rw [a_toLay h_x _ (by omega)]
  simp only [Option.bind_some]
  rw [spec_LayMany_f x.f0 x.f1 (by have := (lay_len h_x).2.1; omega) _ (by have := (lay_len h_x).2.1; omega), impl_LayMany_f x.f0 x.f1 (by have := (lay_len h_x).2.1; omega) _ (by have := (lay_len h_x).2.1; omega)]
  simp only [Option.bind_some]
  rw [if_pos trivial]
  simp only [laws_FnExactLayMany.j1]
  rw [a_toLay h_x _ (by omega)]
  simp only [Option.bind_some]
  rw [a_eqLay h_x _ (by omega)]
  simp only [Option.bind_some, if_true]
end Go.Proofs.Ytccknlcokknadaa.Pure
