/- The program's LaySame returns what the reference's returns, for all arguments. -/
import Derived.Test.YtccknlcokknadaaPutsFnExactLaySame
import Derived.Test.YtccknlcokknadaaLArgY
import Derived.Test.YtccknlcokknadaaLLayY
namespace Go.Proofs.Ytccknlcokknadaa.Pure
open Go.RowKit Go.Proofs.Ytccknlcokknadaa.P Go.Proofs.Ytccknlcokknadaa.L Go.Proofs.YtccknlcokknadaaW.PrintWords
set_option linter.unusedVariables false
theorem FnExactLaySame : laws_FnExactLaySame.Pure := by
  intro x y h_x h_y
  obtain ⟨K, hK⟩ : ∃ K : Nat, 100000000000000000 ≤ K := ⟨_, Nat.le_refl _⟩
  refine ⟨K + 12, ?_⟩
  unfold laws_FnExactLaySame.f
  rw [a_szLay h_x 1048576 (by decide) (by decide) _ (by omega)]
  simp only [Option.bind_some]
  have b_x := gLay_le x 1048576 (by decide)
  by_cases c_x : gLay x 1048576 < 0
  · rw [if_pos c_x]
  rw [if_neg c_x]
  simp only [laws_FnExactLaySame.j0]
  rw [a_szLay h_y (gLay x 1048576) (by omega) (by omega) _ (by omega)]
  simp only [Option.bind_some]
  have b_y := gLay_le y (gLay x 1048576) (by omega)
  by_cases c_y : gLay y (gLay x 1048576) < 0
  · rw [if_pos c_y]
  rw [if_neg c_y]
  simp only [laws_FnExactLaySame.j1]
  rw [a_toLay h_x _ (by omega), a_toLay h_y _ (by omega)]
  simp only [Option.bind_some]
  rw [spec_LaySame_f (lay_len h_x).1 (lay_len h_x).2.1 (lay_len h_x).2.2 y.f0 y.f1 _ (by omega)]
  simp only [impl_LaySame.f, Option.bind_some]
  rw [if_neg (by simp)]
  simp only [laws_FnExactLaySame.j2]
  rw [a_toLay h_x _ (by omega)]
  simp only [Option.bind_some]
  rw [a_eqLay h_x _ (by omega)]
  simp only [Option.bind_some, if_true]
  simp only [laws_FnExactLaySame.j3]
  rw [a_toLay h_y _ (by omega)]
  simp only [Option.bind_some]
  rw [a_eqLay h_y _ (by omega)]
  simp only [Option.bind_some, if_true]
end Go.Proofs.Ytccknlcokknadaa.Pure
