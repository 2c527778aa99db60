/- The program's MachSame returns what the reference's returns, for all arguments. -/
import Derived.Test.YtccknlcokknadaaPutsFnExactMachSame
import Derived.Test.YtccknlcokknadaaLArgM
import Derived.Test.YtccknlcokknadaaLMachM
namespace Go.Proofs.Ytccknlcokknadaa.Pure
open Go.RowKit Go.Proofs.Ytccknlcokknadaa.P Go.Proofs.Ytccknlcokknadaa.L Go.Proofs.YtccknlcokknadaaW.PrintWords
set_option linter.unusedVariables false
theorem FnExactMachSame : laws_FnExactMachSame.Pure := by
  intro x y h_x h_y
  obtain ⟨K, hK⟩ : ∃ K : Nat, 100000000000000000 ≤ K := ⟨_, Nat.le_refl _⟩
  refine ⟨K + 12, ?_⟩
  unfold laws_FnExactMachSame.f
  rw [a_szMach h_x 1048576 (by decide) (by decide)]
  simp only [Option.bind_some]
  have b_x := gMach_le x 1048576 (by decide)
  by_cases c_x : gMach x 1048576 < 0
  · rw [if_pos c_x]
  rw [if_neg c_x]
  simp only [laws_FnExactMachSame.j0]
  rw [a_szMach h_y (gMach x 1048576) (by omega) (by omega)]
  simp only [Option.bind_some]
  have b_y := gMach_le y (gMach x 1048576) (by omega)
  by_cases c_y : gMach y (gMach x 1048576) < 0
  · rw [if_pos c_y]
  rw [if_neg c_y]
  simp only [laws_FnExactMachSame.j1]
  rw [a_toMach h_x _ (by omega), a_toMach h_y _ (by omega)]
  simp only [Option.bind_some]
  have e1 : ∀ k, 10000000000000000 ≤ k → spec_MachSame.f k x.f0.f0 x.f0.f1 x.f1 (x.f2.map cvSpot) x.f3 x.f4 y.f0.f0 y.f0.f1 y.f1 (y.f2.map cvSpot) y.f3 y.f4 = some (machSame (cvMach x) (cvMach y)) := fun k hk => spec_MachSame_f (cvMach x) (cvMach y) (by simp only [cvMach, List.length_map]; have := mach_len h_x; omega) (by simp only [cvMach]; have := mach_len h_x; omega) k (by simp only [cvMach, List.length_map]; have := mach_len h_x; omega)
  have e2 : ∀ k, 10000000000000000 ≤ k → impl_MachSame.f k x.f0.f0 x.f0.f1 x.f1 (x.f2.map cvSpot) x.f3 x.f4 y.f0.f0 y.f0.f1 y.f1 (y.f2.map cvSpot) y.f3 y.f4 = some (machSame (cvMach x) (cvMach y)) := fun k hk => impl_MachSame_f (cvMach x) (cvMach y) (by simp only [cvMach, List.length_map]; have := mach_len h_x; omega) (by simp only [cvMach]; have := mach_len h_x; omega) k (by simp only [cvMach, List.length_map]; have := mach_len h_x; omega)
  rw [e1 _ (by omega), e2 _ (by omega)]
  simp only [Option.bind_some]
  rw [if_neg (by simp)]
  simp only [laws_FnExactMachSame.j2]
  rw [a_toMach h_x _ (by omega)]
  simp only [Option.bind_some]
  rw [a_eqMach h_x _ (by omega)]
  simp only [Option.bind_some, if_true]
  simp only [laws_FnExactMachSame.j3]
  rw [a_toMach h_y _ (by omega)]
  simp only [Option.bind_some]
  rw [a_eqMach h_y _ (by omega)]
  simp only [Option.bind_some, if_true]
end Go.Proofs.Ytccknlcokknadaa.Pure
