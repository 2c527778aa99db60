/- An argument of a law, measured, copied, held against its copy. -/
import Derived.Test.YtccknlcokknadaaPxlawsszIntS
import Derived.Test.YtccknlcokknadaaPxlawsszSpotS
import Derived.Test.YtccknlcokknadaaPxslicesEqualsimplSpotimplSpot
import Derived.Test.YtccknlcokknadaaLCvM
import Derived.Test.YtccknlcokknadaaRd
namespace Go.Proofs.Ytccknlcokknadaa.L
open Go.RowKit Go.Proofs.YtccknlcokknadaaW.PrintWords Go.Proofs.YtccknlcokknadaaW.PrintLast Go.Proofs.YtccknlcokknadaaW.PrintMore Go.Proofs.Ytccknlcokknadaa.P
set_option linter.unusedVariables false
set_option linter.unusedSimpArgs false
def gMach (x : S46) (s : Int) : Int := if szN x.f2.length s < 0 then -1 else szN x.f3.length (szN x.f2.length s)
theorem gMach_le (x : S46) (s : Int) (h : 0 ≤ s) : -1 ≤ gMach x s ∧ gMach x s ≤ s := by
  unfold gMach
  have := szN_le x.f2.length s h
  split
  · omega
  · have := szN_le x.f3.length (szN x.f2.length s) (by omega)
    omega
theorem mach_len {x : S46} (h : Ok46 x) : x.f2.length ≤ 8796093021952 ∧ x.f3.length ≤ 17592186043904 := ⟨by have := h.2.2.1.1; omega, by have := h.2.2.2.1.1; omega⟩
theorem a_szMach {x : S46} (h : Ok46 x) (s : Int) (h0 : 0 ≤ s) (h1 : s ≤ 1048576) : laws_szMach.f x.f0.f0 x.f0.f1 x.f1 x.f2 x.f3 x.f4 s = some (gMach x s) := by
  have hl := mach_len h
  unfold laws_szMach.f gMach
  rw [laws_szSpotS_f x.f2 (by omega) s h0 h1]
  simp only [Option.bind_some]
  have b := szN_le x.f2.length s h0
  by_cases c : szN x.f2.length s < 0
  · rw [if_pos c, if_pos c]
  · rw [if_neg c, if_neg c, laws_szIntS_f x.f3 (by omega) _ (by omega) (by omega)]
    simp only [Option.bind_some]
    have := szN_le x.f3.length (szN x.f2.length s) (by omega)
    split
    · congr 1; omega
    · rfl
theorem a_toMach {x : S46} (h : Ok46 x) (k : Nat) (hk : 10000000000000000 ≤ k) : laws_toMach.f k x.f0.f0 x.f0.f1 x.f1 x.f2 x.f3 x.f4 = some (x.f0.f0, x.f0.f1, x.f1, x.f2.map cvSpot, x.f3, x.f4) := by
  have hl := mach_len h
  unfold laws_toMach.f
  rw [laws_toSpot_c x.f0, laws_toSpotS_f x.f2 (by omega) k (by omega), laws_toIntS_f x.f3 (by omega) k (by omega)]
  simp
theorem a_eqMach {x : S46} (h : Ok46 x) (k : Nat) (hk : 10000000000000000 ≤ k) : laws_eqMach.f k x.f0.f0 x.f0.f1 x.f1 (x.f2.map cvSpot) x.f3 x.f4 x.f0.f0 x.f0.f1 x.f1 (x.f2.map cvSpot) x.f3 x.f4 = some true := by
  have hl := mach_len h
  unfold laws_eqMach.f
  have e0 := laws_eqSpot_f (cvSpot x.f0) (cvSpot x.f0)
  rw [spotSame_refl] at e0
  rw [show laws_eqSpot.f x.f0.f0 x.f0.f1 x.f0.f0 x.f0.f1 = some true from e0, laws_eqSpotS_f _ _ (by simp only [List.length_map]; omega) k (by simp only [List.length_map]; omega), laws_eqIntS_f x.f3 x.f3 (by omega) k (by omega)]
  have e1 : all2 spotSame (x.f2.map cvSpot) (x.f2.map cvSpot) = true := all2_refl _ _ (fun a _ => spotSame_refl a)
  have e2 : all2 intSame x.f3 x.f3 = true := all2_refl _ _ (fun a _ => intSame_refl a)
  simp only [Option.bind_some, e1, e2, if_true]
end Go.Proofs.Ytccknlcokknadaa.L
