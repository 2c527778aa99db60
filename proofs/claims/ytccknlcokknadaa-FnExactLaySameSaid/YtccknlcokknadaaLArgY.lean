/- An argument of a law, measured, copied, held against its copy. -/
import Derived.Test.YtccknlcokknadaaPxlawseqStringSS
import Derived.Test.YtccknlcokknadaaPxlawsszIntS
import Derived.Test.YtccknlcokknadaaPxlawsszStringS
import Derived.Test.YtccknlcokknadaaLCvY
import Derived.Test.YtccknlcokknadaaRd
namespace Go.Proofs.Ytccknlcokknadaa.L
open Go.RowKit Go.Proofs.YtccknlcokknadaaW.PrintWords Go.Proofs.YtccknlcokknadaaW.PrintLast Go.Proofs.YtccknlcokknadaaW.PrintMore Go.Proofs.Ytccknlcokknadaa.P
set_option linter.unusedVariables false
set_option linter.unusedSimpArgs false
def gLay (x : S35) (s : Int) : Int := if szN x.f0.length s < 0 then -1 else szL gStrS x.f1 (szN x.f0.length s)
theorem gLay_le (x : S35) (s : Int) (h : 0 ≤ s) : -1 ≤ gLay x s ∧ gLay x s ≤ s := by
  unfold gLay
  have := szN_le x.f0.length s h
  split
  · omega
  · have := szL_le gStrS gStrS_le x.f1 (szN x.f0.length s) (by omega)
    omega
theorem lay_len {x : S35} (h : Ok35 x) : x.f0.length ≤ 17592186043904 ∧ x.f1.length ≤ 5864062014801 ∧ ∀ l ∈ x.f1, l.length < 8796093021953 :=
  ⟨by have := h.1.1; omega, by have := h.2.1; omega, fun l hl => by have := (h.2.2 l hl).1; omega⟩
theorem a_szLay {x : S35} (h : Ok35 x) (s : Int) (h0 : 0 ≤ s) (h1 : s ≤ 1048576) (k : Nat) (hk : 10000000000000000 ≤ k) : laws_szLay.f k x.f0 x.f1 s = some (gLay x s) := by
  have hl := lay_len h
  unfold laws_szLay.f gLay
  rw [laws_szIntS_f x.f0 (by omega) s h0 h1]
  simp only [Option.bind_some]
  have b := szN_le x.f0.length s h0
  by_cases c : szN x.f0.length s < 0
  · rw [if_pos c, if_pos c]
  · rw [if_neg c, if_neg c, laws_szStringSS_f x.f1 (by omega) (fun l hl2 => ⟨by have := hl.2.2 l hl2; omega, (h.2.2 l hl2).2⟩) 8796093021953 hl.2.2 _ (by omega) (by omega) k (by omega)]
    simp only [Option.bind_some]
    have := szL_le gStrS gStrS_le x.f1 (szN x.f0.length s) (by omega)
    split
    · congr 1; omega
    · rfl
theorem a_toLay {x : S35} (h : Ok35 x) (k : Nat) (hk : 10000000000000000 ≤ k) : laws_toLay.f k x.f0 x.f1 = some (x.f0, x.f1) := by
  have hl := lay_len h
  unfold laws_toLay.f
  rw [laws_toIntS_f x.f0 (by omega) k (by omega), laws_toStringSS_f x.f1 (by omega) 8796093021953 (fun l hl2 => by have := hl.2.2 l hl2; omega) hl.2.2 k (by omega)]
  simp
theorem a_eqLay {x : S35} (h : Ok35 x) (k : Nat) (hk : 10000000000000000 ≤ k) : laws_eqLay.f k x.f0 x.f1 x.f0 x.f1 = some true := by
  have hl := lay_len h
  unfold laws_eqLay.f
  rw [laws_eqIntS_f x.f0 x.f0 (by omega) k (by omega), laws_eqStringSS_f x.f1 x.f1 (by omega) 8796093021953 (by decide) hl.2.2 k (by omega)]
  have e1 : all2 intSame x.f0 x.f0 = true := all2_refl _ _ (fun a _ => intSame_refl a)
  have e2 : all2 strsSame x.f1 x.f1 = true := all2_refl _ _ (fun l _ => all2_refl _ _ (fun a _ => strSame_refl a))
  simp only [Option.bind_some, e1, e2, if_true]
end Go.Proofs.Ytccknlcokknadaa.L
