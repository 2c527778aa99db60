/- An argument of a law, measured, copied, held against its copy. -/
import Derived.Test.YtccknlcokknadaaPxlawseqFun
import Derived.Test.YtccknlcokknadaaPxlawseqFunSS
import Derived.Test.YtccknlcokknadaaPxlawsszFunS
import Derived.Test.YtccknlcokknadaaPxlawsszFunSS
import Derived.Test.YtccknlcokknadaaPxlawsszIns
import Derived.Test.YtccknlcokknadaaLCvF
import Derived.Test.YtccknlcokknadaaRd
namespace Go.Proofs.Ytccknlcokknadaa.L
open Go.RowKit Go.Proofs.YtccknlcokknadaaW.PrintWords Go.Proofs.YtccknlcokknadaaW.PrintLast Go.Proofs.YtccknlcokknadaaW.PrintMore Go.Proofs.Ytccknlcokknadaa.P
set_option linter.unusedVariables false
set_option linter.unusedSimpArgs false
theorem ok_fits {x : S24} (h : Ok24 x) : FitsFun x := ⟨h.1, by have := h.2.2.1; omega, fun y hy => (h.2.2.2 y hy).2.2⟩
theorem ok_len {x : S24} (h : Ok24 x) : x.f2.length ≤ 4398046511104 := by have := h.2.2.1; omega
theorem a_szFun {x : S24} (h : Ok24 x) (s : Int) (h0 : 0 ≤ s) (h1 : s ≤ 1048576) (k : Nat) (hk : 10000000000000000 ≤ k) : laws_szFun.f k x.f0 x.f1 x.f2 s = some (gFun x s) :=
  laws_szFun_g x (ok_fits h) s h0 h1 k (by have := ok_len h; omega)
theorem a_toFun {x : S24} (h : Ok24 x) (k : Nat) (hk : 10000000000000000 ≤ k) : laws_toFun.f k x.f0 x.f1 x.f2 = some (x.f0, x.f1, x.f2.map cvIns) :=
  laws_toFun_c x (by have := ok_len h; omega) k (by have := ok_len h; omega)
theorem a_eqFun {x : S24} (h : Ok24 x) (k : Nat) (hk : 10000000000000000 ≤ k) : laws_eqFun.f k x.f0 x.f1 (x.f2.map cvIns) x.f0 x.f1 (x.f2.map cvIns) = some true := by
  have e := laws_eqFun_f (cvFun x) (cvFun x) (by simp only [cvFun, List.length_map]; have := ok_len h; omega) k (by simp only [cvFun, List.length_map]; have := ok_len h; omega)
  rw [funSame_refl] at e
  exact e
def OkU (l : List S24) : Prop := l.length * 48 ≤ 140737488351232 ∧ ∀ x ∈ l, Ok24 x
theorem OkU.len {l : List S24} (h : OkU l) : l.length ≤ 2932031007402 := by have := h.1; omega
theorem OkU.fits {l : List S24} (h : OkU l) : FitsUnit 4398046511105 l := ⟨by have := h.len; omega, fun x hx => ok_fits (h.2 x hx), fun x hx => by have := ok_len (h.2 x hx); omega⟩
theorem OkU.make {l : List S24} (h : OkU l) : FitsMake 4398046511105 l := ⟨by have := h.len; omega, fun x hx => by have := ok_len (h.2 x hx); omega, fun x hx => by have := ok_len (h.2 x hx); omega⟩
theorem a_szFunS {l : List S24} (h : OkU l) (s : Int) (h0 : 0 ≤ s) (h1 : s ≤ 1048576) (k : Nat) (hk : 10000000000000000 ≤ k) : laws_szFunS.f k l s = some (gFunS l s) :=
  laws_szFunS_g _ l h.fits s h0 h1 k (by have := h.len; omega)
theorem a_toFunS {l : List S24} (h : OkU l) (k : Nat) (hk : 10000000000000000 ≤ k) : laws_toFunS.f k l = some (l.map cvFun) :=
  laws_toFunS_c _ l h.make k (by have := h.len; omega)
theorem cv_len {l : List S24} (h : OkU l) : ∀ x ∈ l.map cvFun, x.f2.length < 4398046511105 := by
  intro x hx
  obtain ⟨y, hy, rfl⟩ := List.mem_map.1 hx
  simp only [cvFun, List.length_map]
  have := ok_len (h.2 y hy)
  omega
theorem a_eqFunS {l : List S24} (h : OkU l) (k : Nat) (hk : 10000000000000000 ≤ k) : laws_eqFunS.f k (l.map cvFun) (l.map cvFun) = some true := by
  rw [laws_eqFunS_f _ _ (by simp only [List.length_map]; have := h.len; omega) 4398046511105 (by decide) (cv_len h) k (by simp only [List.length_map]; have := h.len; omega)]
  exact congrArg some (unitSame_refl _)
def OkP (l : List (List S24)) : Prop := l.length * 24 ≤ 140737488351232 ∧ ∀ u ∈ l, OkU u
theorem OkP.len {l : List (List S24)} (h : OkP l) : l.length ≤ 5864062014801 := by have := h.1; omega
theorem a_szFunSS {l : List (List S24)} (h : OkP l) (s : Int) (h0 : 0 ≤ s) (h1 : s ≤ 1048576) (k : Nat) (hk : 10000000000000000 ≤ k) : laws_szFunSS.f k l s = some (szL gFunS l s) :=
  laws_szFunSS_f l (by have := h.len; omega) 4398046511105 8000000000000 (fun u hu => (h.2 u hu).fits) (fun u hu => by have := (h.2 u hu).len; omega) s h0 h1 k (by have := h.len; omega)
theorem a_toFunSS {l : List (List S24)} (h : OkP l) (k : Nat) (hk : 10000000000000000 ≤ k) : laws_toFunSS.f k l = some (l.map (List.map cvFun)) :=
  laws_toFunSS_f l (by have := h.len; omega) 4398046511105 8000000000000 (fun u hu => (h.2 u hu).make) (fun u hu => by have := (h.2 u hu).len; omega) k (by have := h.len; omega)
theorem cvs_len {l : List (List S24)} (h : OkP l) : ∀ u ∈ l.map (List.map cvFun), 4398046511105 + u.length < 8000000000000 ∧ ∀ x ∈ u, x.f2.length < 4398046511105 := by
  intro u hu
  obtain ⟨v, hv, rfl⟩ := List.mem_map.1 hu
  exact ⟨by simp only [List.length_map]; have := (h.2 v hv).len; omega, cv_len (h.2 v hv)⟩
theorem a_eqFunSS {l : List (List S24)} (h : OkP l) (k : Nat) (hk : 10000000000000000 ≤ k) : laws_eqFunSS.f k (l.map (List.map cvFun)) (l.map (List.map cvFun)) = some true := by
  rw [laws_eqFunSS_f _ _ (by simp only [List.length_map]; have := h.len; omega) 4398046511105 8000000000000 (by decide) (by decide) (cvs_len h) k (by simp only [List.length_map]; have := h.len; omega)]
  exact congrArg some (all2_refl _ _ (fun u _ => unitSame_refl u))
end Go.Proofs.Ytccknlcokknadaa.L
