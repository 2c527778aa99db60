-- LAllX, LRun, PximplFunRefs, LRefs, LLack, LDeepM, LDeep, PureFnExactGraphDeep: put together by squash.py
import Derived.Test.YtppmalfpggkpdaaSqFnExactGraphDeep4
import Derived.Test.YtppmalfpggkpdaaSqFnExactGraphDeep9
import Derived.Test.YtppmalfpggkpdaaSqFnExactGraphDeep8
import Derived.Test.YtppmalfpggkpdaaSqFnExactGraphDeep5
import Derived.Test.YtppmalfpggkpdaaSqFnExactGraphDeep3
import Derived.Test.YtppmalfpggkpdaaSqFnExactGraphDeep6
import Derived.Test.YtppmalfpggkpdaaSqFnExactGraphDeep7

/- What the comparisons compute: two lists alike, place by place. -/
namespace Go.Proofs.Ytppmalfpggkpdaa.L
open Go.RowKit Go.Proofs.YtppmalfpggkpdaaW.PrintWords Go.Proofs.YtppmalfpggkpdaaW.PrintLast Go.Proofs.YtppmalfpggkpdaaW.PrintMore Go.Proofs.Ytppmalfpggkpdaa.P
set_option linter.unusedVariables false
set_option linter.unusedSimpArgs false

def insSame (x y : S110) : Bool := (x.f0 == y.f0) && ((x.f1 == y.f1) && (x.f2.toList == y.f2.toList))
def funSame (x y : S52) : Bool := (x.f0.toList == y.f0.toList) && ((x.f1 == y.f1) && all2 insSame x.f2 y.f2)
def unitSame (l m : List S52) : Bool := all2 funSame l m
theorem insSame_refl (x : S110) : insSame x x = true := by simp [insSame]
theorem funSame_refl (x : S52) : funSame x x = true := by simp [funSame, all2_refl insSame _ (fun y _ => insSame_refl y)]
theorem unitSame_refl (l : List S52) : unitSame l l = true := all2_refl _ _ (fun x _ => funSame_refl x)
end Go.Proofs.Ytppmalfpggkpdaa.L
namespace Go.Proofs.Ytppmalfpggkpdaa.L
open Go.RowKit Go.Proofs.YtppmalfpggkpdaaW.PrintWords Go.Proofs.YtppmalfpggkpdaaW.PrintLast Go.Proofs.YtppmalfpggkpdaaW.PrintMore Go.Proofs.Ytppmalfpggkpdaa.P
set_option linter.unusedVariables false
set_option linter.unusedSimpArgs false

/-- What is left of a bound behind a list. -/
def szL {α : Type} (g : α → Int → Int) (l : List α) (s : Int) : Int := if s < l.length then -1 else szFold g l (s - l.length)
theorem szL_le {α : Type} (g : α → Int → Int) (h : ∀ x s, 0 ≤ s → -1 ≤ g x s ∧ g x s ≤ s) (l : List α) (s : Int) (hs : 0 ≤ s) : -1 ≤ szL g l s ∧ szL g l s ≤ s := by
  unfold szL
  split
  · omega
  · have := szFold_le g h l (s - l.length) (by omega)
    omega
/-- What is left behind a text. -/
def szS (a : ByteArray) (s : Int) : Int := if s < a.size then -1 else s - a.size
theorem szS_le (a : ByteArray) (s : Int) (hs : 0 ≤ s) : -1 ≤ szS a s ∧ szS a s ≤ s := by
  unfold szS
  split <;> omega
/-- How far a text may go. -/
abbrev Fits (s : ByteArray) : Prop := s.size ≤ 140737488351232
theorem szS_wrap (a : ByteArray) (s : Int) (ha : Fits a) (h0 : 0 ≤ s) (h1 : s ≤ 1048576) : (if (wrap64 (s - (a.size : Int))) < 0 then (-1 : Int) else (wrap64 (s - (a.size : Int)))) = szS a s := by
  rw [wrap_id (by omega) (by omega)]
  unfold szS
  by_cases h : s < a.size
  · rw [if_pos (by omega), if_pos h]
  · rw [if_neg (by omega), if_neg h]
theorem len_wrap {s : Int} {n : Nat} (hn : n ≤ 140737488351232) (h0 : 0 ≤ s) (h1 : s ≤ 1048576) : wrap64 (s - (n : Int)) = s - n := wrap_id (by omega) (by omega)
def gIns (x : S154) (s : Int) : Int := szS x.f2 s
theorem gIns_le (x : S154) (s : Int) (h : 0 ≤ s) : -1 ≤ gIns x s ∧ gIns x s ≤ s := szS_le _ _ h
def FitsIns (x : S154) : Prop := Fits x.f2
theorem laws_szIns_g (x : S154) (hx : FitsIns x) (s : Int) (h0 : 0 ≤ s) (h1 : s ≤ 1048576) : laws_szIns.f x.f0 x.f1 x.f2 s = some (gIns x s) := by
  unfold laws_szIns.f gIns
  rw [← szS_wrap x.f2 s hx h0 h1]
  split <;> rfl
theorem laws_szInsS_f (l : List S154) (hn : l.length ≤ 140737488351232) (hx : ∀ x ∈ l, FitsIns x) (s : Int) (h0 : 0 ≤ s) (h1 : s ≤ 1048576) (k : Nat) (hk : l.length < k) : laws_szInsS.f k l s = some (szL gIns l s) := by
  unfold laws_szInsS.f szL
  rw [len_wrap hn h0 h1]
  by_cases h : s < l.length
  · rw [if_pos (by omega), if_pos h]
  · rw [if_neg (by omega), if_neg h]
    refine loop_sz l z154 gIns gIns_le (by omega) (fun k s i => laws_szInsS.l0 k l s i) 0 ?_ ?_ (s - l.length) (by omega) (by omega) k (by omega)
    · intro k i s _ hi h0 h1
      simp only [laws_szInsS.l0]
      rw [if_pos (by omega), if_pos (by omega), laws_szIns_g (rd_T154 l (i : Int)) (hx _ (getD_mem hi)) s h0 h1]
      rfl
    · intro k s _
      simp only [laws_szInsS.l0]
      rw [if_neg (by omega)]
def gFun (x : S95) (s : Int) : Int := if szS x.f0 s < 0 then -1 else szL gIns x.f2 (szS x.f0 s)
theorem gFun_le (x : S95) (s : Int) (h : 0 ≤ s) : -1 ≤ gFun x s ∧ gFun x s ≤ s := by
  unfold gFun
  have := szS_le x.f0 s h
  split
  · omega
  · have := szL_le gIns gIns_le x.f2 (szS x.f0 s) (by omega)
    omega
def FitsFun (x : S95) : Prop := Fits x.f0 ∧ x.f2.length ≤ 140737488351232 ∧ ∀ y ∈ x.f2, FitsIns y
theorem laws_szFun_g (x : S95) (hx : FitsFun x) (s : Int) (h0 : 0 ≤ s) (h1 : s ≤ 1048576) (k : Nat) (hk : x.f2.length < k) : laws_szFun.f k x.f0 x.f1 x.f2 s = some (gFun x s) := by
  unfold laws_szFun.f gFun
  have e := szS_wrap x.f0 s hx.1 h0 h1
  have hb := szS_le x.f0 s h0
  have hs := hx.1
  have w : wrap64 (s - (x.f0.size : Int)) = s - x.f0.size := wrap_id (by have : x.f0.size ≤ 140737488351232 := hs; omega) (by omega)
  rw [w] at e ⊢
  by_cases h : s - (x.f0.size : Int) < 0
  · rw [if_pos h] at e ⊢
    rw [← e, if_pos (by omega)]
  · rw [if_neg h] at e ⊢
    rw [← e, if_neg h, laws_szInsS_f x.f2 hx.2.1 hx.2.2 _ (by omega) (by omega) k hk]
    simp only [Option.bind_some]
    have := szL_le gIns gIns_le x.f2 (s - x.f0.size) (by omega)
    split
    · congr 1; omega
    · rfl
theorem laws_szFunS_f (l : List S95) (hn : l.length ≤ 140737488351232) (hx : ∀ x ∈ l, FitsFun x) (B : Nat) (hB : ∀ x ∈ l, x.f2.length < B) (s : Int) (h0 : 0 ≤ s) (h1 : s ≤ 1048576) (k : Nat) (hk : B + l.length < k) : laws_szFunS.f k l s = some (szL gFun l s) := by
  unfold laws_szFunS.f szL
  rw [len_wrap hn h0 h1]
  by_cases h : s < l.length
  · rw [if_pos (by omega), if_pos h]
  · rw [if_neg (by omega), if_neg h]
    refine loop_sz l z95 gFun gFun_le (by omega) (fun k s i => laws_szFunS.l0 k l s i) B ?_ ?_ (s - l.length) (by omega) (by omega) k (by omega)
    · intro k i s hK hi h0 h1
      simp only [laws_szFunS.l0]
      rw [if_pos (by omega), if_pos (by omega), laws_szFun_g (rd_T95 l (i : Int)) (hx _ (getD_mem hi)) s h0 h1 k (by have := hB _ (getD_mem (d := z95) hi); exact Nat.lt_of_lt_of_le this hK)]
      rfl
    · intro k s _
      simp only [laws_szFunS.l0]
      rw [if_neg (by omega)]
def gFunS (l : List S95) (s : Int) : Int := szL gFun l s
theorem gFunS_le (l : List S95) (s : Int) (h : 0 ≤ s) : -1 ≤ gFunS l s ∧ gFunS l s ≤ s := szL_le _ gFun_le _ _ h
def FitsUnit (B : Nat) (u : List S95) : Prop := u.length ≤ 140737488351232 ∧ (∀ x ∈ u, FitsFun x) ∧ ∀ x ∈ u, x.f2.length < B
theorem laws_szFunS_g (B : Nat) (l : List S95) (hl : FitsUnit B l) (s : Int) (h0 : 0 ≤ s) (h1 : s ≤ 1048576) (k : Nat) (hk : B + l.length < k) : laws_szFunS.f k l s = some (gFunS l s) := laws_szFunS_f l hl.1 hl.2.1 B hl.2.2 s h0 h1 k hk
def cvIns (x : S154) : S110 := ⟨x.f0, x.f1, x.f2⟩
theorem laws_toIns_c (x : S154) : laws_toIns.f x.f0 x.f1 x.f2 = some (x.f0, x.f1, x.f2) := rfl
theorem laws_toInsS_f (l : List S154) (hn : l.length ≤ 8796093022208) (k : Nat) (hk : l.length < k) : laws_toInsS.f k l = some (l.map cvIns) := by
  unfold laws_toInsS.f
  rw [if_pos (by omega), if_pos (by omega)]
  refine loop_fill l z154 z110 cvIns (by omega) (fun k acc i => laws_toInsS.l0 k l acc i) 0 ?_ ?_ k (by omega)
  · intro k i acc hK hi ha
    simp only [laws_toInsS.l0]
    rw [if_pos (by omega), if_pos (by omega), laws_toIns_c (rd_T154 l (i : Int))]
    simp only [Option.bind_some]
    rw [if_pos (by omega)]
    rfl
  · intro k acc _
    simp only [laws_toInsS.l0]
    rw [if_neg (by omega)]
def cvFun (x : S95) : S52 := ⟨x.f0, x.f1, x.f2.map cvIns⟩
theorem laws_toFun_c (x : S95) (hn : x.f2.length ≤ 8796093022208) (k : Nat) (hk : x.f2.length < k) : laws_toFun.f k x.f0 x.f1 x.f2 = some (x.f0, x.f1, x.f2.map cvIns) := by
  unfold laws_toFun.f
  rw [laws_toInsS_f x.f2 hn k hk]
  rfl
theorem laws_toFunS_f (l : List S95) (hn : l.length ≤ 5864062014805) (hx : ∀ x ∈ l, x.f2.length ≤ 8796093022208) (B : Nat) (hB : ∀ x ∈ l, x.f2.length < B) (k : Nat) (hk : B + l.length < k) : laws_toFunS.f k l = some (l.map cvFun) := by
  unfold laws_toFunS.f
  rw [if_pos (by omega), if_pos (by omega)]
  refine loop_fill l z95 z52 cvFun (by omega) (fun k acc i => laws_toFunS.l0 k l acc i) B ?_ ?_ k (by omega)
  · intro k i acc hK hi ha
    simp only [laws_toFunS.l0]
    rw [if_pos (by omega), if_pos (by omega), laws_toFun_c (rd_T95 l (i : Int)) (hx _ (getD_mem hi)) k (by have := hB _ (getD_mem (d := z95) hi); exact Nat.lt_of_lt_of_le this hK)]
    simp only [Option.bind_some]
    rw [if_pos (by omega)]
    rfl
  · intro k acc _
    simp only [laws_toFunS.l0]
    rw [if_neg (by omega)]
def FitsMake (B : Nat) (u : List S95) : Prop := u.length ≤ 5864062014805 ∧ (∀ x ∈ u, x.f2.length ≤ 8796093022208) ∧ ∀ x ∈ u, x.f2.length < B
theorem laws_toFunS_c (B : Nat) (l : List S95) (hl : FitsMake B l) (k : Nat) (hk : B + l.length < k) : laws_toFunS.f k l = some (l.map cvFun) := laws_toFunS_f l hl.1 hl.2.1 B hl.2.2 k hk
theorem laws_eqIns_f (x y : S110) : laws_eqIns.f x.f0 x.f1 x.f2 y.f0 y.f1 y.f2 = some (insSame x y) := by
  unfold laws_eqIns.f insSame
  by_cases h0 : x.f0 = y.f0
  · rw [if_pos h0, beq_iff_eq.mpr h0]
    by_cases h1 : x.f1 = y.f1
    · rw [if_pos h1, beq_iff_eq.mpr h1]
      by_cases h2 : x.f2.toList = y.f2.toList
      · rw [if_pos h2, beq_iff_eq.mpr h2]; rfl
      · rw [if_neg h2, beq_eq_false_iff_ne.mpr h2]; rfl
    · rw [if_neg h1, beq_eq_false_iff_ne.mpr h1]; rfl
  · rw [if_neg h0, beq_eq_false_iff_ne.mpr h0]; rfl
theorem laws_eqInsS_f (l m : List S110) (hn : l.length ≤ 9223372036854775807) (k : Nat) (hk : l.length < k) : laws_eqInsS.f k l m = some (all2 insSame l m) := by
  unfold laws_eqInsS.f
  by_cases hl : l.length = m.length
  · rw [if_pos (by omega)]
    refine loop_all2 insSame z110 z110 l m hl hn (fun k i => laws_eqInsS.l0 k l m i) 0 ?_ ?_ ?_ k (by omega)
    · intro k i hK hi hq
      have hi' : i < m.length := by omega
      simp only [laws_eqInsS.l0]
      rw [if_pos (by omega), if_pos (by omega), if_pos (by omega)]
      have e := laws_eqIns_f (rd_T110 l (i : Int)) (rd_T110 m (i : Int))
      rw [show insSame (rd_T110 l (i : Int)) (rd_T110 m (i : Int)) = true from hq] at e
      rw [e]
      rfl
    · intro k i hK hi hq
      have hi' : i < m.length := by omega
      simp only [laws_eqInsS.l0]
      rw [if_pos (by omega), if_pos (by omega), if_pos (by omega)]
      have e := laws_eqIns_f (rd_T110 l (i : Int)) (rd_T110 m (i : Int))
      rw [show insSame (rd_T110 l (i : Int)) (rd_T110 m (i : Int)) = false from hq] at e
      rw [e]
      rfl
    · intro k hK
      simp only [laws_eqInsS.l0]
      rw [if_neg (by omega)]
  · rw [if_neg (by omega), all2_len _ _ _ hl]
theorem laws_eqFun_f (x y : S52) (hn : x.f2.length ≤ 9223372036854775807) (k : Nat) (hk : x.f2.length < k) : laws_eqFun.f k x.f0 x.f1 x.f2 y.f0 y.f1 y.f2 = some (funSame x y) := by
  unfold laws_eqFun.f
  rw [laws_eqInsS_f x.f2 y.f2 hn k hk]
  by_cases h : x.f0.toList = y.f0.toList
  · rw [if_pos h]
    cases h2 : (x.f1 == y.f1) with
    | true =>
      rw [if_neg (by simp only [bne, h2]; decide)]
      cases h3 : all2 insSame x.f2 y.f2 <;> simp [funSame, h, h2, h3]
    | false =>
      rw [if_pos (by simp only [bne, h2]; decide)]
      simp [funSame, h, h2]
  · rw [if_neg h]
    simp [funSame, beq_eq_false_iff_ne.mpr h]
theorem laws_eqFunS_f (l m : List S52) (hn : l.length ≤ 9223372036854775807) (B : Nat) (hB : B ≤ 9223372036854775807) (hb : ∀ x ∈ l, x.f2.length < B) (k : Nat) (hk : B + l.length < k) : laws_eqFunS.f k l m = some (all2 funSame l m) := by
  unfold laws_eqFunS.f
  by_cases hl : l.length = m.length
  · rw [if_pos (by omega)]
    refine loop_all2 funSame z52 z52 l m hl hn (fun k i => laws_eqFunS.l0 k l m i) B ?_ ?_ ?_ k (by omega)
    · intro k i hK hi hq
      have hi' : i < m.length := by omega
      simp only [laws_eqFunS.l0]
      rw [if_pos (by omega), if_pos (by omega), if_pos (by omega)]
      have e := laws_eqFun_f (rd_T52 l (i : Int)) (rd_T52 m (i : Int)) (by have := hb _ (getD_mem (d := z52) hi); have e0 : rd_T52 l (i : Int) = l.getD i z52 := rfl; rw [e0]; omega) k (by have := hb _ (getD_mem (d := z52) hi); have e0 : rd_T52 l (i : Int) = l.getD i z52 := rfl; rw [e0]; omega)
      rw [show funSame (rd_T52 l (i : Int)) (rd_T52 m (i : Int)) = true from hq] at e
      rw [e]
      rfl
    · intro k i hK hi hq
      have hi' : i < m.length := by omega
      simp only [laws_eqFunS.l0]
      rw [if_pos (by omega), if_pos (by omega), if_pos (by omega)]
      have e := laws_eqFun_f (rd_T52 l (i : Int)) (rd_T52 m (i : Int)) (by have := hb _ (getD_mem (d := z52) hi); have e0 : rd_T52 l (i : Int) = l.getD i z52 := rfl; rw [e0]; omega) k (by have := hb _ (getD_mem (d := z52) hi); have e0 : rd_T52 l (i : Int) = l.getD i z52 := rfl; rw [e0]; omega)
      rw [show funSame (rd_T52 l (i : Int)) (rd_T52 m (i : Int)) = false from hq] at e
      rw [e]
      rfl
    · intro k hK
      simp only [laws_eqFunS.l0]
      rw [if_neg (by omega)]
  · rw [if_neg (by omega), all2_len _ _ _ hl]
end Go.Proofs.Ytppmalfpggkpdaa.L
namespace Go.Proofs.Ytppmalfpggkpdaa.L
open Go.RowKit Go.Proofs.YtppmalfpggkpdaaW.PrintWords Go.Proofs.YtppmalfpggkpdaaW.PrintLast Go.Proofs.YtppmalfpggkpdaaW.PrintMore Go.Proofs.Ytppmalfpggkpdaa.P
set_option linter.unusedVariables false
set_option linter.unusedSimpArgs false
theorem ok_fits {x : S95} (h : Ok95 x) : FitsFun x := ⟨h.1, by have := h.2.2.1; omega, fun y hy => (h.2.2.2 y hy).2.2⟩
theorem ok_len {x : S95} (h : Ok95 x) : x.f2.length ≤ 4398046511104 := by have := h.2.2.1; omega
def OkU (l : List S95) : Prop := l.length * 48 ≤ 140737488351232 ∧ ∀ x ∈ l, Ok95 x
theorem OkU.len {l : List S95} (h : OkU l) : l.length ≤ 2932031007402 := by have := h.1; omega
theorem OkU.fits {l : List S95} (h : OkU l) : FitsUnit 4398046511105 l := ⟨by have := h.len; omega, fun x hx => ok_fits (h.2 x hx), fun x hx => by have := ok_len (h.2 x hx); omega⟩
theorem OkU.make {l : List S95} (h : OkU l) : FitsMake 4398046511105 l := ⟨by have := h.len; omega, fun x hx => by have := ok_len (h.2 x hx); omega, fun x hx => by have := ok_len (h.2 x hx); omega⟩
theorem a_szFunS {l : List S95} (h : OkU l) (s : Int) (h0 : 0 ≤ s) (h1 : s ≤ 1048576) (k : Nat) (hk : 10000000000000000 ≤ k) : laws_szFunS.f k l s = some (gFunS l s) :=
  laws_szFunS_g _ l h.fits s h0 h1 k (by have := h.len; omega)
theorem a_toFunS {l : List S95} (h : OkU l) (k : Nat) (hk : 10000000000000000 ≤ k) : laws_toFunS.f k l = some (l.map cvFun) :=
  laws_toFunS_c _ l h.make k (by have := h.len; omega)
theorem cv_len {l : List S95} (h : OkU l) : ∀ x ∈ l.map cvFun, x.f2.length < 4398046511105 := by
  intro x hx
  obtain ⟨y, hy, rfl⟩ := List.mem_map.1 hx
  simp only [cvFun, List.length_map]
  have := ok_len (h.2 y hy)
  omega
theorem a_eqFunS {l : List S95} (h : OkU l) (k : Nat) (hk : 10000000000000000 ≤ k) : laws_eqFunS.f k (l.map cvFun) (l.map cvFun) = some true := by
  rw [laws_eqFunS_f _ _ (by simp only [List.length_map]; have := h.len; omega) 4398046511105 (by decide) (cv_len h) k (by simp only [List.length_map]; have := h.len; omega)]
  exact congrArg some (unitSame_refl _)
end Go.Proofs.Ytppmalfpggkpdaa.L
namespace Go.Proofs.Ytppmalfpggkpdaa.L
open Go.RowKit Go.Proofs.YtppmalfpggkpdaaW.PrintWords Go.Proofs.YtppmalfpggkpdaaW.PrintLast Go.Proofs.YtppmalfpggkpdaaW.PrintMore Go.Proofs.Ytppmalfpggkpdaa.P
theorem fit_cv {x : S95} (h : Ok95 x) : FitF (cvFun x) := by
  refine ⟨h.1, ?_, fun y hy => ?_⟩
  · simp only [cvFun, List.length_map]
    have := ok_len h
    omega
  · obtain ⟨z, hz, rfl⟩ := List.mem_map.1 hy
    exact (h.2.2.2 z hz).2.2
theorem fits_cv {l : List S95} (h : OkU l) : ∀ x ∈ l.map cvFun, FitF x := by
  intro x hx
  obtain ⟨y, hy, rfl⟩ := List.mem_map.1 hx
  exact fit_cv (h.2 y hy)
end Go.Proofs.Ytppmalfpggkpdaa.L

/- Loops over a list with a state, told once. -/
namespace Go.Proofs.Ytppmalfpggkpdaa.L
open Go.RowKit Go.Proofs.YtppmalfpggkpdaaW.PrintWords Go.Proofs.YtppmalfpggkpdaaW.PrintLast Go.Proofs.YtppmalfpggkpdaaW.PrintMore Go.Proofs.Ytppmalfpggkpdaa.P
set_option linter.unusedVariables false
set_option linter.unusedSimpArgs false
/-- A walk over a list with a state, that may end early. -/
def runS {α σ β : Type} (f : Nat → α → σ → σ ⊕ β) (E : σ → β) : List α → Nat → σ → β
  | [], _, s => E s
  | x :: l, i, s => match f i x s with
    | .inl s' => runS f E l (i + 1) s'
    | .inr r => r
theorem loop_run {α σ β : Type} (f : Nat → α → σ → σ ⊕ β) (E : Nat → σ → β) (I : Nat → σ → Prop) (d : α) (l : List α) (hn : l.length ≤ 9223372036854775806) (L : Nat → σ → Int → β) (K : Nat)
    (hS : ∀ (k i : Nat) (s : σ), K ≤ k → i < l.length → I i s → L (k + 1) s (i : Int) = match f i (l.getD i d) s with | .inl s' => L k s' (wrap64 ((i : Int) + 1)) | .inr r => r)
    (hI : ∀ (i : Nat) (s s' : σ), i < l.length → I i s → f i (l.getD i d) s = .inl s' → I (i + 1) s')
    (hE : ∀ (k : Nat) (s : σ), K ≤ k → I l.length s → L (k + 1) s (l.length : Int) = E k s) (k : Nat) (hk : K + l.length < k) (s : σ) (h0 : I 0 s) : L k s 0 = runS f (E (k - l.length - 1)) l 0 s := by
  have key : ∀ (n k i : Nat) (s : σ), i + n = l.length → K + n < k → I i s → L k s (i : Int) = runS f (E (k - n - 1)) (l.drop i) i s := by
    intro n
    induction n with
    | zero =>
      intro k i s hi hk hs
      obtain ⟨k, rfl, _⟩ := succ_of hk
      have : i = l.length := by omega
      subst this
      rw [hE k s (by omega) hs, List.drop_length]
      rfl
    | succ n ih =>
      intro k i s hi hk hs
      obtain ⟨k, rfl, _⟩ := succ_of hk
      rw [hS k i s (by omega) (by omega) hs, drop_getD l d i (by omega)]
      simp only [runS]
      cases hf : f i (l.getD i d) s with
      | inr r => rfl
      | inl s' =>
        simp only
        rw [wrap_id (by omega) (by omega)]
        have h2 := ih k (i + 1) s' (by omega) (by omega) (hI i s s' (by omega) hs hf)
        rw [show k + 1 - (n + 1) - 1 = k - n - 1 by omega, ← h2]
        rfl
  have h := key l.length k 0 s (by omega) hk h0
  simpa using h
/-- A loop whose rounds hold loops: each takes up to c more rounds of fuel. -/
theorem loop_var {α σ β : Type} (f : Nat → α → σ → σ ⊕ β) (E : σ → β) (I : Nat → σ → Prop) (d : α) (l : List α) (hn : l.length ≤ 9223372036854775806) (L : Nat → σ → Int → β) (K c : Nat)
    (hS : ∀ (k i : Nat) (s : σ), K ≤ k → i < l.length → I i s → match f i (l.getD i d) s with
      | .inl s' => I (i + 1) s' ∧ ∃ k', k ≤ k' + c ∧ L (k + 1) s (i : Int) = L k' s' (wrap64 ((i : Int) + 1))
      | .inr r => L (k + 1) s (i : Int) = r)
    (hE : ∀ (k : Nat) (s : σ), K ≤ k → I l.length s → L (k + 1) s (l.length : Int) = E s) (k : Nat) (hk : K + l.length * (c + 1) < k) (s : σ) (h0 : I 0 s) : L k s 0 = runS f E l 0 s := by
  have key : ∀ (n k i : Nat) (s : σ), i + n = l.length → K + n * (c + 1) < k → I i s → L k s (i : Int) = runS f E (l.drop i) i s := by
    intro n
    induction n with
    | zero =>
      intro k i s hi hk hs
      obtain ⟨k, rfl, _⟩ := succ_of hk
      have : i = l.length := by omega
      subst this
      rw [hE k s (by omega) hs, List.drop_length]
      rfl
    | succ n ih =>
      intro k i s hi hk hs
      rw [Nat.succ_mul] at hk
      obtain ⟨k, rfl, _⟩ := succ_of hk
      have h := hS k i s (by omega) (by omega) hs
      rw [drop_getD l d i (by omega)]
      simp only [runS]
      cases hf : f i (l.getD i d) s with
      | inr r => rw [hf] at h; exact h
      | inl s' =>
        rw [hf] at h
        obtain ⟨h1, k', h2, h3⟩ := h
        simp only
        rw [h3, wrap_id (by omega) (by omega)]
        have h4 := ih k' (i + 1) s' (by omega) (by omega) h1
        rw [← h4]
        rfl
  have h := key l.length k 0 s (by omega) hk h0
  simpa using h
/-- .. and goes on with what fuel is left. -/
theorem loop_vark {α σ β : Type} (f : Nat → α → σ → σ ⊕ β) (E : Nat → σ → β) (I : Nat → σ → Prop) (d : α) (l : List α) (hn : l.length ≤ 9223372036854775806) (L : Nat → σ → Int → β) (K c : Nat)
    (hS : ∀ (k i : Nat) (s : σ), K ≤ k → i < l.length → I i s → match f i (l.getD i d) s with
      | .inl s' => I (i + 1) s' ∧ ∃ k', k ≤ k' + c ∧ L (k + 1) s (i : Int) = L k' s' (wrap64 ((i : Int) + 1))
      | .inr r => L (k + 1) s (i : Int) = r)
    (hE : ∀ (k : Nat) (s : σ), K ≤ k → I l.length s → L (k + 1) s (l.length : Int) = E k s) (k : Nat) (hk : K + l.length * (c + 1) < k) (s : σ) (h0 : I 0 s) : ∃ k', k ≤ k' + (l.length * (c + 1) + 1) ∧ L k s 0 = runS f (E k') l 0 s := by
  have key : ∀ (n k i : Nat) (s : σ), i + n = l.length → K + n * (c + 1) < k → I i s → ∃ k', k ≤ k' + (n * (c + 1) + 1) ∧ L k s (i : Int) = runS f (E k') (l.drop i) i s := by
    intro n
    induction n with
    | zero =>
      intro k i s hi hk hs
      obtain ⟨k, rfl, _⟩ := succ_of hk
      have : i = l.length := by omega
      subst this
      refine ⟨k, by omega, ?_⟩
      rw [hE k s (by omega) hs, List.drop_length]
      rfl
    | succ n ih =>
      intro k i s hi hk hs
      rw [Nat.succ_mul] at hk ⊢
      obtain ⟨k, rfl, _⟩ := succ_of hk
      have h := hS k i s (by omega) (by omega) hs
      rw [drop_getD l d i (by omega)]
      simp only [runS]
      cases hf : f i (l.getD i d) s with
      | inr r => rw [hf] at h; exact ⟨k + 1, by omega, h⟩
      | inl s' =>
        rw [hf] at h
        obtain ⟨h1, k', h2, h3⟩ := h
        simp only
        obtain ⟨k2, h5, h4⟩ := ih k' (i + 1) s' (by omega) (by omega) h1
        refine ⟨k2, by omega, ?_⟩
        rw [h3, wrap_id (by omega) (by omega), ← h4]
        rfl
  have h := key l.length k 0 s (by omega) hk h0
  simpa using h
end Go.Proofs.Ytppmalfpggkpdaa.L

-- made by printx.py (own driver over the kit's print); Lean checks it
namespace Go.Proofs.Ytppmalfpggkpdaa.P
open Go.RowKit Go.Proofs.YtppmalfpggkpdaaW.PrintWords Go.Proofs.YtppmalfpggkpdaaW.PrintLast Go.Proofs.YtppmalfpggkpdaaW.PrintMore
attribute [local go_sem] max2_int min2_int max_two min_two max_three min_three max_four min_four   -- for this text's walks alone
set_option linter.unusedVariables false
set_option linter.unusedSimpArgs false

/-! ### impl_FunRefs: function 37 -/
def impl_FunRefs.f (k : Nat) (a0_0 : ByteArray) (a0_1 : Bool) (l0_2 : List (S110)) : Option (List ByteArray) := (impl_FunOk.f a0_0 a0_1 l0_2).bind fun t804 => (if t804 = true then ((impl_Fun_refs.f k a0_0 a0_1 l0_2).bind fun t805 => (some t805)) else (some ([] : List ByteArray)))
end Go.Proofs.Ytppmalfpggkpdaa.P

/- The names in a function; marks in texts. -/
namespace Go.Proofs.Ytppmalfpggkpdaa.L
open Go.RowKit Go.Proofs.YtppmalfpggkpdaaW.PrintWords Go.Proofs.YtppmalfpggkpdaaW.PrintLast Go.Proofs.YtppmalfpggkpdaaW.PrintMore Go.Proofs.Ytppmalfpggkpdaa.P
set_option linter.unusedVariables false
set_option linter.unusedSimpArgs false
def hasB (l : List ByteArray) (a : ByteArray) : Bool := l.any fun x => x.toList == a.toList
def refsAdd (x : S110) (s : List ByteArray) : List ByteArray := if refersB x.f0 && !hasB s x.f2 then s ++ [x.f2] else s
def refsV (l : List S110) : List ByteArray := l.foldl (fun s x => refsAdd x s) []
theorem refsAdd_len (x : S110) (s : List ByteArray) : (refsAdd x s).length ≤ s.length + 1 := by
  unfold refsAdd
  split
  · simp
  · omega
theorem foldl_len : ∀ (l : List S110) (s : List ByteArray), (l.foldl (fun s x => refsAdd x s) s).length ≤ s.length + l.length
  | [], s => by simp
  | x :: l, s => by
    have := foldl_len l (refsAdd x s)
    have := refsAdd_len x s
    simp only [List.foldl, List.length_cons]
    omega
theorem refsV_len (l : List S110) : (refsV l).length ≤ l.length := by
  have := foldl_len l []
  simpa [refsV] using this
theorem runS_fold {β : Type} (E : List ByteArray → β) : ∀ (l : List S110) (i : Nat) (s : List ByteArray), runS (fun _ x s => (.inl (refsAdd x s) : List ByteArray ⊕ β)) E l i s = E (l.foldl (fun s x => refsAdd x s) s)
  | [], _, _ => rfl
  | x :: l, i, s => runS_fold E l (i + 1) (refsAdd x s)
theorem slices_Contains_sstring_string_f (l : List ByteArray) (hn : l.length ≤ 9223372036854775807) (a : ByteArray) (k : Nat) (hk : l.length < k) : slices_Contains_sstring_string.f k l a = some (hasB l a) := by
  unfold slices_Contains_sstring_string.f slices_Index_sstring_string.f
  have h : slices_Index_sstring_string.l0 k l a (l.length : Int) 0 = some (idxFrom (fun x => x.toList == a.toList) l 0) := by
    refine loop_idx (fun x => x.toList == a.toList) ByteArray.empty l hn (fun k i => slices_Index_sstring_string.l0 k l a (l.length : Int) i) 0 ?_ ?_ ?_ k (by omega)
    · intro k i _ hi hq
      simp only [slices_Index_sstring_string.l0]
      rw [if_pos (by omega), if_pos (by omega), if_pos (by omega), if_pos (show a.toList = (rdOf ByteArray.empty l (i : Int)).toList from (beq_iff_eq.mp hq).symm)]
    · intro k i _ hi hq
      simp only [slices_Index_sstring_string.l0]
      rw [if_pos (by omega), if_pos (by omega), if_pos (by omega), if_neg (show ¬ a.toList = (rdOf ByteArray.empty l (i : Int)).toList from fun e => beq_eq_false_iff_ne.mp hq e.symm)]
    · intro k _
      simp only [slices_Index_sstring_string.l0]
      rw [if_neg (by omega)]
  rw [h]
  simp only [Option.bind_some, hasB]
  rw [← idxFrom_any _ l 0 (by decide)]
theorem spec_l2Has_f (l : List ByteArray) (hn : l.length ≤ 9223372036854775806) (a : ByteArray) (k : Nat) (hk : l.length < k) : spec_l2Has.f k l a = some (hasB l a) := by
  have e : ∀ (l' : List ByteArray) (i : Nat), runS (fun _ x (_ : Unit) => if x.toList = a.toList then (.inr (some true) : Unit ⊕ Option Bool) else .inl ()) (fun _ => some false) l' i () = some (hasB l' a) := by
    intro l'
    induction l' with
    | nil => intro i; rfl
    | cons x l' ih =>
      intro i
      simp only [runS, hasB, List.any_cons]
      by_cases h : x.toList = a.toList
      · rw [if_pos h, beq_iff_eq.mpr h]; rfl
      · rw [if_neg h, beq_eq_false_iff_ne.mpr h]
        exact ih (i + 1)
  unfold spec_l2Has.f
  refine (loop_run (fun _ x (_ : Unit) => if x.toList = a.toList then (.inr (some true) : Unit ⊕ Option Bool) else .inl ()) (fun _ _ => some false) (fun _ _ => True) ByteArray.empty l hn (fun k _ i => spec_l2Has.l0 k l a i) 0 ?_ (fun _ _ _ _ _ _ => trivial) ?_ k (by omega) () trivial).trans (e l 0)
  · intro k i s _ hi _
    simp only [spec_l2Has.l0]
    rw [if_pos (by omega), if_pos (by omega)]
    show (if (l.getD i ByteArray.empty).toList = a.toList then _ else _) = _
    split <;> rfl
  · intro k s _ _
    simp only [spec_l2Has.l0]
    rw [if_neg (by omega)]
theorem impl_Fun_refs_f (a : ByteArray) (b : Bool) (l : List S110) (hn : l.length ≤ 8796093022207) (k : Nat) (hk : 2 * l.length + 5 < k) : impl_Fun_refs.f k a b l = some (refsV l) := by
  unfold impl_Fun_refs.f
  refine (loop_run (fun _ x s => (.inl (refsAdd x s) : List ByteArray ⊕ Option (List ByteArray))) (fun _ s => some s) (fun i s => s.length ≤ i) z110 l (by omega) (fun k s i => impl_Fun_refs.l0 k s l (l.length : Int) i) (l.length + 1) ?_ ?_ ?_ k (by omega) [] (by simp)).trans (runS_fold _ l 0 [])
  · intro k i s hK hi hs
    simp only [impl_Fun_refs.l0]
    rw [if_pos (by omega), if_pos (by omega), if_pos (by omega), impl_InsRefs_f (rd_T110 l (i : Int)).f0 _ _]
    simp only [Option.bind_some]
    rw [slices_Contains_sstring_string_f s (by omega) _ k (by omega)]
    simp only [Option.bind_some]
    show (if refersB (l.getD i z110).f0 = true then (if hasB s (l.getD i z110).f2 = true then _ else (if s.length < 8796093022208 then impl_Fun_refs.l0 k (s ++ [(l.getD i z110).f2]) l (l.length : Int) (wrap64 ((i : Int) + 1)) else none)) else _) = impl_Fun_refs.l0 k (refsAdd (l.getD i z110) s) l (l.length : Int) (wrap64 ((i : Int) + 1))
    rw [if_pos (show s.length < 8796093022208 by omega)]
    unfold refsAdd
    cases refersB (l.getD i z110).f0 <;> cases hasB s (l.getD i z110).f2 <;> rfl
  · intro i s s' hi hs he
    have := refsAdd_len (l.getD i z110) s
    cases he
    omega
  · intro k s _ _
    simp only [impl_Fun_refs.l0]
    rw [if_neg (by omega)]
theorem spec_l2Refs_f (l : List S110) (hn : l.length ≤ 8796093022207) (k : Nat) (hk : 2 * l.length + 5 < k) : spec_l2Refs.f k l = some (refsV l) := by
  unfold spec_l2Refs.f
  refine (loop_run (fun _ x s => (.inl (refsAdd x s) : List ByteArray ⊕ Option (List ByteArray))) (fun _ s => some s) (fun i s => s.length ≤ i) z110 l (by omega) (fun k s i => spec_l2Refs.l0 k l s i) (l.length + 1) ?_ ?_ ?_ k (by omega) [] (by simp)).trans (runS_fold _ l 0 [])
  · intro k i s hK hi hs
    simp only [spec_l2Refs.l0]
    rw [if_pos (by omega), if_pos (by omega), spec_InsRefs_f (rd_T110 l (i : Int)).f0 _ _]
    simp only [Option.bind_some]
    rw [spec_l2Has_f s (by omega) _ k (by omega)]
    simp only [Option.bind_some]
    show (if refersB (l.getD i z110).f0 = true then (if hasB s (l.getD i z110).f2 = true then _ else (if s.length < 8796093022208 then spec_l2Refs.l0 k l (s ++ [(l.getD i z110).f2]) (wrap64 ((i : Int) + 1)) else none)) else _) = spec_l2Refs.l0 k l (refsAdd (l.getD i z110) s) (wrap64 ((i : Int) + 1))
    rw [if_pos (show s.length < 8796093022208 by omega)]
    unfold refsAdd
    cases refersB (l.getD i z110).f0 <;> cases hasB s (l.getD i z110).f2 <;> rfl
  · intro i s s' hi hs he
    have := refsAdd_len (l.getD i z110) s
    cases he
    omega
  · intro k s _ _
    simp only [spec_l2Refs.l0]
    rw [if_neg (by omega)]
end Go.Proofs.Ytppmalfpggkpdaa.L

/- The names that functions lack; when a program is ok. -/
namespace Go.Proofs.Ytppmalfpggkpdaa.L
open Go.RowKit Go.Proofs.YtppmalfpggkpdaaW.PrintWords Go.Proofs.YtppmalfpggkpdaaW.PrintLast Go.Proofs.YtppmalfpggkpdaaW.PrintMore Go.Proofs.Ytppmalfpggkpdaa.P
set_option linter.unusedVariables false
set_option linter.unusedSimpArgs false
/-- Of some names, those that no function of p has. -/
def lackOf (p : List S52) (ns : List ByteArray) : List ByteArray := ns.filter fun a => decide (findI p a < 0)
def lackRaw (p l : List S52) : List ByteArray := l.flatMap fun x => lackOf p (refsV x.f2)
theorem lackOf_len (p : List S52) (ns : List ByteArray) : (lackOf p ns).length ≤ ns.length := List.length_filter_le _ _
def goodRaw (p : List S52) : Bool := p.all fun x => (refsV x.f2).all fun a => !decide (findI p a < 0)
theorem lackRaw_good (p : List S52) : (lackRaw p p).isEmpty = goodRaw p := by
  have key : ∀ l : List S52, (lackRaw p l).isEmpty = l.all fun x => (refsV x.f2).all fun a => !decide (findI p a < 0) := by
    intro l
    induction l with
    | nil => rfl
    | cons x l ih =>
      have e : lackRaw p (x :: l) = lackOf p (refsV x.f2) ++ lackRaw p l := by simp [lackRaw]
      have e2 : ∀ ns : List ByteArray, (lackOf p ns).isEmpty = ns.all fun a => !decide (findI p a < 0) := by
        intro ns
        induction ns with
        | nil => rfl
        | cons a ns ih2 =>
          rw [List.all_cons, ← ih2]
          unfold lackOf
          rw [List.filter_cons]
          cases h : decide (findI p a < 0) with
          | true => simp
          | false => simp
      have e3 : ∀ a b : List ByteArray, (a ++ b).isEmpty = (a.isEmpty && b.isEmpty) := fun a b => by cases a <;> rfl
      rw [e, List.all_cons, ← ih, ← e2, e3]
  exact key p
theorem compact_nil_iff (l : List (List UInt8)) : (Lib.compact l).isEmpty = l.isEmpty := by
  have key : ∀ (d : Array (List UInt8)) (m : Nat), Lib.compactUpTo d (m + 1) ≠ [] := by
    intro d m
    induction m with
    | zero =>
      rw [Lib.compactUpTo_succ]
      have : Lib.keeps d 0 = true := by simp [Lib.keeps]
      rw [if_pos this]
      simp
    | succ m ih =>
      rw [Lib.compactUpTo_succ]
      intro h
      exact ih (List.append_eq_nil_iff.mp h).1
  cases l with
  | nil => rfl
  | cons x l =>
    have := key (x :: l).toArray l.length
    unfold Lib.compact
    cases h : Lib.compactUpTo (x :: l).toArray (x :: l).length with
    | nil => exact absurd h this
    | cons _ _ => rfl
theorem orderedV_nil (l : List ByteArray) : (orderedV l).isEmpty = l.isEmpty := by
  have h1 : ∀ m : List (List UInt8), (textsL m).isEmpty = m.isEmpty := fun m => by cases m <;> rfl
  have h2 : ∀ m : List (List UInt8), (sortV m).isEmpty = m.isEmpty := fun m => by
    have := List.length_mergeSort (le := fun x y => decide (x ≤ y)) m
    cases h : sortV m with
    | nil => unfold sortV at h; rw [h] at this; cases m with
      | nil => rfl
      | cons _ _ => simp at this
    | cons _ _ => unfold sortV at h; rw [h] at this; cases m with
      | nil => simp at this
      | cons _ _ => rfl
  have h3 : (bytesL l).isEmpty = l.isEmpty := by cases l <;> rfl
  unfold orderedV
  rw [h1, compact_nil_iff, h2, h3]
theorem len_isEmpty {α : Type} (l : List α) : (((l.length : Nat) : Int) == 0) = l.isEmpty := by
  cases l with
  | nil => rfl
  | cons x l => simp only [List.length_cons, List.isEmpty_cons, beq_eq_false_iff_ne]; omega
theorem runS_filter {β : Type} (q : ByteArray → Bool) (E : List ByteArray → β) : ∀ (l : List ByteArray) (i : Nat) (s : List ByteArray), runS (fun _ a s => if q a then (.inl (s ++ [a]) : List ByteArray ⊕ β) else .inl s) E l i s = E (s ++ l.filter q)
  | [], _, s => by simp [runS]
  | a :: l, i, s => by
    simp only [runS, List.filter_cons]
    cases h : q a with
    | true => rw [if_pos rfl, if_pos rfl]; simp only; rw [runS_filter q E l (i + 1) (s ++ [a]), List.append_assoc]; rfl
    | false => rw [if_neg (by decide), if_neg (by decide)]; simp only; exact runS_filter q E l (i + 1) s
theorem runS_flat {β : Type} (p : List S52) (E : List ByteArray → β) : ∀ (l : List S52) (i : Nat) (s : List ByteArray), runS (fun _ x s => (.inl (s ++ lackOf p (refsV x.f2)) : List ByteArray ⊕ β)) E l i s = E (s ++ lackRaw p l)
  | [], _, s => by simp [runS, lackRaw]
  | x :: l, i, s => by
    simp only [runS]
    rw [runS_flat p E l (i + 1) _, List.append_assoc]
    rfl
theorem impl_lacking_l1 (p l : List S52) (c j : Int) (ns : List ByteArray) (hn : ns.length ≤ 1000) (s : List ByteArray) (hs : s.length ≤ 1000000) (k : Nat) (hk : ns.length < k) :
    impl_lacking.l1 k p s l c j ns (ns.length : Int) 0 = impl_lacking.l0 (k - ns.length - 1) p (s ++ lackOf p ns) l c (wrap64 (j + 1)) := by
  refine (loop_run (fun _ a s => if decide (findI p a < 0) then (.inl (s ++ [a]) : List ByteArray ⊕ Option (List ByteArray)) else .inl s) (fun k s => impl_lacking.l0 k p s l c (wrap64 (j + 1))) (fun i s => s.length ≤ 1000000 + i) ByteArray.empty ns (by omega) (fun k s i => impl_lacking.l1 k p s l c j ns (ns.length : Int) i) 0 ?_ ?_ ?_ k (by omega) s (by omega)).trans (runS_filter _ _ ns 0 s)
  · intro k i s _ hi hI
    simp only [impl_lacking.l1, impl_find.f]
    rw [if_pos (by omega), if_pos (by omega), if_pos (by omega)]
    simp only [Option.bind_some]
    show (if findI p (ns.getD i ByteArray.empty) < 0 then (if s.length < 8796093022208 then impl_lacking.l1 k p (s ++ [ns.getD i ByteArray.empty]) l c j ns (ns.length : Int) (wrap64 ((i : Int) + 1)) else none) else _) = _
    rw [if_pos (show s.length < 8796093022208 by omega)]
    by_cases h : findI p (ns.getD i ByteArray.empty) < 0
    · rw [if_pos h, if_pos (decide_eq_true h)]
    · rw [if_neg h, if_neg (by rw [decide_eq_false h]; decide)]
  · intro i s s' hi hI he
    split at he
    · cases he; simp only [List.length_append, List.length_cons, List.length_nil]; omega
    · cases he; omega
  · intro k s _ _
    simp only [impl_lacking.l1]
    rw [if_neg (by omega)]
theorem impl_lacking_f (p : List S52) (hn : p.length ≤ 100) (hx : ∀ x ∈ p, x.f2.length ≤ 100) (k : Nat) (hk : 100000 < k) : impl_lacking.f k p = some (orderedV (lackRaw p p)) := by
  unfold impl_lacking.f
  refine (loop_var (fun _ x s => (.inl (s ++ lackOf p (refsV x.f2)) : List ByteArray ⊕ Option (List ByteArray))) (fun s => some (orderedV s)) (fun i s => s.length ≤ 100 * i) z52 p (by omega) (fun k s i => impl_lacking.l0 k p s p (p.length : Int) i) 1000 200 ?_ ?_ k (by omega) [] (by simp)).trans (by rw [runS_flat]; rfl)
  · intro k i s hK hi hs
    have hr := refsV_len (p.getD i z52).f2
    have hx2 := hx _ (getD_mem (d := z52) hi)
    have hl := lackOf_len p (refsV (p.getD i z52).f2)
    simp only
    refine ⟨by rw [List.length_append]; omega, k - (refsV (p.getD i z52).f2).length - 1, by omega, ?_⟩
    simp only [impl_lacking.l0]
    rw [show rd_T52 p (i : Int) = p.getD i z52 from rfl]
    rw [if_pos (by omega), if_pos (by omega), if_pos (by omega), impl_Fun_refs_f _ _ (p.getD i z52).f2 (by omega) k (by omega)]
    simp only [Option.bind_some]
    rw [impl_lacking_l1 p p _ _ _ (by omega) s (by omega) k (by omega)]
  · intro k s _ hs
    simp only [impl_lacking.l0]
    rw [if_neg (by omega)]
    unfold impl_ordered.f
    rw [if_pos (by omega)]
    rfl
theorem unitGood_len {p : List S52} (h : unitGood p = true) : ∀ x ∈ p, x.f2.length ≤ 10 := by
  have key : ∀ (l : List S52) (i : Nat), allFrom (fun i x => funOkB x.f0 x.f2 && (findI p x.f0 == (i : Int))) l i = true → ∀ x ∈ l, x.f2.length ≤ 10 := by
    intro l
    induction l with
    | nil => intro i _ x hx; simp at hx
    | cons y l ih =>
      intro i h x hx
      simp only [allFrom, Bool.and_eq_true] at h
      rcases List.mem_cons.mp hx with rfl | hx
      · exact (funOkB_len h.1.1).2
      · exact ih (i + 1) h.2 x hx
  exact key p 0 h
def keepOkB (p : List S52) : Bool := (decide (1 ≤ (p.length : Int)) && decide ((p.length : Int) ≤ 40)) && (unitGood p && goodRaw p)
theorem impl_KeepOk_f (p : List S52) (hn : p.length ≤ 140737488351232) (hx : ∀ x ∈ p, FitF x) (k : Nat) (hk : 100000 + p.length < k) : impl_KeepOk.f k p = some (keepOkB p) := by
  unfold impl_KeepOk.f keepOkB
  rw [impl_in_f]
  simp only [Option.bind_some]
  cases h1 : decide (1 ≤ (p.length : Int)) && decide ((p.length : Int) ≤ 40) with
  | false => rw [if_neg (by decide)]; rfl
  | true =>
    rw [if_pos rfl, impl_funsOk_f p hn hx k (by omega)]
    simp only [Option.bind_some, Bool.true_and]
    cases h2 : unitGood p with
    | false => rw [if_neg (by decide)]; rfl
    | true =>
      simp only [Bool.and_eq_true, decide_eq_true_eq] at h1
      have h3 := unitGood_len h2
      rw [if_pos rfl, impl_lacking_f p (by omega) (fun x hx => by have := h3 x hx; omega) k (by omega)]
      simp only [Option.bind_some, Bool.true_and]
      rw [len_isEmpty, orderedV_nil, lackRaw_good]
theorem runS_all {β : Type} (q : ByteArray → Bool) (E : β) (F : β) : ∀ (l : List ByteArray) (i : Nat), runS (fun _ a (_ : Unit) => if q a then (.inr F : Unit ⊕ β) else .inl ()) (fun _ => E) l i () = if (l.all fun a => !q a) = true then E else F
  | [], _ => rfl
  | a :: l, i => by
    simp only [runS]
    by_cases h : q a = true
    · rw [if_pos h, show ((a :: l).all fun a => !q a) = false by rw [List.all_cons, h]; rfl]; rfl
    · have h' : q a = false := by simpa using h
      rw [if_neg h, show ((a :: l).all fun a => !q a) = (l.all fun a => !q a) by rw [List.all_cons, h']; rfl]; exact runS_all q E F l (i + 1)
theorem spec_KeepOk_l2 (p : List S52) (hn : p.length ≤ 1000) (j : Int) (ns : List ByteArray) (hl : ns.length ≤ 1000) (k : Nat) (hk : 1001 + ns.length < k) :
    spec_KeepOk.l2 k p j ns 0 = if (ns.all fun a => !decide (findI p a < 0)) = true then spec_KeepOk.l1 (k - ns.length - 1) p (wrap64 (j + 1)) else some false := by
  refine (loop_run (fun _ a (_ : Unit) => if decide (findI p a < 0) then (.inr (some false) : Unit ⊕ Option Bool) else .inl ()) (fun k _ => spec_KeepOk.l1 k p (wrap64 (j + 1))) (fun _ _ => True) ByteArray.empty ns (by omega) (fun k _ i => spec_KeepOk.l2 k p j ns i) 1001 ?_ (fun _ _ _ _ _ _ => trivial) ?_ k (by omega) () trivial).trans (runS_all _ _ _ ns 0)
  · intro k i s hK hi _
    simp only [spec_KeepOk.l2]
    rw [if_pos (by omega), if_pos (by omega), spec_l2Find_f p (by omega) _ k (by omega)]
    simp only [Option.bind_some]
    show (if findI p (ns.getD i ByteArray.empty) < 0 then _ else _) = _
    by_cases h : findI p (ns.getD i ByteArray.empty) < 0
    · rw [if_pos h, if_pos (decide_eq_true h)]
    · rw [if_neg h, if_neg (by rw [decide_eq_false h]; decide)]
  · intro k s _ _
    simp only [spec_KeepOk.l2]
    rw [if_neg (by omega)]
theorem runS_allF {β : Type} (q : S52 → Bool) (E : β) (F : β) : ∀ (l : List S52) (i : Nat), runS (fun _ a (_ : Unit) => if q a then (.inl () : Unit ⊕ β) else .inr F) (fun _ => E) l i () = if l.all q = true then E else F
  | [], _ => rfl
  | a :: l, i => by
    simp only [runS]
    by_cases h : q a = true
    · rw [if_pos h, show (a :: l).all q = l.all q by rw [List.all_cons, h]; rfl]; exact runS_allF q E F l (i + 1)
    · have h' : q a = false := by simpa using h
      rw [if_neg h, show (a :: l).all q = false by rw [List.all_cons, h']; rfl]; rfl
theorem spec_KeepOk_l1 (p : List S52) (hn : p.length ≤ 1000) (hx : ∀ x ∈ p, x.f2.length ≤ 10) (k : Nat) (hk : 200000 < k) : spec_KeepOk.l1 k p 0 = some (goodRaw p) := by
  refine (loop_var (fun _ x (_ : Unit) => if (refsV x.f2).all (fun a => !decide (findI p a < 0)) then (.inl () : Unit ⊕ Option Bool) else .inr (some false)) (fun _ => some true) (fun _ _ => True) z52 p (by omega) (fun k _ i => spec_KeepOk.l1 k p i) 2000 100 ?_ ?_ k (by omega) () trivial).trans ?_
  · intro k i s hK hi _
    have hr := refsV_len (p.getD i z52).f2
    have hx2 := hx _ (getD_mem (d := z52) hi)
    have e : spec_KeepOk.l1 (k + 1) p (i : Int) = if ((refsV (p.getD i z52).f2).all fun a => !decide (findI p a < 0)) = true then spec_KeepOk.l1 (k - (refsV (p.getD i z52).f2).length - 1) p (wrap64 ((i : Int) + 1)) else some false := by
      simp only [spec_KeepOk.l1]
      rw [show rd_T52 p (i : Int) = p.getD i z52 from rfl]
      rw [if_pos (by omega), if_pos (by omega), spec_l2Refs_f (p.getD i z52).f2 (by omega) k (by omega)]
      simp only [Option.bind_some]
      rw [spec_KeepOk_l2 p hn _ _ (by omega) k (by omega)]
    simp only [e]
    cases h : (refsV (p.getD i z52).f2).all fun a => !decide (findI p a < 0) with
    | true => exact ⟨trivial, k - (refsV (p.getD i z52).f2).length - 1, by omega, rfl⟩
    | false => rfl
  · intro k s _ _
    simp only [spec_KeepOk.l1]
    rw [if_neg (by omega)]
  · rw [runS_allF]
    unfold goodRaw
    split
    · rename_i h; rw [h]
    · rename_i h; rw [Bool.not_eq_true] at h; rw [h]
theorem spec_KeepOk_f (p : List S52) (hn : p.length ≤ 140737488351232) (hx : ∀ x ∈ p, FitF x) (k : Nat) (hk : 1000000000000000 ≤ k) : spec_KeepOk.f k p = some (keepOkB p) := by
  obtain ⟨m, rfl⟩ : ∃ m, k = m + 1 := ⟨k - 1, by omega⟩
  have hj (b : Bool) : spec_KeepOk.j0 (m + 1) p b = if b = true then some false else spec_KeepOk.l0 m p 0 := by simp only [spec_KeepOk.j0]
  unfold spec_KeepOk.f keepOkB
  rw [hj, hj]
  by_cases h1 : (p.length : Int) < 1
  · rw [if_pos h1, if_pos rfl, decide_eq_false (by omega)]; rfl
  · rw [if_neg h1, decide_eq_true (show 1 ≤ (p.length : Int) by omega)]
    by_cases h2 : (p.length : Int) > 40
    · rw [if_pos (decide_eq_true h2), decide_eq_false (show ¬ (p.length : Int) ≤ 40 by omega)]; rfl
    · rw [if_neg (by rw [decide_eq_false h2]; decide), decide_eq_true (show (p.length : Int) ≤ 40 by omega)]
      simp only [Bool.true_and]
      have e := loop_run (fun i x (_ : Unit) => if funOkB x.f0 x.f2 && (findI p x.f0 == (i : Int)) then (.inl () : Unit ⊕ Option Bool) else .inr (some false)) (fun k _ => spec_KeepOk.l1 k p 0) (fun _ _ => True) z52 p (by omega) (fun k _ i => spec_KeepOk.l0 k p i) 300000000000000 ?_ (fun _ _ _ _ _ _ => trivial) ?_ m (by omega) () trivial
      · rw [e]
        have key : ∀ (l : List S52) (i : Nat) (E : Option Bool), runS (fun i x (_ : Unit) => if funOkB x.f0 x.f2 && (findI p x.f0 == (i : Int)) then (.inl () : Unit ⊕ Option Bool) else .inr (some false)) (fun _ => E) l i () = if allFrom (fun i x => funOkB x.f0 x.f2 && (findI p x.f0 == (i : Int))) l i = true then E else some false := by
          intro l
          induction l with
          | nil => intro i E; rfl
          | cons x l ih =>
            intro i E
            simp only [runS]
            by_cases h : (funOkB x.f0 x.f2 && (findI p x.f0 == (i : Int))) = true
            · rw [if_pos h, show allFrom (fun i x => funOkB x.f0 x.f2 && (findI p x.f0 == (i : Int))) (x :: l) i = allFrom (fun i x => funOkB x.f0 x.f2 && (findI p x.f0 == (i : Int))) l (i + 1) by simp only [allFrom, h, Bool.true_and]]; exact ih (i + 1) E
            · have h' : (funOkB x.f0 x.f2 && (findI p x.f0 == (i : Int))) = false := Bool.eq_false_iff.mpr h
              rw [if_neg h, show allFrom (fun i x => funOkB x.f0 x.f2 && (findI p x.f0 == (i : Int))) (x :: l) i = false by simp only [allFrom, h', Bool.false_and]]; rfl
        rw [key p 0 _]
        show (if unitGood p = true then _ else _) = _
        cases h3 : unitGood p with
        | false => rfl
        | true =>
          rw [if_pos rfl, spec_KeepOk_l1 p (by omega) (unitGood_len h3) _ (by omega)]
          rfl
      · intro k i s hK hi _
        have hf := hx _ (getD_mem (d := z52) hi)
        simp only [spec_KeepOk.l0]
        rw [if_pos (by omega), if_pos (by omega), spec_FunOk_f (rd_T52 p (i : Int)) hf k (by have := hf.2.1; have e9 : rd_T52 p (i : Int) = p.getD i z52 := rfl; rw [e9]; omega)]
        simp only [Option.bind_some]
        show (if funOkB (p.getD i z52).f0 (p.getD i z52).f2 = true then _ else _) = _
        cases h3 : funOkB (p.getD i z52).f0 (p.getD i z52).f2 with
        | false => rw [if_neg (by decide)]; rfl
        | true =>
          rw [if_pos rfl, spec_l2Find_f p (by omega) _ k (by omega)]
          simp only [Option.bind_some, Bool.true_and]
          show (if findI p (p.getD i z52).f0 = (i : Int) then _ else _) = _
          by_cases hq : findI p (p.getD i z52).f0 = (i : Int)
          · rw [if_pos hq, if_pos (beq_iff_eq.mpr hq)]
          · rw [if_neg hq, if_neg (by rw [beq_eq_false_iff_ne.mpr hq]; decide)]
      · intro k s _ _
        simp only [spec_KeepOk.l0]
        rw [if_neg (by omega)]
end Go.Proofs.Ytppmalfpggkpdaa.L

/- Ways in a graph whose steps bring nothing or one: the most that a way from the first place brings. -/
namespace Go.Proofs.Ytppmalfpggkpdaa.L
set_option linter.unusedVariables false
/-- A way of so many steps, of so much. -/
inductive Wk (E : Nat → Nat → Nat → Prop) : Nat → Nat → Nat → Nat → Prop
  | nil (i : Nat) : Wk E i i 0 0
  | snoc {i j k m w v : Nat} : Wk E i j m w → E j k v → Wk E i k (m + 1) (w + v)
theorem Wk.one {E : Nat → Nat → Nat → Prop} {j k v : Nat} (h : E j k v) : Wk E j k 1 v := by
  have := Wk.snoc (Wk.nil (E := E) j) h
  rwa [Nat.zero_add, Nat.zero_add] at this
theorem Wk.app {E : Nat → Nat → Nat → Prop} {i j k m m' w w' : Nat} (h : Wk E i j m w) (h' : Wk E j k m' w') : Wk E i k (m + m') (w + w') := by
  induction h' with
  | nil => exact h
  | snoc _ e ih => rw [← Nat.add_assoc, ← Nat.add_assoc]; exact ih.snoc e
theorem Wk.lt {E : Nat → Nat → Nat → Prop} {n : Nat} (hE : ∀ i j w, E i j w → j < n) {i j m w : Nat} (h : Wk E i j m w) (hi : i < n) : j < n := by
  cases h with
  | nil => exact hi
  | snoc _ e => exact hE _ _ _ e
theorem Wk.le {E : Nat → Nat → Nat → Prop} (hE : ∀ i j w, E i j w → w ≤ 1) {i j m w : Nat} (h : Wk E i j m w) : w ≤ m := by
  induction h with
  | nil => omega
  | snoc _ e ih => have := hE _ _ _ e; omega
theorem pigeon : ∀ (n : Nat) (f : Nat → Nat), (∀ i, i ≤ n → f i < n) → ∃ i j, i < j ∧ j ≤ n ∧ f i = f j := by
  intro n
  induction n with
  | zero => intro f h; exact absurd (h 0 (Nat.le_refl 0)) (Nat.not_lt_zero _)
  | succ n ih =>
    intro f h
    by_cases hx : ∃ i, i ≤ n ∧ f i = f (n + 1)
    · obtain ⟨i, hi, e⟩ := hx
      exact ⟨i, n + 1, by omega, Nat.le_refl _, e⟩
    · have hn : ∀ i, i ≤ n → f i ≠ f (n + 1) := fun i hi e => hx ⟨i, hi, e⟩
      obtain ⟨i, j, h1, h2, e⟩ := ih (fun i => if f i = n then f (n + 1) else f i) (by
        intro i hi
        have a := h i (by omega)
        have b := h (n + 1) (Nat.le_refl _)
        have c := hn i hi
        show (if f i = n then f (n + 1) else f i) < n
        by_cases hc : f i = n
        · rw [if_pos hc]; omega
        · rw [if_neg hc]; omega)
      refine ⟨i, j, h1, by omega, ?_⟩
      have a := hn i (by omega)
      have b := hn j (by omega)
      have e' : (if f i = n then f (n + 1) else f i) = (if f j = n then f (n + 1) else f j) := e
      by_cases ci : f i = n
      · by_cases cj : f j = n
        · omega
        · rw [if_pos ci, if_neg cj] at e'; omega
      · by_cases cj : f j = n
        · rw [if_neg ci, if_pos cj] at e'; omega
        · rw [if_neg ci, if_neg cj] at e'; exact e'
theorem Wk.nodes {E : Nat → Nat → Nat → Prop} {i j m w : Nat} (h : Wk E i j m w) : ∃ f : Nat → Nat, f 0 = i ∧ f m = j ∧ ∀ a b, a ≤ b → b ≤ m → ∃ wa wb wc, Wk E i (f a) a wa ∧ Wk E (f a) (f b) (b - a) wb ∧ Wk E (f b) j (m - b) wc ∧ wa + wb + wc = w := by
  induction h with
  | nil =>
    refine ⟨fun _ => i, rfl, rfl, fun a b hab hb => ?_⟩
    obtain rfl : a = 0 := by omega
    obtain rfl : b = 0 := by omega
    exact ⟨0, 0, 0, .nil _, .nil _, .nil _, rfl⟩
  | @snoc j k m w v h0 e ih =>
    obtain ⟨f, f0, fm, hf⟩ := ih
    have gl : ∀ a, a ≤ m → (fun a => if a ≤ m then f a else k) a = f a := fun a ha => if_pos ha
    have gr : (fun a => if a ≤ m then f a else k) (m + 1) = k := if_neg (by omega)
    refine ⟨fun a => if a ≤ m then f a else k, (gl 0 (by omega)).trans f0, gr, fun a b hab hb => ?_⟩
    by_cases hbm : b ≤ m
    · obtain ⟨wa, wb, wc, h1, h2, h3, hs⟩ := hf a b hab hbm
      rw [gl a (by omega), gl b hbm]
      refine ⟨wa, wb, wc + v, h1, h2, ?_, by omega⟩
      have := h3.snoc e
      rwa [show m - b + 1 = m + 1 - b by omega] at this
    · obtain rfl : b = m + 1 := by omega
      rw [gr]
      by_cases ham : a ≤ m
      · obtain ⟨wa, wb, wc, h1, h2, h3, hs⟩ := hf a a (Nat.le_refl _) ham
        rw [gl a ham]
        have h4 := h3.snoc e
        rw [show m - a + 1 = m + 1 - a by omega] at h4
        have hz : wb = 0 := by
          rw [Nat.sub_self] at h2
          cases h2
          rfl
        exact ⟨wa, wc + v, 0, h1, h4, by rw [Nat.sub_self]; exact .nil _, by omega⟩
      · obtain rfl : a = m + 1 := by omega
        rw [gr]
        exact ⟨w + v, 0, 0, h0.snoc e, by rw [Nat.sub_self]; exact .nil _, by rw [Nat.sub_self]; exact .nil _, rfl⟩
theorem Wk.times {E : Nat → Nat → Nat → Prop} {c b v : Nat} (h : Wk E c c b v) : ∀ q, Wk E c c (q * b) (q * v) := by
  intro q
  induction q with
  | zero => rw [Nat.zero_mul, Nat.zero_mul]; exact .nil _
  | succ q ih => rw [Nat.succ_mul, Nat.succ_mul]; exact ih.app h
/-- Of a way that has as many steps as there are places, a round can be told. -/
theorem Wk.lasso {E : Nat → Nat → Nat → Prop} {n : Nat} (hE : ∀ i j w, E i j w → j < n) {i j m w : Nat} (h : Wk E i j m w) (hi : i < n) (hm : n ≤ m) :
    ∃ c a b wa wb wc, Wk E i c a wa ∧ Wk E c c b wb ∧ Wk E c j (m - a - b) wc ∧ 1 ≤ b ∧ a + b ≤ n ∧ wa + wb + wc = w := by
  obtain ⟨f, _, _, hf⟩ := h.nodes
  obtain ⟨a, b, h1, h2, e⟩ := pigeon n f (fun a ha => by
    obtain ⟨_, _, _, h1, _, _, _⟩ := hf a a (Nat.le_refl _) (by omega)
    exact h1.lt hE hi)
  obtain ⟨wa, wb, wc, h3, h4, h5, hs⟩ := hf a b (by omega) (by omega)
  rw [← e] at h4 h5
  refine ⟨f a, a, b - a, wa, wb, wc, h3, h4, ?_, by omega, by omega, hs⟩
  rwa [show m - a - (b - a) = m - b by omega]
/-- Either all ways are short in what they bring, or one of few steps brings more than there are places. -/
theorem Wk.short {E : Nat → Nat → Nat → Prop} {n : Nat} (hE : ∀ i j w, E i j w → j < n) {i : Nat} (hi : i < n) :
    (∀ j m w, Wk E i j m w → ∃ m', m' < n ∧ Wk E i j m' w) ∨ ((∃ j m w, m ≤ 2 * n * n + n + 2 ∧ n < w ∧ Wk E i j m w) ∧ ∀ q, ∃ j m w, q ≤ w ∧ Wk E i j m w) := by
  by_cases hp : ∃ c a b wa wb, Wk E i c a wa ∧ Wk E c c b wb ∧ a + b ≤ n ∧ 1 ≤ wb
  · refine .inr ?_
    obtain ⟨c, a, b, wa, wb, h1, h2, h3, h4⟩ := hp
    refine ⟨⟨c, a + (n + 1) * b, wa + (n + 1) * wb, ?_, ?_, h1.app (h2.times (n + 1))⟩, fun q => ⟨c, a + q * b, wa + q * wb, ?_, h1.app (h2.times q)⟩⟩
    rotate_left 2
    · have : q * 1 ≤ q * wb := Nat.mul_le_mul_left _ h4
      omega
    · by_cases hb : b = n
      · subst hb
        rw [show (b + 1) * b = b * b + b by rw [Nat.succ_mul], show 2 * b * b = b * b + b * b by rw [Nat.mul_assoc, Nat.two_mul]]
        omega
      · have h5 : (n + 1) * b ≤ (n + 1) * (n - 1) := Nat.mul_le_mul_left _ (by omega)
        have h6 : (n + 1) * (n - 1) + 1 ≤ n * n + 1 := by
          obtain ⟨k, rfl⟩ : ∃ k, n = k + 1 := ⟨n - 1, by omega⟩
          rw [Nat.add_sub_cancel, Nat.succ_mul (k + 1) k, Nat.mul_succ]
          omega
        have h7 : 2 * n * n = n * n + n * n := by rw [Nat.mul_assoc, Nat.two_mul]
        omega
    · have : (n + 1) * 1 ≤ (n + 1) * wb := Nat.mul_le_mul_left _ h4
      omega
  · refine .inl ?_
    intro j m
    induction m using Nat.strongRecOn generalizing j with
    | ind m ih =>
      intro w h
      by_cases hm : m < n
      · exact ⟨m, hm, h⟩
      obtain ⟨c, a, b, wa, wb, wc, h1, h2, h3, h4, h5, hs⟩ := h.lasso hE hi (by omega)
      have hz : wb = 0 := by
        by_cases hz : wb = 0
        · exact hz
        · exact absurd ⟨c, a, b, wa, wb, h1, h2, h5, by omega⟩ hp
      have h6 := h1.app h3
      rw [show wa + wc = w by omega] at h6
      exact ih (a + (m - a - b)) (by omega) j w h6
theorem Wk.zero {E : Nat → Nat → Nat → Prop} {i j m w : Nat} (h : Wk E i j m w) : m = 0 → i = j ∧ w = 0 := by
  intro hm
  cases h with
  | nil => exact ⟨rfl, rfl⟩
  | snoc => omega
theorem Wk.front {E : Nat → Nat → Nat → Prop} {i j m w : Nat} (h : Wk E i j m w) : m = 0 ∨ ∃ k v w', E i k v ∧ Wk E k j (m - 1) w' ∧ w = v + w' := by
  induction h with
  | nil => exact .inl rfl
  | @snoc j k m w v h0 e ih =>
    refine .inr ?_
    by_cases hm : m = 0
    · obtain ⟨rfl, rfl⟩ := h0.zero hm
      subst hm
      exact ⟨_, _, 0, e, .nil _, by omega⟩
    · obtain ⟨k', v', w', h1, h2, h4⟩ := ih.resolve_left hm
      have h3 := h2.snoc e
      rw [show m - 1 + 1 = m + 1 - 1 by omega] at h3
      exact ⟨k', v', w' + v, h1, h3, by omega⟩
/-- What the places hold: the most that a way of so many steps from the first one brings. -/
structure Held (E : Nat → Nat → Nat → Prop) (n r : Nat) (d : List Int) : Prop where
  len : d.length = n
  way : ∀ k, k < n → 0 ≤ d.getD k 0 → ∃ m, Wk E 0 k m (d.getD k 0).toNat
  most : ∀ k m w, m ≤ r → Wk E 0 k m w → (w : Int) ≤ d.getD k 0
def rlx (d : List Int) (e : Nat × Nat × Nat) : List Int := if 0 ≤ d.getD e.1 0 ∧ d.getD e.2.1 0 < d.getD e.1 0 + (e.2.2 : Int) then d.set e.2.1 (d.getD e.1 0 + (e.2.2 : Int)) else d
theorem rlx_len (d : List Int) (e : Nat × Nat × Nat) : (rlx d e).length = d.length := by
  unfold rlx; split
  · rw [List.length_set]
  · rfl
theorem rlx_get (d : List Int) (e : Nat × Nat × Nat) (k : Nat) : d.getD k 0 ≤ (rlx d e).getD k 0 ∧ ((rlx d e).getD k 0 = d.getD k 0 ∨ (k = e.2.1 ∧ 0 ≤ d.getD e.1 0 ∧ (rlx d e).getD k 0 = d.getD e.1 0 + (e.2.2 : Int))) := by
  unfold rlx
  by_cases h : 0 ≤ d.getD e.1 0 ∧ d.getD e.2.1 0 < d.getD e.1 0 + (e.2.2 : Int)
  · rw [if_pos h]
    by_cases hk : k = e.2.1
    · subst hk
      by_cases hl : e.2.1 < d.length
      · have : (d.set e.2.1 (d.getD e.1 0 + (e.2.2 : Int))).getD e.2.1 0 = d.getD e.1 0 + (e.2.2 : Int) := by
          rw [List.getD_eq_getElem?_getD, List.getElem?_set_self hl]; rfl
        rw [this]
        exact ⟨by omega, .inr ⟨rfl, h.1, rfl⟩⟩
      · rw [List.set_eq_of_length_le (by omega)]
        exact ⟨by omega, .inl rfl⟩
    · have : (d.set e.2.1 (d.getD e.1 0 + (e.2.2 : Int))).getD k 0 = d.getD k 0 := by
        simp only [List.getD_eq_getElem?_getD]; rw [List.getElem?_set_ne (by omega)]
      rw [this]
      exact ⟨by omega, .inl rfl⟩
  · rw [if_neg h]
    exact ⟨by omega, .inl rfl⟩
theorem rlx_edge (d : List Int) (e : Nat × Nat × Nat) (hl : e.2.1 < d.length) (h : 0 ≤ d.getD e.1 0) : d.getD e.1 0 + (e.2.2 : Int) ≤ (rlx d e).getD e.2.1 0 := by
  unfold rlx
  by_cases hc : 0 ≤ d.getD e.1 0 ∧ d.getD e.2.1 0 < d.getD e.1 0 + (e.2.2 : Int)
  · rw [if_pos hc]
    have : (d.set e.2.1 (d.getD e.1 0 + (e.2.2 : Int))).getD e.2.1 0 = d.getD e.1 0 + (e.2.2 : Int) := by
      rw [List.getD_eq_getElem?_getD, List.getElem?_set_self hl]; rfl
    rw [this]
    exact Int.le_refl _
  · rw [if_neg hc]; omega
def rnd (es : List (Nat × Nat × Nat)) (d : List Int) : List Int := es.foldl rlx d
theorem rnd_len (es : List (Nat × Nat × Nat)) : ∀ d : List Int, (rnd es d).length = d.length := by
  induction es with
  | nil => intro d; rfl
  | cons e es ih => intro d; exact (ih (rlx d e)).trans (rlx_len d e)
theorem rnd_ge (es : List (Nat × Nat × Nat)) : ∀ (d : List Int) (k : Nat), d.getD k 0 ≤ (rnd es d).getD k 0 := by
  induction es with
  | nil => intro d k; exact Int.le_refl _
  | cons e es ih => intro d k; exact Int.le_trans (rlx_get d e k).1 (ih (rlx d e) k)
theorem rnd_edge (es : List (Nat × Nat × Nat)) : ∀ (d : List Int) (e : Nat × Nat × Nat), e ∈ es → e.2.1 < d.length → 0 ≤ d.getD e.1 0 → d.getD e.1 0 + (e.2.2 : Int) ≤ (rnd es d).getD e.2.1 0 := by
  induction es with
  | nil => intro d e h; cases h
  | cons x es ih =>
    intro d e h hl h0
    rcases List.mem_cons.mp h with rfl | h
    · exact Int.le_trans (rlx_edge d e hl h0) (rnd_ge es _ _)
    · have g := (rlx_get d x e.1).1
      have := ih (rlx d x) e h (by rw [rlx_len]; exact hl) (by omega)
      exact Int.le_trans (by omega) this
theorem rnd_way {E : Nat → Nat → Nat → Prop} {n : Nat} (es : List (Nat × Nat × Nat)) (hes : ∀ e ∈ es, E e.1 e.2.1 e.2.2) (hn : ∀ i j w, E i j w → i < n) :
    ∀ d : List Int, (∀ k, k < n → 0 ≤ d.getD k 0 → ∃ m, Wk E 0 k m (d.getD k 0).toNat) → ∀ k, k < n → 0 ≤ (rnd es d).getD k 0 → ∃ m, Wk E 0 k m ((rnd es d).getD k 0).toNat := by
  induction es with
  | nil => intro d h; exact h
  | cons e es ih =>
    intro d h
    refine ih (fun x hx => hes x (List.mem_cons_of_mem _ hx)) (rlx d e) (fun k hk h0 => ?_)
    rcases (rlx_get d e k).2 with hg | ⟨rfl, h1, hg⟩
    · rw [hg] at h0 ⊢; exact h k hk h0
    · have he := hes e List.mem_cons_self
      obtain ⟨m, hw⟩ := h e.1 (hn _ _ _ he) h1
      refine ⟨m + 1, ?_⟩
      rw [hg, show (d.getD e.1 0 + (e.2.2 : Int)).toNat = (d.getD e.1 0).toNat + e.2.2 by omega]
      exact hw.snoc he
theorem rnd_held {E : Nat → Nat → Nat → Prop} {n r : Nat} {es : List (Nat × Nat × Nat)} (hE : ∀ i j w, E i j w ↔ (i, j, w) ∈ es) (hn : ∀ i j w, E i j w → i < n ∧ j < n) {d : List Int} (h : Held E n r d) : Held E n (r + 1) (rnd es d) where
  len := (rnd_len es d).trans h.len
  way := rnd_way es (fun e he => (hE _ _ _).mpr he) (fun i j w he => (hn i j w he).1) d h.way
  most := by
    intro k m w hm hw
    cases hw with
    | nil => exact Int.le_trans (h.most _ 0 0 (Nat.zero_le _) (.nil _)) (rnd_ge es d _)
    | @snoc j _ m w v h0 e =>
      have h1 := h.most j m w (by omega) h0
      have h2 := rnd_edge es d (j, k, v) ((hE _ _ _).mp e) (by rw [h.len]; exact (hn _ _ _ e).2) (by show 0 ≤ d.getD j 0; omega)
      have h3 : d.getD j 0 + (v : Int) ≤ (rnd es d).getD k 0 := h2
      omega
theorem held_fix {E : Nat → Nat → Nat → Prop} {n r : Nat} {es : List (Nat × Nat × Nat)} (hE : ∀ i j w, E i j w ↔ (i, j, w) ∈ es) (hn : ∀ i j w, E i j w → i < n ∧ j < n) {d : List Int} (h : Held E n r d) (hf : rnd es d = d) : ∀ r', Held E n r' d := by
  intro r'
  induction r' with
  | zero => exact ⟨h.len, h.way, fun k m w hm hw => h.most k m w (by omega) hw⟩
  | succ r' ih => have := rnd_held hE hn ih; rwa [hf] at this
/-- The rounds: what the places hold when nothing changes any more. -/
def rnds (es : List (Nat × Nat × Nat)) : Nat → List Int → Option (List Int)
  | 0, _ => none
  | r + 1, d => if rnd es d = d then some d else rnds es r (rnd es d)
theorem ext_getD {a b : List Int} (hl : a.length = b.length) (h : ∀ k, k < b.length → a.getD k 0 = b.getD k 0) : a = b := by
  apply List.ext_getElem hl
  intro i h1 h2
  have := h i h2
  rw [List.getD_eq_getElem?_getD, List.getD_eq_getElem?_getD, List.getElem?_eq_getElem h1, List.getElem?_eq_getElem h2] at this
  exact this
theorem rnds_some {E : Nat → Nat → Nat → Prop} {n : Nat} {es : List (Nat × Nat × Nat)} (hE : ∀ i j w, E i j w ↔ (i, j, w) ∈ es) (hn : ∀ i j w, E i j w → i < n ∧ j < n) (hs : ∀ j m w, Wk E 0 j m w → ∃ m', m' < n ∧ Wk E 0 j m' w) :
    ∀ (q r : Nat) (d : List Int), Held E n r d → n ≤ r + q → ∃ x, rnds es (q + 1) d = some x ∧ ∀ r', Held E n r' x := by
  intro q
  induction q with
  | zero =>
    intro r d h hq
    have h' : ∀ k w m, Wk E 0 k m w → (w : Int) ≤ d.getD k 0 := fun k w m hw => by
      obtain ⟨m', hm, hw'⟩ := hs k m w hw
      exact h.most k m' w (by omega) hw'
    have hr := rnd_held hE hn h
    have hf : rnd es d = d := by
      refine ext_getD (rnd_len es d) (fun k hk => ?_)
      have h1 := rnd_ge es d k
      by_cases h0 : 0 ≤ (rnd es d).getD k 0
      · obtain ⟨m, hw⟩ := hr.way k (by rw [← h.len]; exact hk) h0
        have := h' k _ m hw
        omega
      · by_cases h2 : (rnd es d).getD k 0 = d.getD k 0
        · exact h2
        · exfalso
          have : ∀ (es : List (Nat × Nat × Nat)) (d : List Int), (rnd es d).getD k 0 = d.getD k 0 ∨ 0 ≤ (rnd es d).getD k 0 := by
            intro es
            induction es with
            | nil => intro d; exact .inl rfl
            | cons e es ih =>
              intro d
              have g := rnd_ge es (rlx d e) k
              rcases (rlx_get d e k).2 with hg | ⟨_, h3, hg⟩
              · rcases ih (rlx d e) with h4 | h4
                · exact .inl (h4.trans hg)
                · exact .inr h4
              · exact .inr (Int.le_trans (by omega) g)
          rcases this es d with h3 | h3
          · exact h2 h3
          · exact h0 h3
    refine ⟨d, by unfold rnds; rw [if_pos hf], held_fix hE hn h hf⟩
  | succ q ih =>
    intro r d h hq
    by_cases hf : rnd es d = d
    · exact ⟨d, by unfold rnds; rw [if_pos hf], held_fix hE hn h hf⟩
    · obtain ⟨x, h1, h2⟩ := ih (r + 1) (rnd es d) (rnd_held hE hn h) (by omega)
      exact ⟨x, by unfold rnds; rw [if_neg hf]; exact h1, h2⟩
theorem rnds_held {E : Nat → Nat → Nat → Prop} {n : Nat} {es : List (Nat × Nat × Nat)} (hE : ∀ i j w, E i j w ↔ (i, j, w) ∈ es) (hn : ∀ i j w, E i j w → i < n ∧ j < n) :
    ∀ (q r : Nat) (d x : List Int), Held E n r d → rnds es q d = some x → ∀ r', Held E n r' x := by
  intro q
  induction q with
  | zero => intro r d x _ h; cases h
  | succ q ih =>
    intro r d x h e
    unfold rnds at e
    by_cases hf : rnd es d = d
    · rw [if_pos hf] at e
      obtain rfl := Option.some.inj e
      exact held_fix hE hn h hf
    · rw [if_neg hf] at e
      exact ih (r + 1) _ x (rnd_held hE hn h) e
/-- What comes behind what is held. -/
structure IsUp (E : Nat → Nat → Nat → Prop) (n : Nat) (d x : List Int) : Prop where
  len : x.length = n
  nonneg : ∀ i, i < n → 0 ≤ x.getD i 0
  from_ : ∀ i, i < n → x.getD i 0 = 0 ∨ ∃ t w, E i t w ∧ x.getD i 0 = d.getD t 0 + (w : Int)
  all : ∀ i t w, E i t w → d.getD t 0 + (w : Int) ≤ x.getD i 0
structure Top (E : Nat → Nat → Nat → Prop) (n r : Nat) (d : List Int) : Prop where
  len : d.length = n
  nonneg : ∀ i, i < n → 0 ≤ d.getD i 0
  way : ∀ i, i < n → ∃ j m, m ≤ r ∧ Wk E i j m (d.getD i 0).toNat
  most : ∀ i j m w, i < n → m ≤ r → Wk E i j m w → (w : Int) ≤ d.getD i 0
theorem top_up {E : Nat → Nat → Nat → Prop} {n r : Nat} (hn : ∀ i j w, E i j w → i < n ∧ j < n) {d x : List Int} (h : Top E n r d) (hx : IsUp E n d x) : Top E n (r + 1) x where
  len := hx.len
  nonneg := hx.nonneg
  way := by
    intro i hi
    rcases hx.from_ i hi with h0 | ⟨t, w, he, h0⟩
    · rw [h0]; exact ⟨i, 0, by omega, .nil _⟩
    · obtain ⟨j, m, hm, hw⟩ := h.way t (hn _ _ _ he).2
      have h1 := h.nonneg t (hn _ _ _ he).2
      refine ⟨j, 1 + m, by omega, ?_⟩
      rw [h0, show (d.getD t 0 + (w : Int)).toNat = w + (d.getD t 0).toNat by omega]
      exact (Wk.one he).app hw
  most := by
    intro i j m w hi hm hw
    rcases hw.front with rfl | ⟨k, v, w', he, h1, rfl⟩
    · obtain ⟨_, rfl⟩ := hw.zero rfl
      exact hx.nonneg i hi
    · have h2 := h.most k j (m - 1) w' (hn _ _ _ he).2 (by omega) h1
      have h3 := hx.all i k v he
      omega
theorem top_fix {E : Nat → Nat → Nat → Prop} {n r : Nat} (hn : ∀ i j w, E i j w → i < n ∧ j < n) {d : List Int} (h : Top E n r d) (hx : IsUp E n d d) : ∀ i j m w, i < n → Wk E i j m w → (w : Int) ≤ d.getD i 0 := by
  intro i j m
  induction m generalizing i with
  | zero =>
    intro w hi hw
    obtain ⟨_, rfl⟩ := hw.zero rfl
    exact h.nonneg i hi
  | succ m ih =>
    intro w hi hw
    obtain ⟨k, v, w', he, h1, rfl⟩ := hw.front.resolve_left (by omega)
    have h2 := ih k w' (hn _ _ _ he).2 h1
    have h3 := hx.all i k v he
    omega
def ups (up : List Int → List Int) : Nat → List Int → Bool × List Int
  | 0, d => (false, d)
  | k + 1, d => if up d = d then (true, d) else ups up k (up d)
theorem ups_top {E : Nat → Nat → Nat → Prop} {n : Nat} (hn : ∀ i j w, E i j w → i < n ∧ j < n) (up : List Int → List Int) (hup : ∀ d, d.length = n → IsUp E n d (up d)) :
    ∀ (k r : Nat) (d : List Int), Top E n r d → (∃ r', Top E n r' (ups up k d).2) ∧ ((ups up k d).1 = true → ∀ i j m w, i < n → Wk E i j m w → (w : Int) ≤ (ups up k d).2.getD i 0) ∧ ((ups up k d).1 = false → Top E n (r + k) (ups up k d).2) := by
  intro k
  induction k with
  | zero => intro r d h; exact ⟨⟨r, h⟩, fun e => absurd e (by unfold ups; exact Bool.false_ne_true), fun _ => h⟩
  | succ k ih =>
    intro r d h
    have hx := hup d h.len
    by_cases hc : up d = d
    · have e : ups up (k + 1) d = (true, d) := by unfold ups; rw [if_pos hc]
      rw [e]
      rw [hc] at hx
      exact ⟨⟨r, h⟩, fun _ => top_fix hn h hx, fun e => absurd e (by exact fun h => Bool.noConfusion h)⟩
    · have e : ups up (k + 1) d = ups up k (up d) := by rw [ups, if_neg hc]
      rw [e, show r + (k + 1) = r + 1 + k by omega]
      exact ih (r + 1) (up d) (top_up hn h hx)
/-- The longest way's count, found from the first place on and from all places at once. -/
theorem deep_eq {E : Nat → Nat → Nat → Prop} {n : Nat} {es : List (Nat × Nat × Nat)} (hE : ∀ i j w, E i j w ↔ (i, j, w) ∈ es) (hn : ∀ i j w, E i j w → i < n ∧ j < n) (hw : ∀ i j w, E i j w → w ≤ 1) (h0 : 0 < n)
    (up : List Int → List Int) (hup : ∀ d, d.length = n → IsUp E n d (up d)) (d0 : List Int) (hd : Held E n 0 d0) (z0 : List Int) (hz : Top E n 0 z0) (mx : List Int → Int)
    (hmx : ∀ x : List Int, x.length = n → (∃ k, k < n ∧ mx x = x.getD k 0) ∧ ∀ k, k < n → x.getD k 0 ≤ mx x) :
    (match rnds es (n + 1) d0 with | none => -1 | some x => mx x) = (if (ups up (2 * n * n + n + 2) z0).1 = true then (ups up (2 * n * n + n + 2) z0).2.getD 0 0 else if (n : Int) < (ups up (2 * n * n + n + 2) z0).2.getD 0 0 then -1 else (ups up (2 * n * n + n + 2) z0).2.getD 0 0) := by
  obtain ⟨⟨rt, hT⟩, hF, hL⟩ := ups_top hn up hup (2 * n * n + n + 2) 0 z0 hz
  generalize ups up (2 * n * n + n + 2) z0 = u at hT hF hL
  obtain ⟨b, x⟩ := u
  rcases Wk.short (E := E) (n := n) (fun i j w e => (hn i j w e).2) h0 with hs | ⟨⟨j, m, w, hm, hw1, hwk⟩, hub⟩
  · obtain ⟨y, hy, hH⟩ := rnds_some hE hn hs n 0 d0 hd (by omega)
    rw [hy]
    show mx y = _
    obtain ⟨⟨k, hk, e1⟩, h2⟩ := hmx y (hH 0).len
    -- all ways from the first bring at most mx y, and one of them brings it
    have hle : ∀ j m w, Wk E 0 j m w → (w : Int) ≤ mx y := fun j m w h => Int.le_trans ((hH m).most j m w (Nat.le_refl _) h) (h2 j (h.lt (fun i j w e => (hn i j w e).2) h0))
    have hz0 : 0 ≤ mx y := hle 0 0 0 (.nil _)
    obtain ⟨m, hwk⟩ := (hH 0).way k hk (by omega)
    rw [← e1] at hwk
    obtain ⟨m', hm', hwk'⟩ := hs _ _ _ hwk
    have hsm : (mx y).toNat ≤ m' := hwk'.le hw
    obtain ⟨j, m2, _, hwx⟩ := hT.way 0 h0
    have hxn := hT.nonneg 0 h0
    have hx1 := hle _ _ _ hwx
    have hx2 : ((mx y).toNat : Int) ≤ x.getD 0 0 := by
      cases b with
      | true => exact hF rfl 0 _ _ _ h0 hwk'
      | false =>
        have := hL rfl
        exact this.most 0 _ m' _ h0 (by have : n ≤ 2 * n * n + n + 2 := by { generalize 2 * n * n = q; omega }; omega) hwk'
    have hex : x.getD 0 0 = mx y := by
      have hx1' : ((x.getD 0 0).toNat : Int) ≤ mx y := hx1
      omega
    cases b with
    | true => rw [if_pos rfl]; exact hex.symm
    | false =>
      rw [if_neg (fun h => Bool.noConfusion h), if_neg (by show ¬ (n : Int) < x.getD 0 0; omega)]
      exact hex.symm
  · have hnone : rnds es (n + 1) d0 = none := by
      cases hr : rnds es (n + 1) d0 with
      | none => rfl
      | some y =>
        exfalso
        have hH := rnds_held hE hn (n + 1) 0 d0 y hd hr
        obtain ⟨_, h2⟩ := hmx y (hH 0).len
        obtain ⟨j, m, w, h3, h4⟩ := hub ((mx y).toNat + 1)
        have h5 := (hH m).most j m w (Nat.le_refl _) h4
        have h6 := h2 j (h4.lt (fun i j w e => (hn i j w e).2) h0)
        omega
    rw [hnone]
    cases b with
    | true =>
      exfalso
      obtain ⟨j, m, w, h3, h4⟩ := hub ((x.getD 0 0).toNat + 1)
      have h5 := hF rfl 0 j m w h0 h4
      have h5' : (w : Int) ≤ x.getD 0 0 := h5
      omega
    | false =>
      have h1 := (hL rfl).most 0 j m w h0 (by omega) hwk
      have h1' : (w : Int) ≤ x.getD 0 0 := h1
      rw [if_neg (fun h => Bool.noConfusion h), if_pos (by show (n : Int) < x.getD 0 0; omega)]
end Go.Proofs.Ytppmalfpggkpdaa.L

/- What spec.GraphDeep and impl.GraphDeep compute. -/
namespace Go.Proofs.Ytppmalfpggkpdaa.L
open Go.RowKit Go.Proofs.Ytppmalfpggkpdaa.P Go.Proofs.YtppmalfpggkpdaaW.PrintWords
set_option linter.unusedVariables false
set_option linter.unusedSimpArgs false
/-- The step that an instruction is. -/
def insE (p : List S52) (k : Nat) (y : S110) : Nat × Nat × Nat := (k, (findI p y.f2).toNat, if y.f0 = 3 then 1 else 0)
def insEs (p : List S52) (k : Nat) (l : List S110) : List (Nat × Nat × Nat) := (l.filter fun y => refersB y.f0).map (insE p k)
def esFrom (p : List S52) : List S52 → Nat → List (Nat × Nat × Nat)
  | [], _ => []
  | x :: l, k => insEs p k x.f2 ++ esFrom p l (k + 1)
structure GoodP (p : List S52) : Prop where
  lo : 1 ≤ p.length
  hi : p.length ≤ 40
  body : ∀ x ∈ p, x.f2.length ≤ 10
  refs : ∀ x ∈ p, ∀ y ∈ x.f2, refersB y.f0 = true → 0 ≤ findI p y.f2
theorem findI_lt (p : List S52) (hp : 1 ≤ p.length) (a : ByteArray) : (findI p a).toNat < p.length := by
  have h := idxFrom_lo (named a) p 0 (Int.le_refl 0)
  have h2 : idxFrom (named a) p 0 < 0 + (p.length : Int) := h.2.1
  show (idxFrom (named a) p 0).toNat < p.length
  omega
theorem has_add (x : S110) (s : List ByteArray) (a : ByteArray) (h : hasB s a = true) : hasB (refsAdd x s) a = true := by
  unfold refsAdd
  split
  · unfold hasB at h ⊢
    rw [List.any_append, h, Bool.true_or]
  · exact h
theorem has_fold (l : List S110) : ∀ (s : List ByteArray) (a : ByteArray), hasB s a = true → hasB (l.foldl (fun s x => refsAdd x s) s) a = true := by
  induction l with
  | nil => intro s a h; exact h
  | cons x l ih => intro s a h; exact ih _ a (has_add x s a h)
theorem has_refs (l : List S110) : ∀ (s : List ByteArray) (y : S110), y ∈ l → refersB y.f0 = true → hasB (l.foldl (fun s x => refsAdd x s) s) y.f2 = true := by
  induction l with
  | nil => intro s y h; cases h
  | cons x l ih =>
    intro s y h hr
    rcases List.mem_cons.mp h with rfl | h
    · refine has_fold l _ _ (show hasB (refsAdd y s) y.f2 = true from ?_)
      unfold refsAdd
      cases hh : hasB s y.f2 with
      | true => rw [hr, Bool.not_true, Bool.and_false, if_neg (by decide)]; exact hh
      | false =>
        rw [hr, Bool.not_false, Bool.and_true, if_pos rfl]
        unfold hasB
        rw [List.any_append, List.any_cons]
        simp
    · exact ih _ y h hr
theorem keep_good {p : List S52} (h : keepOkB p = true) : GoodP p := by
  unfold keepOkB at h
  simp only [Bool.and_eq_true, decide_eq_true_eq] at h
  obtain ⟨⟨h1, h2⟩, h3, h4⟩ := h
  refine ⟨by omega, by omega, unitGood_len h3, fun x hx y hy hr => ?_⟩
  unfold goodRaw at h4
  rw [List.all_eq_true] at h4
  have h5 := h4 x hx
  rw [List.all_eq_true] at h5
  have h6 := has_refs x.f2 [] y hy hr
  unfold hasB at h6
  rw [List.any_eq_true] at h6
  obtain ⟨a, ha, e⟩ := h6
  have h7 := h5 a ha
  rw [Bool.not_eq_true', decide_eq_false_iff_not] at h7
  have e2 : a.toList = y.f2.toList := beq_iff_eq.mp e
  have e3 : named a = named y.f2 := by funext z; unfold named; rw [e2]
  have e4 : findI p a = findI p y.f2 := by unfold findI; rw [e3]
  rw [← e4]
  omega
theorem mem_insEs {p : List S52} {k : Nat} {l : List S110} {e : Nat × Nat × Nat} : e ∈ insEs p k l ↔ ∃ y ∈ l, refersB y.f0 = true ∧ e = insE p k y := by
  unfold insEs
  rw [List.mem_map]
  constructor
  · rintro ⟨y, hy, rfl⟩; rw [List.mem_filter] at hy; exact ⟨y, hy.1, hy.2, rfl⟩
  · rintro ⟨y, hy, hr, rfl⟩; exact ⟨y, List.mem_filter.mpr ⟨hy, hr⟩, rfl⟩
theorem mem_esFrom {p : List S52} {e : Nat × Nat × Nat} : ∀ (l : List S52) (k : Nat), e ∈ esFrom p l k ↔ ∃ i, i < l.length ∧ e ∈ insEs p (k + i) (l.getD i z52).f2 := by
  intro l
  induction l with
  | nil => intro k; simp [esFrom]
  | cons x l ih =>
    intro k
    rw [esFrom, List.mem_append, ih (k + 1)]
    constructor
    · rintro (h | ⟨i, hi, h⟩)
      · exact ⟨0, by simp, h⟩
      · refine ⟨i + 1, by simp; omega, ?_⟩
        rw [show k + (i + 1) = k + 1 + i by omega]
        exact h
    · rintro ⟨i, hi, h⟩
      cases i with
      | zero => exact .inl h
      | succ i =>
        refine .inr ⟨i, by simp at hi; omega, ?_⟩
        rw [show k + 1 + i = k + (i + 1) by omega]
        exact h
def edge (p : List S52) (i j w : Nat) : Prop := (i, j, w) ∈ esFrom p p 0
theorem edge_iff {p : List S52} {i j w : Nat} : edge p i j w ↔ i < p.length ∧ ∃ y ∈ (p.getD i z52).f2, refersB y.f0 = true ∧ j = (findI p y.f2).toNat ∧ w = if y.f0 = 3 then 1 else 0 := by
  unfold edge
  rw [mem_esFrom]
  constructor
  · rintro ⟨i', hi, h⟩
    rw [Nat.zero_add, mem_insEs] at h
    obtain ⟨y, hy, hr, e⟩ := h
    unfold insE at e
    injection e with e1 e2
    injection e2 with e2 e3
    subst e1
    exact ⟨hi, y, hy, hr, e2, e3⟩
  · rintro ⟨hi, y, hy, hr, rfl, rfl⟩
    refine ⟨i, hi, ?_⟩
    rw [Nat.zero_add, mem_insEs]
    exact ⟨y, hy, hr, rfl⟩
theorem edge_lt {p : List S52} (hp : 1 ≤ p.length) : ∀ i j w, edge p i j w → i < p.length ∧ j < p.length := by
  intro i j w h
  obtain ⟨hi, y, _, _, rfl, _⟩ := edge_iff.mp h
  exact ⟨hi, findI_lt p hp _⟩
theorem edge_le {p : List S52} : ∀ i j w, edge p i j w → w ≤ 1 := by
  intro i j w h
  obtain ⟨_, y, _, _, _, rfl⟩ := edge_iff.mp h
  split <;> omega
/-- A step, with a mark that something changed. -/
def rlxB (s : List Int × Bool) (e : Nat × Nat × Nat) : List Int × Bool := if 0 ≤ s.1.getD e.1 0 ∧ s.1.getD e.2.1 0 < s.1.getD e.1 0 + (e.2.2 : Int) then (s.1.set e.2.1 (s.1.getD e.1 0 + (e.2.2 : Int)), true) else s
theorem rlxB_fst (s : List Int × Bool) (e : Nat × Nat × Nat) : (rlxB s e).1 = rlx s.1 e := by
  unfold rlxB rlx
  split <;> rfl
theorem foldB_fst (es : List (Nat × Nat × Nat)) : ∀ s : List Int × Bool, (es.foldl rlxB s).1 = rnd es s.1 := by
  induction es with
  | nil => intro s; rfl
  | cons e es ih => intro s; rw [List.foldl_cons, ih, rlxB_fst]; rfl
theorem foldB_true (es : List (Nat × Nat × Nat)) : ∀ d : List Int, (es.foldl rlxB (d, true)).2 = true := by
  induction es with
  | nil => intro d; rfl
  | cons e es ih =>
    intro d
    rw [List.foldl_cons]
    have : rlxB (d, true) e = ((rlxB (d, true) e).1, true) := by unfold rlxB; split <;> rfl
    rw [this]
    exact ih _
theorem foldB_snd (es : List (Nat × Nat × Nat)) : ∀ d : List Int, (∀ e ∈ es, e.2.1 < d.length) → (es.foldl rlxB (d, false)).2 = !decide (rnd es d = d) := by
  induction es with
  | nil => intro d _; show false = !decide (d = d); rw [decide_eq_true rfl]; rfl
  | cons e es ih =>
    intro d hl
    rw [List.foldl_cons]
    by_cases hc : 0 ≤ d.getD e.1 0 ∧ d.getD e.2.1 0 < d.getD e.1 0 + (e.2.2 : Int)
    · have h1 : rlxB (d, false) e = (d.set e.2.1 (d.getD e.1 0 + (e.2.2 : Int)), true) := by unfold rlxB; exact if_pos hc
      rw [h1, foldB_true]
      have h2 : d.getD e.1 0 + (e.2.2 : Int) ≤ (rlx d e).getD e.2.1 0 := rlx_edge d e (hl e List.mem_cons_self) hc.1
      have h3 := rnd_ge es (rlx d e) e.2.1
      have h4 : ¬ rnd (e :: es) d = d := by
        intro h
        have h5 : rnd (e :: es) d = rnd es (rlx d e) := rfl
        rw [h5] at h
        rw [h] at h3
        omega
      rw [decide_eq_false h4]
      rfl
    · have h1 : rlxB (d, false) e = (d, false) := by unfold rlxB; exact if_neg hc
      have h2 : rlx d e = d := by unfold rlx; exact if_neg hc
      rw [h1, ih d (fun x hx => hl x (List.mem_cons_of_mem _ hx))]
      have h3 : rnd (e :: es) d = rnd es d := by show rnd es (rlx d e) = _; rw [h2]
      rw [h3]
theorem runS_inl {α σ β : Type} (g : Nat → α → σ → σ) (E : σ → β) (h : σ → List α → Nat → σ) (h0 : ∀ s i, h s [] i = s) (h1 : ∀ s x l i, h s (x :: l) i = h (g i x s) l (i + 1)) : ∀ (l : List α) (i : Nat) (s : σ), runS (fun i x s => (.inl (g i x s) : σ ⊕ β)) E l i s = E (h s l i)
  | [], i, s => by rw [h0]; rfl
  | x :: l, i, s => by rw [h1]; exact runS_inl g E h h0 h1 l (i + 1) (g i x s)
/-- The places' values stay within bounds. -/
def Bd (n : Nat) (c : Int) (d : List Int) : Prop := d.length = n ∧ ∀ j, -1 ≤ d.getD j 0 ∧ d.getD j 0 ≤ c
theorem rlx_bd {n : Nat} {c : Int} {d : List Int} (h : Bd n c d) (e : Nat × Nat × Nat) (he : e.2.2 ≤ 1) : Bd n (c + 1) (rlx d e) := by
  refine ⟨(rlx_len d e).trans h.1, fun j => ?_⟩
  have h1 := h.2 j
  have h2 := h.2 e.1
  rcases (rlx_get d e j).2 with hg | ⟨_, h3, hg⟩
  · rw [hg]; omega
  · rw [hg]; omega
def stepB (p : List S52) (k : Nat) (y : S110) (s : List Int × Bool) : List Int × Bool := if refersB y.f0 = true then rlxB s (insE p k y) else s
theorem foldl_step (p : List S52) (k : Nat) (l : List S110) : ∀ s, l.foldl (fun s y => stepB p k y s) s = (insEs p k l).foldl rlxB s := by
  induction l with
  | nil => intro s; rfl
  | cons y l ih =>
    intro s
    rw [List.foldl_cons, ih]
    unfold insEs stepB
    by_cases h : refersB y.f0 = true
    · rw [if_pos h, List.filter_cons, if_pos h, List.map_cons, List.foldl_cons]
    · rw [if_neg h, List.filter_cons, if_neg h]
theorem impl_l3 (p : List S52) (hp : GoodP p) (q : Nat) (hq : q < p.length) (x5 : Int) (l : List S110) (hl : l.length ≤ 10) (hr : ∀ y ∈ l, refersB y.f0 = true → 0 ≤ findI p y.f2) (c : Int) (hc : c ≤ 1000000000) (s : List Int × Bool) (hs : Bd p.length c s.1) (h0 : 0 ≤ s.1.getD q 0) (k : Nat) (hk : l.length < k) :
    impl_GraphDeep.l3 k p s.1 x5 s.2 (q : Int) p (p.length : Int) (q : Int) l (l.length : Int) 0 = impl_GraphDeep.l2 (k - l.length - 1) p ((insEs p q l).foldl rlxB s).1 x5 ((insEs p q l).foldl rlxB s).2 p (p.length : Int) (wrap64 ((q : Int) + 1)) := by
  refine (loop_run (fun _ y s => (.inl (stepB p q y s) : (List Int × Bool) ⊕ Option Int)) (fun k s => impl_GraphDeep.l2 k p s.1 x5 s.2 p (p.length : Int) (wrap64 ((q : Int) + 1))) (fun i s => Bd p.length (c + i) s.1 ∧ 0 ≤ s.1.getD q 0) z110 l (by omega) (fun k s i => impl_GraphDeep.l3 k p s.1 x5 s.2 (q : Int) p (p.length : Int) (q : Int) l (l.length : Int) i) 0 ?_ ?_ ?_ k (by omega) s ⟨by simpa using hs, h0⟩).trans ?_
  · intro k i s _ hi hI
    obtain ⟨⟨hlen, hb⟩, hq0⟩ := hI
    simp only [impl_GraphDeep.l3]
    rw [show rd_T110 l (i : Int) = l.getD i z110 from rfl]
    have hy := getD_mem (d := z110) hi
    generalize l.getD i z110 = y at hy
    rw [if_pos (by omega), if_pos (by omega), if_pos (by omega), impl_InsRefs_f]
    simp only [Option.bind_some]
    unfold stepB
    by_cases hr1 : refersB y.f0 = true
    · have hf := hr y hy hr1
      have hft := findI_lt p hp.lo y.f2
      rw [if_pos hr1, if_pos hr1, show impl_find.f p y.f2 = some (findI p y.f2) from rfl]
      simp only [Option.bind_some]
      have b1 := hb q
      have b2 := hb (findI p y.f2).toNat
      rw [show rd s.1 (q : Int) = s.1.getD q 0 from rfl, show rd s.1 (findI p y.f2) = s.1.getD (findI p y.f2).toNat 0 from rfl]
      rw [if_pos (by omega), if_pos (by omega)]
      unfold rlxB insE
      simp only
      by_cases h3 : y.f0 = 3
      · rw [if_pos h3, if_pos hf, if_pos (by omega), wrap_id (by omega) (by omega), if_pos h3]
        by_cases hg : s.1.getD q 0 + 1 > s.1.getD (findI p y.f2).toNat 0
        · rw [if_pos hg, if_pos ⟨hq0, by omega⟩]; rfl
        · rw [if_neg hg, if_neg (fun h => hg (by have := h.2; omega))]
      · rw [if_neg h3, if_pos hf, if_pos (by omega), if_neg h3]
        by_cases hg : s.1.getD q 0 > s.1.getD (findI p y.f2).toNat 0
        · rw [if_pos hg, if_pos ⟨hq0, by omega⟩]
          simp only [Int.ofNat_zero, Int.natCast_zero, Int.add_zero]
        · rw [if_neg hg, if_neg (fun h => hg (by have := h.2; omega))]
    · rw [if_neg hr1, if_neg hr1]
  · intro i s s' hi hI he
    cases he
    unfold stepB
    by_cases hr1 : refersB (l.getD i z110).f0 = true
    · rw [if_pos hr1, rlxB_fst]
      have := rlx_bd hI.1 (insE p q (l.getD i z110)) (by unfold insE; show (if _ then 1 else 0) ≤ 1; split <;> omega)
      refine ⟨⟨this.1, fun j => ?_⟩, ?_⟩
      · have := this.2 j; omega
      · have := (rlx_get s.1 (insE p q (l.getD i z110)) q).1; have := hI.2; omega
    · rw [if_neg hr1]
      refine ⟨⟨hI.1.1, fun j => ?_⟩, hI.2⟩
      have := hI.1.2 j; omega
  · intro k s _ _
    simp only [impl_GraphDeep.l3]
    rw [if_neg (by omega)]
  · rw [runS_inl (fun _ y s => stepB p q y s) _ (fun s l _ => l.foldl (fun s y => stepB p q y s) s) (fun _ _ => rfl) (fun _ _ _ _ => rfl), foldl_step]
theorem rlx_skip (p : List S52) (q : Nat) (l : List S110) (s : List Int × Bool) (h : s.1.getD q 0 < 0) : (insEs p q l).foldl rlxB s = s := by
  rw [← foldl_step]
  induction l with
  | nil => rfl
  | cons y l ih =>
    rw [List.foldl_cons]
    have : stepB p q y s = s := by
      unfold stepB
      split
      · unfold rlxB; exact if_neg (fun h2 => by have h3 : 0 ≤ s.1.getD q 0 := h2.1; omega)
      · rfl
    rw [this]
    exact ih
theorem fold_bd {n : Nat} (es : List (Nat × Nat × Nat)) (he : ∀ e ∈ es, e.2.2 ≤ 1) : ∀ (c : Int) (d : List Int), Bd n c d → Bd n (c + es.length) (rnd es d) := by
  induction es with
  | nil => intro c d h; simpa [rnd] using h
  | cons e es ih =>
    intro c d h
    have := ih (fun x hx => he x (List.mem_cons_of_mem _ hx)) (c + 1) (rlx d e) (rlx_bd h e (he e List.mem_cons_self))
    rw [List.length_cons, show c + ((es.length + 1 : Nat) : Int) = c + 1 + (es.length : Int) by omega]
    exact this
theorem insEs_one (p : List S52) (k : Nat) (l : List S110) : ∀ e ∈ insEs p k l, e.2.2 ≤ 1 := by
  intro e h
  obtain ⟨y, _, _, rfl⟩ := mem_insEs.mp h
  unfold insE
  show (if _ then 1 else 0) ≤ 1
  split <;> omega
theorem insEs_len (p : List S52) (k : Nat) (l : List S110) : (insEs p k l).length ≤ l.length := by
  unfold insEs
  rw [List.length_map]
  exact List.length_filter_le _ _
/-- One round over all functions. -/
theorem impl_l2 (p : List S52) (hp : GoodP p) (x5 : Int) (c : Int) (hc : c ≤ 100000000) (s : List Int × Bool) (hs : Bd p.length c s.1) (k : Nat) (hk : 10000 < k) :
    ∃ k', k ≤ k' + 1000 ∧ impl_GraphDeep.l2 k p s.1 x5 s.2 p (p.length : Int) 0 = if ((esFrom p p 0).foldl rlxB s).2 = true then impl_GraphDeep.l1 k' p ((esFrom p p 0).foldl rlxB s).1 (wrap64 (x5 + 1)) else some (Lib.maxOf ((esFrom p p 0).foldl rlxB s).1) := by
  have hn := hp.hi
  obtain ⟨k', h1, h2⟩ := loop_vark (fun i x s => (.inl ((insEs p i x.f2).foldl rlxB s) : (List Int × Bool) ⊕ Option Int)) (fun k s => if s.2 = true then impl_GraphDeep.l1 k p s.1 (wrap64 (x5 + 1)) else some (Lib.maxOf s.1)) (fun i s => Bd p.length (c + 10 * i) s.1) z52 p (by omega) (fun k s i => impl_GraphDeep.l2 k p s.1 x5 s.2 p (p.length : Int) i) 100 12 (by
      intro k i s hK hi hI
      have hx := hp.body _ (getD_mem (d := z52) hi)
      have hrf := hp.refs _ (getD_mem (d := z52) hi)
      simp only
      refine ⟨?_, ?_⟩
      · rw [foldB_fst]
        have := fold_bd (insEs p i (p.getD i z52).f2) (insEs_one p i _) _ _ hI
        have hle := insEs_len p i (p.getD i z52).f2
        refine ⟨this.1, fun j => ?_⟩
        have := this.2 j
        omega
      · have hlen := hI.1
        have e : impl_GraphDeep.l2 (k + 1) p s.1 x5 s.2 p (p.length : Int) (i : Int) = if s.1.getD i 0 < 0 then impl_GraphDeep.l2 k p s.1 x5 s.2 p (p.length : Int) (wrap64 ((i : Int) + 1)) else impl_GraphDeep.l3 k p s.1 x5 s.2 (i : Int) p (p.length : Int) (i : Int) (p.getD i z52).f2 ((p.getD i z52).f2.length : Int) 0 := by
          simp only [impl_GraphDeep.l2]
          rw [if_pos (by omega), if_pos (by omega), if_pos (by omega), if_pos (by omega)]
          rfl
        rw [e]
        by_cases h0 : s.1.getD i 0 < 0
        · rw [if_pos h0, rlx_skip p i _ s h0]
          exact ⟨k, by omega, rfl⟩
        · rw [if_neg h0, impl_l3 p hp i hi x5 _ hx hrf (c + 10 * i) (by omega) s hI (by omega) k (by omega)]
          exact ⟨_, by omega, rfl⟩) (by
      intro k s _ hI
      simp only [impl_GraphDeep.l2]
      rw [if_neg (by omega)]
      cases s.2 with
      | true => rw [if_pos rfl, if_pos rfl]
      | false =>
        rw [if_neg (by decide), if_neg (by decide)]
        unfold slices_Max_sint_int.f
        rw [if_pos (by have := hI.1; have := hp.lo; omega)]
        rfl) k (by omega) s (by simpa using hs)
  refine ⟨k', by omega, ?_⟩
  rw [h2, runS_inl (fun i x s => (insEs p i x.f2).foldl rlxB s) _ (fun s l i => (esFrom p l i).foldl rlxB s) (fun _ _ => rfl) (fun s x l i => by rw [esFrom, List.foldl_append])]
theorem es_len (p : List S52) : ∀ (l : List S52) (k : Nat), (∀ x ∈ l, x.f2.length ≤ 10) → (esFrom p l k).length ≤ 10 * l.length ∧ ∀ e ∈ esFrom p l k, e.2.2 ≤ 1 := by
  intro l
  induction l with
  | nil => intro k _; exact ⟨by simp [esFrom], fun e h => by simp [esFrom] at h⟩
  | cons x l ih =>
    intro k h
    have h1 := ih (k + 1) (fun y hy => h y (List.mem_cons_of_mem _ hy))
    have h2 := insEs_len p k x.f2
    have h3 := h x List.mem_cons_self
    refine ⟨?_, fun e he => ?_⟩
    · rw [esFrom, List.length_append, List.length_cons]; omega
    · rw [esFrom, List.mem_append] at he
      rcases he with he | he
      · exact insEs_one p k _ e he
      · exact h1.2 e he
/-- All rounds. -/
theorem impl_l1 (p : List S52) (hp : GoodP p) : ∀ (q r : Nat) (d : List Int) (k : Nat), r + q = p.length + 1 → Bd p.length (400 * r) d → 20000 + 2000 * q < k →
    impl_GraphDeep.l1 k p d (r : Int) = some (match rnds (esFrom p p 0) q d with | none => -1 | some x => Lib.maxOf x) := by
  have hn := hp.hi
  intro q
  induction q with
  | zero =>
    intro r d k hr hd hk
    obtain ⟨k, rfl, hk⟩ := succ_of hk
    simp only [impl_GraphDeep.l1]
    rw [if_neg (by omega)]
    rfl
  | succ q ih =>
    intro r d k hr hd hk
    obtain ⟨k, rfl, hk⟩ := succ_of hk
    simp only [impl_GraphDeep.l1]
    rw [if_pos (by omega)]
    have hk2 : 10000 < k := Nat.lt_of_lt_of_le (Nat.lt_of_lt_of_le (by decide) (Nat.le_add_right 20000 _)) (Nat.le_of_lt_succ hk)
    obtain ⟨k', h1, h2⟩ := impl_l2 p hp (r : Int) (400 * r) (by omega) (d, false) hd k hk2
    have h2' : impl_GraphDeep.l2 k p d (r : Int) false p (p.length : Int) 0 = _ := h2
    rw [h2', foldB_fst, foldB_snd _ d (by
      intro e he
      have := (edge_lt hp.lo e.1 e.2.1 e.2.2 he).2
      rw [hd.1]; exact this)]
    show (if (!decide (rnd (esFrom p p 0) d = d)) = true then impl_GraphDeep.l1 k' p (rnd (esFrom p p 0) d) (wrap64 ((r : Int) + 1)) else some (Lib.maxOf (rnd (esFrom p p 0) d))) = _
    by_cases hc : rnd (esFrom p p 0) d = d
    · rw [decide_eq_true hc, if_neg (by decide)]
      unfold rnds
      rw [if_pos hc, hc]
    · rw [decide_eq_false hc, if_pos (by decide), wrap_id (by omega) (by omega)]
      have hb := es_len p p 0 hp.body
      have hbd := fold_bd (esFrom p p 0) hb.2 _ _ hd
      have h3 := ih (r + 1) (rnd (esFrom p p 0) d) k' (by omega) ⟨hbd.1, fun j => by have := hbd.2 j; have := hb.1; omega⟩ (by omega)
      rw [rnds, if_neg hc, ← h3]
      rfl
theorem impl_l0 (p : List S52) : ∀ (m i : Nat) (d : List Int) (k : Nat), i + m = p.length → 1 ≤ p.length → p.length ≤ 40 → d.length = p.length → (∀ j, j < i → d.getD j 0 = -1) → m < k →
    ∃ x : List Int, x.length = p.length ∧ (∀ j, j < p.length → x.getD j 0 = -1) ∧ impl_GraphDeep.l0 k p d (p.length : Int) (i : Int) = impl_GraphDeep.l1 (k - m - 1) p (x.set 0 0) 0 := by
  intro m
  induction m with
  | zero =>
    intro i d k hi h1 h40 hl hd hk
    obtain ⟨k, rfl, hk⟩ := succ_of hk
    refine ⟨d, hl, fun j hj => hd j (by omega), ?_⟩
    simp only [impl_GraphDeep.l0]
    rw [if_neg (by omega), if_pos (by omega)]
    rfl
  | succ m ih =>
    intro i d k hi h1 h40 hl hd hk
    obtain ⟨k, rfl, hk⟩ := succ_of hk
    obtain ⟨x, hx, hx2, e⟩ := ih (i + 1) (d.set i (-1)) k (by omega) h1 h40 (by rw [List.length_set]; exact hl) (fun j hj => by
      rw [List.getD_eq_getElem?_getD]
      by_cases hji : j = i
      · subst hji; rw [List.getElem?_set_self (by omega)]; rfl
      · rw [List.getElem?_set_ne (by omega), ← List.getD_eq_getElem?_getD]; exact hd j (by omega)) (by omega)
    refine ⟨x, hx, hx2, ?_⟩
    simp only [impl_GraphDeep.l0]
    rw [if_pos (by omega), if_pos (by omega), if_pos (by omega), wrap_id (by omega) (by omega), Int.toNat_natCast, show k + 1 - (m + 1) - 1 = k - m - 1 by omega]
    exact e
/-- The places ahead of the first round. -/
structure Start (n : Nat) (d : List Int) : Prop where
  len : d.length = n
  first : d.getD 0 0 = 0
  rest : ∀ j, 0 < j → j < n → d.getD j 0 = -1
theorem impl_GraphDeep_f (p : List S52) (hn : p.length ≤ 140737488351232) (hx : ∀ x ∈ p, FitF x) (k : Nat) (hk : 1000000 + p.length < k) :
    ∃ d, Start p.length d ∧ impl_GraphDeep.f k p = some (if keepOkB p = true then (match rnds (esFrom p p 0) (p.length + 1) d with | none => -1 | some x => Lib.maxOf x) else -1) ∨ keepOkB p = false ∧ impl_GraphDeep.f k p = some (-1) := by
  unfold impl_GraphDeep.f
  rw [impl_KeepOk_f p hn hx k (by omega)]
  simp only [Option.bind_some]
  cases hk1 : keepOkB p with
  | false => exact ⟨[], .inr ⟨rfl, by rw [if_neg (by decide)]⟩⟩
  | true =>
    have hp := keep_good hk1
    have h1 := hp.lo
    have h40 := hp.hi
    obtain ⟨x, hx1, hx2, e⟩ := impl_l0 p p.length 0 (List.replicate (p.length : Int).toNat 0) k (by omega) h1 h40 (by rw [List.length_replicate]; omega) (fun j hj => by omega) (by omega)
    have hst : Start p.length (x.set 0 0) := ⟨by rw [List.length_set]; exact hx1, by rw [List.getD_eq_getElem?_getD, List.getElem?_set_self (by omega)]; rfl, fun j h0 hj => by rw [List.getD_eq_getElem?_getD, List.getElem?_set_ne (by omega), ← List.getD_eq_getElem?_getD]; exact hx2 j hj⟩
    refine ⟨x.set 0 0, .inl ⟨hst, ?_⟩⟩
    rw [if_pos rfl, if_pos (by omega), if_pos (by omega), if_pos rfl, List.length_replicate, show ((p.length : Int).toNat : Int) = (p.length : Int) by omega]
    have e' : impl_GraphDeep.l0 k p (List.replicate (p.length : Int).toNat 0) (p.length : Int) 0 = _ := e
    rw [e']
    have h2 := impl_l1 p hp (p.length + 1) 0 (x.set 0 0) (k - p.length - 1) (by omega) ⟨hst.len, fun j => by
      by_cases hj : j < p.length
      · by_cases h0 : j = 0
        · subst h0; rw [hst.first]; omega
        · rw [hst.rest j (by omega) hj]; omega
      · rw [List.getD_eq_getElem?_getD, List.getElem?_eq_none (by rw [hst.len]; omega)]; exact ⟨by decide, by show (0 : Int) ≤ _; omega⟩⟩ (by omega)
    exact h2
/-- The most that comes behind a function's steps. -/
def mxV (a b : Int) : Int := if a > b then a else b
def bodyMax (p : List S52) (d : List Int) (l : List S110) (v : Int) : Int := l.foldl (fun v y => if refersB y.f0 = true then mxV v (d.getD (findI p y.f2).toNat 0 + (if y.f0 = 3 then 1 else 0)) else v) v
def upV (p : List S52) (d : List Int) : List Int := p.map fun x => bodyMax p d x.f2 0
theorem bodyMax_cons (p : List S52) (d : List Int) (y : S110) (l : List S110) (v : Int) : bodyMax p d (y :: l) v = bodyMax p d l (if refersB y.f0 = true then mxV v (d.getD (findI p y.f2).toNat 0 + (if y.f0 = 3 then 1 else 0)) else v) := rfl
theorem mxV_spec (a b : Int) : a ≤ mxV a b ∧ b ≤ mxV a b ∧ (mxV a b = a ∨ mxV a b = b) := by
  unfold mxV
  split
  · exact ⟨by omega, by omega, .inl rfl⟩
  · exact ⟨by omega, by omega, .inr rfl⟩
theorem bodyMax_spec (p : List S52) (d : List Int) (l : List S110) : ∀ v : Int, v ≤ bodyMax p d l v ∧ (∀ y ∈ l, refersB y.f0 = true → d.getD (findI p y.f2).toNat 0 + (if y.f0 = 3 then 1 else 0) ≤ bodyMax p d l v) ∧ (bodyMax p d l v = v ∨ ∃ y ∈ l, refersB y.f0 = true ∧ bodyMax p d l v = d.getD (findI p y.f2).toNat 0 + (if y.f0 = 3 then 1 else 0)) := by
  induction l with
  | nil => intro v; exact ⟨Int.le_refl _, fun y h => (by cases h), .inl rfl⟩
  | cons y l ih =>
    intro v
    rw [bodyMax_cons]
    by_cases hr : refersB y.f0 = true
    · rw [if_pos hr]
      generalize hw : d.getD (findI p y.f2).toNat 0 + (if y.f0 = 3 then 1 else 0) = w
      obtain ⟨m1, m2, m3⟩ := mxV_spec v w
      obtain ⟨h1, h2, h3⟩ := ih (mxV v w)
      refine ⟨by omega, fun x hx hrx => ?_, ?_⟩
      · rcases List.mem_cons.mp hx with rfl | hx
        · rw [hw]; omega
        · exact h2 x hx hrx
      · rcases h3 with h3 | ⟨x, hx, hrx, e⟩
        · rcases m3 with m3 | m3
          · exact .inl (h3.trans m3)
          · exact .inr ⟨y, List.mem_cons_self, hr, by rw [h3, m3, hw]⟩
        · exact .inr ⟨x, List.mem_cons_of_mem _ hx, hrx, e⟩
    · rw [if_neg hr]
      obtain ⟨h1, h2, h3⟩ := ih v
      refine ⟨h1, fun x hx hrx => ?_, ?_⟩
      · rcases List.mem_cons.mp hx with rfl | hx
        · exact absurd hrx hr
        · exact h2 x hx hrx
      · rcases h3 with h3 | ⟨x, hx, hrx, e⟩
        · exact .inl h3
        · exact .inr ⟨x, List.mem_cons_of_mem _ hx, hrx, e⟩
theorem upV_get (p : List S52) (d : List Int) (i : Nat) (hi : i < p.length) : (upV p d).getD i 0 = bodyMax p d (p.getD i z52).f2 0 := by
  unfold upV
  rw [List.getD_eq_getElem?_getD, List.getElem?_map, List.getD_eq_getElem?_getD, List.getElem?_eq_getElem hi]
  rfl
theorem cast01 (y : S110) : (((if y.f0 = 3 then 1 else 0 : Nat)) : Int) = if y.f0 = 3 then 1 else 0 := by split <;> rfl
theorem upV_up (p : List S52) (d : List Int) : IsUp (edge p) p.length d (upV p d) where
  len := by unfold upV; rw [List.length_map]
  nonneg := fun i hi => by rw [upV_get p d i hi]; exact (bodyMax_spec p d _ 0).1
  from_ := fun i hi => by
    rw [upV_get p d i hi]
    rcases (bodyMax_spec p d (p.getD i z52).f2 0).2.2 with h | ⟨y, hy, hr, e⟩
    · exact .inl h
    · exact .inr ⟨_, _, edge_iff.mpr ⟨hi, y, hy, hr, rfl, rfl⟩, by rw [e, cast01]⟩
  all := fun i t w h => by
    obtain ⟨hi, y, hy, hr, rfl, rfl⟩ := edge_iff.mp h
    rw [upV_get p d i hi, cast01]
    exact (bodyMax_spec p d _ 0).2.1 y hy hr
theorem upV_bd (p : List S52) (d : List Int) (c : Int) (h0 : 0 ≤ c) (hd : ∀ j, d.getD j 0 ≤ c) : ∀ j, 0 ≤ (upV p d).getD j 0 ∧ (upV p d).getD j 0 ≤ c + 1 := by
  intro j
  by_cases hj : j < p.length
  · rw [upV_get p d j hj]
    obtain ⟨h1, _, h3⟩ := bodyMax_spec p d (p.getD j z52).f2 0
    refine ⟨h1, ?_⟩
    rcases h3 with h3 | ⟨y, _, _, h3⟩
    · omega
    · have := hd (findI p y.f2).toNat
      rw [h3]; split <;> omega
  · rw [List.getD_eq_getElem?_getD, List.getElem?_eq_none (by unfold upV; rw [List.length_map]; omega)]
    exact ⟨by decide, by show (0 : Int) ≤ _; omega⟩
theorem set_self {l : List Int} {i : Nat} (h : i < l.length) : l.set i (l.getD i 0) = l := by
  apply ext_getD (by rw [List.length_set])
  intro j hj
  rw [List.getD_eq_getElem?_getD]
  by_cases hji : j = i
  · subst hji; rw [List.getElem?_set_self h]; rfl
  · rw [List.getElem?_set_ne (by omega), ← List.getD_eq_getElem?_getD]
theorem get_set {l : List Int} {i : Nat} (h : i < l.length) (v : Int) (j : Nat) : (l.set i v).getD j 0 = if j = i then v else l.getD j 0 := by
  rw [List.getD_eq_getElem?_getD]
  by_cases hji : j = i
  · subst hji; rw [List.getElem?_set_self h, if_pos rfl]; rfl
  · rw [List.getElem?_set_ne (by omega), ← List.getD_eq_getElem?_getD, if_neg hji]
theorem deeper_l1 (p : List S52) (hp : GoodP p) (d : List Int) (hd : d.length = p.length) (c : Int) (hc : c ≤ 1000000) (hb : ∀ j, 0 ≤ d.getD j 0 ∧ d.getD j 0 ≤ c) (i : Nat) (hi : i < p.length) (out : List Int) (ho : out.length = p.length) (k : Nat) (hk : 1000 < k) :
    spec_l6Deeper.l1 k p d out (i : Int) 0 = spec_l6Deeper.l0 (k - (p.getD i z52).f2.length - 1) p d (out.set i (bodyMax p d (p.getD i z52).f2 (out.getD i 0))) (wrap64 ((i : Int) + 1)) := by
  have hx := hp.body _ (getD_mem (d := z52) hi)
  have hrf := hp.refs _ (getD_mem (d := z52) hi)
  have hn := hp.hi
  have key : ∀ (l : List S110) (j : Nat) (v : Int), runS (fun _ y v => (.inl (if refersB y.f0 = true then mxV v (d.getD (findI p y.f2).toNat 0 + (if y.f0 = 3 then 1 else 0)) else v) : Int ⊕ Option (List Int))) (fun v => spec_l6Deeper.l0 (k - (p.getD i z52).f2.length - 1) p d (out.set i v) (wrap64 ((i : Int) + 1))) l j v = spec_l6Deeper.l0 (k - (p.getD i z52).f2.length - 1) p d (out.set i (bodyMax p d l v)) (wrap64 ((i : Int) + 1)) := by
    intro l
    induction l with
    | nil => intro j v; rfl
    | cons y l ih => intro j v; rw [bodyMax_cons]; exact ih (j + 1) _
  have hrun := loop_run (fun _ y v => (.inl (if refersB y.f0 = true then mxV v (d.getD (findI p y.f2).toNat 0 + (if y.f0 = 3 then 1 else 0)) else v) : Int ⊕ Option (List Int))) (fun k v => spec_l6Deeper.l0 k p d (out.set i v) (wrap64 ((i : Int) + 1))) (fun _ _ => True) z110 (p.getD i z52).f2 (by omega) (fun k v j => spec_l6Deeper.l1 k p d (out.set i v) (i : Int) j) 100 (by
      intro k j v hK hj _
      simp only [spec_l6Deeper.l1]
      rw [show rd_T52 p (i : Int) = p.getD i z52 from rfl, show rd_T110 (p.getD i z52).f2 (j : Int) = (p.getD i z52).f2.getD j z110 from rfl]
      have hy := getD_mem (d := z110) hj
      rw [if_pos (by omega), if_pos (by omega), if_pos (by omega), if_pos (by omega), spec_InsRefs_f]
      generalize (p.getD i z52).f2.getD j z110 = y at hy
      simp only [Option.bind_some]
      by_cases hr : refersB y.f0 = true
      · have hf := hrf y hy hr
        have hft := findI_lt p hp.lo y.f2
        have b2 := hb (findI p y.f2).toNat
        rw [if_pos hr, if_pos hr, spec_l2Find_f p (by omega) _ k (by omega)]
        simp only [Option.bind_some]
        rw [if_pos hf, if_pos (by omega), show rd d (findI p y.f2) = d.getD (findI p y.f2).toNat 0 from rfl, show rd (out.set i v) (i : Int) = (out.set i v).getD i 0 from rfl, get_set (by omega), if_pos rfl, Int.toNat_natCast]
        by_cases h3 : y.f0 = 3
        · rw [if_pos h3, if_pos h3, if_pos (by rw [List.length_set]; omega), wrap_id (by omega) (by omega)]
          have e : spec_l1Max.f v (d.getD (findI p y.f2).toNat 0 + 1) = some (mxV v (d.getD (findI p y.f2).toNat 0 + 1)) := by unfold spec_l1Max.f mxV; split <;> rfl
          rw [e]
          simp only [Option.bind_some, List.set_set]
        · rw [if_neg h3, if_neg h3, if_pos (by rw [List.length_set]; omega), Int.add_zero]
          have e : spec_l1Max.f v (d.getD (findI p y.f2).toNat 0) = some (mxV v (d.getD (findI p y.f2).toNat 0)) := by unfold spec_l1Max.f mxV; split <;> rfl
          rw [e]
          simp only [Option.bind_some, List.set_set]
      · rw [if_neg hr, if_neg hr]) (fun _ _ _ _ _ _ => trivial) (by
      intro k v _ _
      simp only [spec_l6Deeper.l1]
      rw [show rd_T52 p (i : Int) = p.getD i z52 from rfl, if_pos (by omega), if_pos (by omega), if_neg (by omega)]) k (by omega) (out.getD i 0) trivial
  rw [set_self (by omega)] at hrun
  rw [hrun]
  exact key _ 0 _
theorem deeper_l0 (p : List S52) (hp : GoodP p) (d : List Int) (hd : d.length = p.length) (c : Int) (hc : c ≤ 1000000) (hb : ∀ j, 0 ≤ d.getD j 0 ∧ d.getD j 0 ≤ c) :
    ∀ (m i : Nat) (out : List Int) (k : Nat), i + m = p.length → out.length = p.length → (∀ j, j < i → out.getD j 0 = (upV p d).getD j 0) → (∀ j, i ≤ j → out.getD j 0 = 0) → 2000 + 100 * m < k → spec_l6Deeper.l0 k p d out (i : Int) = some (upV p d) := by
  have hn := hp.hi
  intro m
  induction m with
  | zero =>
    intro i out k hi ho h1 h2 hk
    obtain ⟨k, rfl, hk⟩ := succ_of hk
    simp only [spec_l6Deeper.l0]
    rw [if_neg (by omega)]
    have hul : (upV p d).length = p.length := by unfold upV; rw [List.length_map]
    rw [ext_getD (a := out) (b := upV p d) (by omega) (fun j hj => h1 j (by omega))]
  | succ m ih =>
    intro i out k hi ho h1 h2 hk
    obtain ⟨k, rfl, hk⟩ := succ_of hk
    have hx := hp.body _ (getD_mem (d := z52) (show i < p.length by omega))
    simp only [spec_l6Deeper.l0]
    rw [if_pos (by omega), deeper_l1 p hp d hd c hc hb i (by omega) out ho k (by omega), h2 i (Nat.le_refl _), ← upV_get p d i (by omega), wrap_id (by omega) (by omega)]
    refine ih (i + 1) _ _ (by omega) (by rw [List.length_set]; exact ho) (fun j hj => ?_) (fun j hj => ?_) (by omega)
    · rw [get_set (by omega)]
      by_cases hji : j = i
      · subst hji; rw [if_pos rfl]
      · rw [if_neg hji]; exact h1 j (by omega)
    · rw [get_set (by omega), if_neg (by omega)]; exact h2 j (by omega)
theorem spec_l6Deeper_f (p : List S52) (hp : GoodP p) (d : List Int) (hd : d.length = p.length) (c : Int) (hc : c ≤ 1000000) (hb : ∀ j, 0 ≤ d.getD j 0 ∧ d.getD j 0 ≤ c) (k : Nat) (hk : 10000 < k) : spec_l6Deeper.f k p d = some (upV p d) := by
  have hn := hp.hi
  unfold spec_l6Deeper.f
  rw [if_pos (by omega), if_pos (by omega)]
  refine deeper_l0 p hp d hd c hc hb p.length 0 _ k (by omega) (by rw [List.length_replicate]; omega) (fun j hj => by omega) (fun j _ => ?_) (by omega)
  rw [List.getD_eq_getElem?_getD, List.getElem?_replicate]
  split <;> rfl
theorem deep_l5Ints_l0 (a b : List Int) (hl : a.length = b.length) (hn : b.length ≤ 1000) : ∀ (m i k : Nat), i + m = b.length → m < k → spec_l5Ints.l0 k a b (i : Int) = some (decide (a.drop i = b.drop i)) := by
  intro m
  induction m with
  | zero =>
    intro i k hi hk
    obtain ⟨k, rfl, hk⟩ := succ_of hk
    simp only [spec_l5Ints.l0]
    rw [if_neg (by omega), List.drop_eq_nil_of_le (by omega), List.drop_eq_nil_of_le (by omega)]
    rfl
  | succ m ih =>
    intro i k hi hk
    obtain ⟨k, rfl, hk⟩ := succ_of hk
    simp only [spec_l5Ints.l0]
    rw [if_pos (by omega), if_pos (by omega), if_pos (by omega), show rd a (i : Int) = a.getD i 0 from rfl, show rd b (i : Int) = b.getD i 0 from rfl, drop_getD a 0 i (by omega), drop_getD b 0 i (by omega)]
    by_cases h : a.getD i 0 = b.getD i 0
    · rw [if_pos h, wrap_id (by omega) (by omega)]
      have e := ih (i + 1) k (by omega) (by omega)
      have e' : spec_l5Ints.l0 k a b ((i : Int) + 1) = _ := e
      rw [e', h]
      congr 1
      by_cases h2 : a.drop (i + 1) = b.drop (i + 1)
      · rw [h2, decide_eq_true rfl, decide_eq_true rfl]
      · rw [decide_eq_false h2, decide_eq_false (fun h3 => h2 (List.cons.inj h3).2)]
    · rw [if_neg h, decide_eq_false (fun h3 => h (List.cons.inj h3).1)]
theorem deep_l5Ints_f (a b : List Int) (hl : a.length = b.length) (hn : b.length ≤ 1000) (k : Nat) (hk : 1000 < k) : spec_l5Ints.f k a b = some (decide (a = b)) := by
  unfold spec_l5Ints.f
  rw [if_pos (by omega)]
  have e := deep_l5Ints_l0 a b hl hn b.length 0 k (by omega) (by omega)
  rw [List.drop_zero, List.drop_zero] at e
  exact e
theorem spec_l0 (p : List S52) (hp : GoodP p) (N : Nat) (hN : N ≤ 10000) : ∀ (q r : Nat) (d : List Int) (k : Nat), r + q = N → d.length = p.length → (∀ j, 0 ≤ d.getD j 0 ∧ d.getD j 0 ≤ (r : Int)) → 20000 + q < k →
    spec_GraphDeep.l0 k p d (N : Int) (r : Int) = some (if (ups (upV p) q d).1 = true then (ups (upV p) q d).2.getD 0 0 else if (p.length : Int) < (ups (upV p) q d).2.getD 0 0 then -1 else (ups (upV p) q d).2.getD 0 0) := by
  have hn := hp.hi
  have hlo := hp.lo
  intro q
  induction q with
  | zero =>
    intro r d k hr hl hb hk
    obtain ⟨k, rfl, hk⟩ := succ_of hk
    simp only [spec_GraphDeep.l0]
    rw [if_neg (by omega), if_pos (by omega), show rd d 0 = d.getD 0 0 from rfl]
    unfold ups
    show (if d.getD 0 0 > (p.length : Int) then some (-1) else some (d.getD 0 0)) = some (if false = true then d.getD 0 0 else if (p.length : Int) < d.getD 0 0 then -1 else d.getD 0 0)
    rw [if_neg (show ¬ (false = true) from Bool.false_ne_true)]
    by_cases h : (p.length : Int) < d.getD 0 0
    · rw [if_pos h, if_pos h]
    · rw [if_neg h, if_neg h]
  | succ q ih =>
    intro r d k hr hl hb hk
    obtain ⟨k, rfl, hk⟩ := succ_of hk
    have hul : (upV p d).length = p.length := by unfold upV; rw [List.length_map]
    simp only [spec_GraphDeep.l0]
    rw [if_pos (by omega), spec_l6Deeper_f p hp d hl (r : Int) (by omega) hb k (by omega)]
    simp only [Option.bind_some]
    rw [deep_l5Ints_f (upV p d) d (by omega) (by omega) k (by omega)]
    simp only [Option.bind_some]
    by_cases hc : upV p d = d
    · rw [decide_eq_true hc, if_pos rfl, if_pos (by omega)]
      unfold ups
      rw [if_pos hc]
      show some (d.getD 0 0) = some (if true = true then d.getD 0 0 else _)
      rw [if_pos rfl]
    · rw [decide_eq_false hc, if_neg (by decide), wrap_id (by omega) (by omega)]
      have h3 := ih (r + 1) (upV p d) k (by omega) hul (by
        have := upV_bd p d (r : Int) (by omega) (fun j => (hb j).2)
        intro j
        have := this j
        omega) (by omega)
      rw [ups, if_neg hc, ← h3]
      rfl
theorem spec_GraphDeep_f (p : List S52) (hn : p.length ≤ 140737488351232) (hx : ∀ x ∈ p, FitF x) (k : Nat) (hk : 1000000000000000 ≤ k) :
    spec_GraphDeep.f k p = some (if keepOkB p = true then (if (ups (upV p) (2 * p.length * p.length + p.length + 2) (List.replicate p.length 0)).1 = true then (ups (upV p) (2 * p.length * p.length + p.length + 2) (List.replicate p.length 0)).2.getD 0 0 else if (p.length : Int) < (ups (upV p) (2 * p.length * p.length + p.length + 2) (List.replicate p.length 0)).2.getD 0 0 then -1 else (ups (upV p) (2 * p.length * p.length + p.length + 2) (List.replicate p.length 0)).2.getD 0 0) else -1) := by
  unfold spec_GraphDeep.f
  rw [spec_KeepOk_f p hn hx k hk]
  simp only [Option.bind_some]
  cases hk1 : keepOkB p with
  | false => rw [if_neg (by decide), if_neg (by decide)]
  | true =>
    have hp := keep_good hk1
    have h40 := hp.hi
    have hlo := hp.lo
    have hm : p.length * p.length ≤ 1600 := Nat.mul_le_mul h40 h40
    have hm2 : 2 * p.length * p.length = 2 * (p.length * p.length) := Nat.mul_assoc _ _ _
    have hm3 : (2 * (p.length : Int)) * (p.length : Int) = ((2 * p.length * p.length : Nat) : Int) := by rw [Int.natCast_mul, Int.natCast_mul]; rfl
    rw [if_pos rfl, if_pos rfl, if_pos (by omega), if_pos (by omega), Int.toNat_natCast]
    rw [wrap_id (n := 2 * (p.length : Int)) (by omega) (by omega), hm3, wrap_id (n := ((2 * p.length * p.length : Nat) : Int)) (by omega) (by omega), wrap_id (n := ((2 * p.length * p.length : Nat) : Int) + (p.length : Int)) (by omega) (by omega), wrap_id (by omega) (by omega)]
    rw [show ((2 * p.length * p.length : Nat) : Int) + (p.length : Int) + 2 = ((2 * p.length * p.length + p.length + 2 : Nat) : Int) by omega]
    have h := spec_l0 p hp (2 * p.length * p.length + p.length + 2) (by omega) (2 * p.length * p.length + p.length + 2) 0 (List.replicate p.length 0) k (by omega) (by rw [List.length_replicate]) (fun j => by
      rw [List.getD_eq_getElem?_getD, List.getElem?_replicate]
      split <;> exact ⟨by decide, by decide⟩) (by omega)
    exact h
theorem maxOf_spec (x : List Int) (h : 0 < x.length) : (∃ k, k < x.length ∧ Lib.maxOf x = x.getD k 0) ∧ ∀ k, k < x.length → x.getD k 0 ≤ Lib.maxOf x := by
  have key : ∀ (l : List Int) (a : Int), a ≤ l.foldl max a ∧ (∀ k, k < l.length → l.getD k 0 ≤ l.foldl max a) ∧ (l.foldl max a = a ∨ ∃ k, k < l.length ∧ l.foldl max a = l.getD k 0) := by
    intro l
    induction l with
    | nil => intro a; exact ⟨Int.le_refl _, fun k h => absurd h (Nat.not_lt_zero _), .inl rfl⟩
    | cons y l ih =>
      intro a
      rw [List.foldl_cons]
      obtain ⟨h1, h2, h3⟩ := ih (max a y)
      refine ⟨by omega, fun k hk => ?_, ?_⟩
      · cases k with
        | zero => show y ≤ _; omega
        | succ k => exact h2 k (by simpa using hk)
      · rcases h3 with h3 | ⟨k, hk, h3⟩
        · by_cases hay : a ≤ y
          · exact .inr ⟨0, by simp, by rw [h3]; show max a y = y; omega⟩
          · exact .inl (by rw [h3]; omega)
        · exact .inr ⟨k + 1, by simpa using hk, by rw [h3]; rfl⟩
  cases x with
  | nil => exact absurd h (Nat.not_lt_zero _)
  | cons y l =>
    have e : Lib.maxOf (y :: l) = l.foldl max y := by
      show (y :: l).foldl max y = _
      rw [List.foldl_cons, show max y y = y by omega]
    rw [e]
    obtain ⟨h1, h2, h3⟩ := key l y
    refine ⟨?_, fun k hk => ?_⟩
    · rcases h3 with h3 | ⟨k, hk, h3⟩
      · exact ⟨0, by simp, h3⟩
      · exact ⟨k + 1, by simpa using hk, h3⟩
    · cases k with
      | zero => exact h1
      | succ k => exact h2 k (by simpa using hk)
/-- Both sides agree. -/
theorem deep_both (p : List S52) (hn : p.length ≤ 140737488351232) (hx : ∀ x ∈ p, FitF x) (k : Nat) (hk : 1000000000000000 ≤ k) : ∃ v, spec_GraphDeep.f k p = some v ∧ impl_GraphDeep.f k p = some v := by
  refine ⟨_, spec_GraphDeep_f p hn hx k hk, ?_⟩
  obtain ⟨d, ⟨hst, e⟩ | ⟨hk1, e⟩⟩ := impl_GraphDeep_f p hn hx k (by omega)
  · rw [e]
    cases hk1 : keepOkB p with
    | false => rw [if_neg (by decide), if_neg (by decide)]
    | true =>
      rw [if_pos rfl, if_pos rfl]
      have hp := keep_good hk1
      have hlo := hp.lo
      congr 1
      refine deep_eq (E := edge p) (n := p.length) (es := esFrom p p 0) (fun i j w => Iff.rfl) (edge_lt hp.lo) edge_le hlo (upV p) (fun d _ => upV_up p d) d ⟨hst.len, fun j hj h0 => ?_, fun j m w hm hw => ?_⟩ (List.replicate p.length 0) ⟨List.length_replicate, fun i hi => ?_, fun i hi => ?_, fun i j m w hi hm hw => ?_⟩ Lib.maxOf (fun x hx => ?_)
      · by_cases h : j = 0
        · subst h; rw [hst.first]; exact ⟨0, .nil _⟩
        · rw [hst.rest j (by omega) hj] at h0; omega
      · obtain ⟨rfl, rfl⟩ := hw.zero (by omega)
        rw [hst.first]; omega
      · rw [List.getD_eq_getElem?_getD, List.getElem?_replicate, if_pos hi]; exact Int.le_refl _
      · rw [List.getD_eq_getElem?_getD, List.getElem?_replicate, if_pos hi]; exact ⟨i, 0, Nat.le_refl _, .nil _⟩
      · obtain ⟨rfl, rfl⟩ := hw.zero (by omega)
        rw [List.getD_eq_getElem?_getD, List.getElem?_replicate, if_pos hi]; exact Int.le_refl _
      · rw [← hx]; exact maxOf_spec x (by omega)
  · rw [e, hk1, if_neg (by decide)]
end Go.Proofs.Ytppmalfpggkpdaa.L

/- The program's GraphDeep returns what the reference's returns, for all arguments. -/
namespace Go.Proofs.Ytppmalfpggkpdaa.Pure
open Go.RowKit Go.Proofs.Ytppmalfpggkpdaa.P Go.Proofs.Ytppmalfpggkpdaa.L Go.Proofs.YtppmalfpggkpdaaW.PrintWords
set_option linter.unusedVariables false
theorem FnExactGraphDeep : laws_FnExactGraphDeep.Pure := by
  intro x h_x
  replace h_x : OkU x := h_x
  obtain ⟨K, hK⟩ : ∃ K : Nat, 100000000000000000 ≤ K := ⟨_, Nat.le_refl _⟩
  refine ⟨K + 12, ?_⟩
  unfold laws_FnExactGraphDeep.f
  rw [a_szFunS h_x 1048576 (by decide) (by decide) _ (by omega)]
  simp only [Option.bind_some]
  have b_x := gFunS_le x 1048576 (by decide)
  by_cases c_x : gFunS x 1048576 < 0
  · rw [if_pos c_x]
  rw [if_neg c_x]
  simp only [laws_FnExactGraphDeep.j0]
  rw [a_toFunS h_x _ (by omega)]
  simp only [Option.bind_some]
  have hl : (x.map cvFun).length ≤ 2932031007402 := by rw [List.length_map]; exact h_x.len
  obtain ⟨v, e1, e2⟩ := deep_both (x.map cvFun) (by omega) (fits_cv h_x) (K + 11) (by omega)
  rw [e1]
  simp only [Option.bind_some]
  rw [e2]
  simp only [Option.bind_some]
  rw [if_pos trivial]
  simp only [laws_FnExactGraphDeep.j1]
  rw [a_toFunS h_x _ (by omega)]
  simp only [Option.bind_some]
  rw [a_eqFunS h_x _ (by omega)]
  simp only [Option.bind_some, if_true]
end Go.Proofs.Ytppmalfpggkpdaa.Pure
