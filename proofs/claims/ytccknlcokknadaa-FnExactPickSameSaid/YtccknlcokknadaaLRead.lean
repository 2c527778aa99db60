/- How an argument of a law reads: kind by kind, from what the row's form says (Trod) to what the printed contracts ask (Kd.K). -/
import Derived.Test.YtccknlcokknadaaPx0
import Derived.ProofKit
import Derived.ChangeOld
import Derived.SizedLaws
import Derived.WideShapes
import Derived.Deep.Slices
namespace Go.Proofs.Ytccknlcokknadaa.L
open Go.RowKit Go.ChangeShapes Go.WideShapes Go.ChangeAt Go.Proofs.YtccknlcokknadaaW.PrintWords
set_option linter.unusedVariables false
set_option linter.unusedSimpArgs false

/-- No part of it is longer than the form lets an argument be. -/
def Light {H : Type} (P : Program) (t : TypeId) (D : DataW H) : Prop := ∀ n ∈ D.weights P t, n ≤ 140737488351232
/-- What reads as data of type t is some x of kind d, and x is Ok. -/
def Rd {α : Type} (P : Program) (d : Kd α) (t : TypeId) (Ok : α → Prop) : Prop :=
  ∀ (H : Type) (enc : TypeId × Value → H) (W : World) (spare : Nat → Bool) (held : Bool) (fuel : Nat) (cs : List Value) (y : DataW H × List MemPlace),
    DataW.trod enc P W 0 spare held fuel t cs = some y → Light P t y.1 → ∃ x, d.K W x cs ∧ Ok x

theorem Rd.int {P : Program} {t : TypeId} {k : IntKind} (ht : P.underlying t = some (.int k)) : Rd P (Kd.int k) t (fun x => (Lit.int k x).wf = true) := by
  intro H enc W spare held fuel cs y h _
  obtain ⟨n, rfl, _, wf⟩ := DataW.trod_int ht h
  exact ⟨n, rfl, wf⟩
theorem Rd.bool {P : Program} {t : TypeId} (ht : P.underlying t = some .bool) : Rd P Kd.bool t (fun _ => True) := by
  intro H enc W spare held fuel cs y h _
  obtain ⟨n, rfl, _⟩ := DataW.trod_bool ht h
  exact ⟨n, rfl, trivial⟩
theorem Rd.string {P : Program} {t : TypeId} (ht : P.underlying t = some .string) : Rd P Kd.string t (fun x => x.size ≤ 140737488351232) := by
  intro H enc W spare held fuel cs y h hw
  obtain ⟨s, rfl, hx, hm⟩ := DataW.trod_string ht h
  refine ⟨s, rfl, ?_⟩
  subst hx
  have := hw s.data.toList.length (by simp [DataW.weights])
  rw [Array.length_toList] at this
  exact this

theorem weightsAll_mem {H : Type} {P : Program} {e : TypeId} : ∀ {l : List (DataW H)} {j : Nat} {d : DataW H}, l[j]? = some d → ∀ n ∈ d.weights P e, n ∈ DataW.weightsAll P e l
  | d0 :: l, 0, d, hd, n, hn => by
    simp only [List.getElem?_cons_zero, Option.some.injEq] at hd
    subst hd
    simp only [DataW.weightsAll, List.mem_append]
    exact Or.inl hn
  | d0 :: l, j + 1, d, hd, n, hn => by
    simp only [List.getElem?_cons_succ] at hd
    simp only [DataW.weightsAll, List.mem_append]
    exact Or.inr (weightsAll_mem hd n hn)
  | [], _, _, hd, _, _ => by simp at hd

theorem choose_list {α : Type} {p : Nat → α → Prop} : ∀ (n : Nat), (∀ i, i < n → ∃ x, p i x) → ∃ l : List α, l.length = n ∧ ∀ i x, l[i]? = some x → p i x
  | 0, _ => ⟨[], rfl, fun i x h => by simp at h⟩
  | n + 1, h => by
    obtain ⟨l, hl, hp⟩ := choose_list n (fun i hi => h i (by omega))
    obtain ⟨x, hx⟩ := h n (by omega)
    refine ⟨l ++ [x], by simp [hl], fun i y hy => ?_⟩
    rcases Nat.lt_or_ge i n with hi | hi
    · rw [List.getElem?_append_left (by omega)] at hy
      exact hp i y hy
    · have : i = n := by
        have := (List.getElem?_eq_some_iff.1 hy).1
        simp [hl] at this
        omega
      subst this
      rw [List.getElem?_append_right (by omega), hl, Nat.sub_self] at hy
      have : x = y := by simpa using hy
      subst this
      exact hx

theorem add_two (a : Addr) (i j : Nat) : (a.add i).add j = a.add (i + j) := by
  rcases a with ⟨b, o, x⟩
  simp only [Addr.add]
  repeat' split
  all_goals simp_all [Nat.add_assoc]

theorem Rd.slice {α : Type} {P : Program} {t e : TypeId} {d : Kd α} {Ok : α → Prop} {B : Nat} (ht : P.underlying t = some (.slice e)) (hc : P.cellsOf e = d.sz) (hB : P.bytesOf e = B) (hd : Rd P d e Ok) :
    Rd P (Kd.slice e d) t (fun l => l.length * B ≤ 140737488351232 ∧ ∀ x ∈ l, Ok x) := by
  intro H enc W spare held fuel cs y h hw
  rcases DataW.trod_slice ht h with ⟨rfl, rfl⟩ | ⟨a, len, cap, elems, rest, n, _, rfl, rfl, _, hl, hm, hlen, hel, _, _⟩
  · exact ⟨[], ⟨none, 0, rfl, Nat.le_refl _, rfl, Nat.zero_le _, fun h => absurd h (by simp)⟩, by simp, fun x hx => by simp at hx⟩
  · have hwl : (elems.length + rest.length) * B ≤ 140737488351232 := by
      have := hw ((elems.length + rest.length) * P.bytesOf e) (by simp [DataW.weights, ht])
      rwa [hB] at this
    have key : ∀ i, i < len → ∃ x, (∃ c, d.K W x c ∧ ∀ q u, c[q]? = some u → W.cell? (a.add (i * d.sz + q)) = some u) ∧ Ok x := by
      intro i hi
      have h1 := hel i hi
      obtain ⟨z, hz⟩ : ∃ z, elems[i]? = some z := ⟨_, List.getElem?_eq_getElem (by omega)⟩
      rw [hz] at h1
      obtain ⟨c, hcs, htr⟩ := Option.bind_eq_some_iff.1 h1
      obtain ⟨_, hcl, hcell⟩ := World.cells?_some hcs
      have hwz : Light P e z.1 := fun n hn => hw n (by
        simp only [DataW.weights, ht, List.mem_cons, List.mem_append]
        exact Or.inr (Or.inl (weightsAll_mem (j := i) (d := z.1) (by simp [hz]) n hn)))
      obtain ⟨x, hK, hOk⟩ := hd H enc W spare held n c z htr hwz
      refine ⟨x, ⟨c, hK, fun q u hq => ?_⟩, hOk⟩
      have hql : q < P.cellsOf e := by
        have := (List.getElem?_eq_some_iff.1 hq).1
        omega
      have h2 := hcell q hql
      rw [hq, add_two, hc] at h2
      exact h2
    obtain ⟨l, hll, hlp⟩ := choose_list len key
    refine ⟨l, ⟨some a, cap, by rw [hll], by omega, rfl, ?_, fun _ => ⟨a, rfl, fun j p hj => ?_⟩⟩, ?_, ?_⟩
    · unfold maxLen at hm
      omega
    · obtain ⟨⟨c, hK, hcell⟩, _⟩ := hlp j p hj
      exact ⟨c, d.K_len hK, hK, hcell⟩
    · refine Nat.le_trans (Nat.mul_le_mul_right _ ?_) hwl
      omega
    · intro x hx
      obtain ⟨j, hj⟩ := List.getElem?_of_mem hx
      exact (hlp j x hj).2

/-- The fields fs, from cell o on, read as some y of kind d. -/
def FRd {β : Type} (P : Program) (fs : List Field) (o : Nat) (d : Kd β) (Ok : β → Prop) : Prop :=
  ∀ (H : Type) (enc : TypeId × Value → H) (W : World) (spare : Nat → Bool) (held : Bool) (n : Nat) (cs : List Value) (xs : List (DataW H × List MemPlace)),
    xs.length = fs.length → (∀ (i : Nat) (f : Field), fs[i]? = some f → DataW.trod enc P W 0 spare held n f.type ((cs.drop f.offset).take (P.cellsOf f.type)) = xs[i]?) →
    (∀ m ∈ DataW.weightsEach P (fs.map (·.type)) (xs.map (·.1)), m ≤ 140737488351232) → cs.length = o + d.sz → ∃ y, d.K W y (cs.drop o) ∧ Ok y
theorem FRd.one {β : Type} {P : Program} {f : Field} {o : Nat} {d : Kd β} {Ok : β → Prop} (ho : f.offset = o) (hc : P.cellsOf f.type = d.sz) (hd : Rd P d f.type Ok) : FRd P [f] o d Ok := by
  intro H enc W spare held n cs xs hl hx hw hcs
  obtain ⟨x, hx0⟩ : ∃ x, xs = [x] := by
    match xs, hl with
    | [x], _ => exact ⟨x, rfl⟩
  subst hx0
  have h0 := hx 0 f rfl
  rw [ho, hc, List.take_of_length_le (by rw [List.length_drop]; omega)] at h0
  exact hd H enc W spare held n _ x h0 (fun m hm => hw m (by simp only [List.map_cons, List.map_nil, DataW.weightsEach, List.mem_append]; exact Or.inl hm))
theorem FRd.cons {α β : Type} {P : Program} {f : Field} {fs : List Field} {o : Nat} {d : Kd α} {q : Kd β} {Ok : α → Prop} {Okq : β → Prop} (ho : f.offset = o) (hc : P.cellsOf f.type = d.sz) (hd : Rd P d f.type Ok) (hq : FRd P fs (o + d.sz) q Okq) :
    FRd P (f :: fs) o (Kd.pair d q) (fun y => Ok y.1 ∧ Okq y.2) := by
  intro H enc W spare held n cs xs hl hx hw hcs
  match xs, hl with
  | x :: xs, hl =>
    have hsz : (Kd.pair d q).sz = d.sz + q.sz := rfl
    rw [hsz] at hcs
    have h0 := hx 0 f rfl
    rw [ho, hc] at h0
    obtain ⟨y0, hK0, hOk0⟩ := hd H enc W spare held n _ x h0 (fun m hm => hw m (by simp only [List.map_cons, DataW.weightsEach, List.mem_append]; exact Or.inl hm))
    obtain ⟨y1, hK1, hOk1⟩ := hq H enc W spare held n cs xs (by simpa using hl) (fun i g hg => by have := hx (i + 1) g hg; simpa using this)
      (fun m hm => hw m (by simp only [List.map_cons, DataW.weightsEach, List.mem_append]; exact Or.inr hm)) (by omega)
    refine ⟨(y0, y1), ⟨_, _, ?_, hK0, hK1⟩, hOk0, hOk1⟩
    rw [← List.drop_drop]
    exact (List.take_append_drop _ _).symm
theorem Rd.struct {α β : Type} {P : Program} {t : TypeId} {fs : Array Field} {d : Kd β} {f : α → β} {g : β → α} {Ok : β → Prop} (ht : P.underlying t = some (.struct fs)) (hc : P.cellsOf t = d.sz) (hfg : ∀ y, f (g y) = y) (hd : FRd P fs.toList 0 d Ok) :
    Rd P (Kd.iso d f) t (fun x => Ok (f x)) := by
  intro H enc W spare held fuel cs y h hw
  obtain ⟨xs, n, _, rfl, hl, hlen, hf⟩ := DataW.trod_struct ht h
  obtain ⟨z, hK, hOk⟩ := hd H enc W spare held n cs xs (by simpa using hlen) (fun i q hq => hf i q (by simpa using hq))
    (fun m hm => hw m (by simp only [DataW.weights, ht]; exact hm)) (by omega)
  rw [List.drop_zero] at hK
  exact ⟨g z, show d.K W (f (g z)) cs by rw [hfg]; exact hK, show Ok (f (g z)) by rw [hfg]; exact hOk⟩

/-- The j'th argument of a row is light. -/
theorem light_arg {H : Type} {P : Program} {ts : List TypeId} {ds : List (DataW H)} (h : (DataW.weightsEach P ts ds).all (· ≤ reachBytes) = true) {j : Nat} {t : TypeId} {D : DataW H} (ht : ts[j]? = some t) (hd : ds[j]? = some D) : Light P t D := fun n hn => by
  have := List.all_eq_true.1 h _ (DataW.weights_mem_each ht hd n hn)
  exact of_decide_eq_true this
theorem agg_of {cs : Array Value} {l : List Value} (h : cs.toList = l) : Value.agg cs = .agg l.toArray := by rw [← h]
end Go.Proofs.Ytccknlcokknadaa.L
