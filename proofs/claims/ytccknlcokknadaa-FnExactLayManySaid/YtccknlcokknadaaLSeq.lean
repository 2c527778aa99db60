/- Plain lists: the first place of which something holds; two lists alike, place by place. -/
import Derived.Test.YtccknlcokknadaaLBase
namespace Go.Proofs.Ytccknlcokknadaa.L
open Go.RowKit Go.Proofs.YtccknlcokknadaaW.PrintWords Go.Proofs.YtccknlcokknadaaW.PrintLast Go.Proofs.YtccknlcokknadaaW.PrintMore Go.Proofs.Ytccknlcokknadaa.P
set_option linter.unusedVariables false
set_option linter.unusedSimpArgs false

/-- The place of the first element of which p holds, -1 if there is none. -/
def idxFrom {α : Type} (p : α → Bool) : List α → Int → Int
  | [], _ => -1
  | x :: l, i => if p x = true then i else idxFrom p l (i + 1)
theorem idxFrom_hit {α : Type} (p : α → Bool) (d : α) : ∀ (l : List α) (j : Int) (n : Nat), n < l.length → (∀ i, i < n → p (l.getD i d) = false) → p (l.getD n d) = true → idxFrom p l j = j + n
  | [], _, n, h, _, _ => absurd h (by simp)
  | x :: l, j, 0, _, _, hp => by
    have : p x = true := hp
    simp [idxFrom, this]
  | x :: l, j, n + 1, h, ha, hp => by
    have h0 : p x = false := ha 0 (by omega)
    have ih := idxFrom_hit p d l (j + 1) n (by simpa using h) (fun i hi => ha (i + 1) (by omega)) hp
    simp only [idxFrom, h0, Bool.false_eq_true, if_false, ih]
    omega
theorem idxFrom_miss {α : Type} (p : α → Bool) (d : α) : ∀ (l : List α) (j : Int), (∀ i, i < l.length → p (l.getD i d) = false) → idxFrom p l j = -1
  | [], _, _ => rfl
  | x :: l, j, ha => by
    have h0 : p x = false := ha 0 (by simp)
    have ih := idxFrom_miss p d l (j + 1) (fun i hi => ha (i + 1) (by simpa using hi))
    simp only [idxFrom, h0, Bool.false_eq_true, if_false, ih]
theorem idxFrom_lo {α : Type} (p : α → Bool) : ∀ (l : List α) (j : Int), 0 ≤ j → -1 ≤ idxFrom p l j ∧ idxFrom p l j < j + l.length ∧ (0 ≤ idxFrom p l j → j ≤ idxFrom p l j)
  | [], j, h => ⟨by simp [idxFrom], by simp only [idxFrom, List.length_nil]; omega, fun h2 => by simp [idxFrom] at h2⟩
  | x :: l, j, h => by
    have ih := idxFrom_lo p l (j + 1) (by omega)
    simp only [idxFrom, List.length_cons]
    split
    · exact ⟨by omega, by omega, fun _ => Int.le_refl _⟩
    · exact ⟨ih.1, by omega, fun h2 => by have := ih.2.2 h2; omega⟩
theorem idxFrom_any {α : Type} (p : α → Bool) : ∀ (l : List α) (j : Int), 0 ≤ j → decide (0 ≤ idxFrom p l j) = l.any p
  | [], _, _ => by simp [idxFrom]
  | x :: l, j, h => by
    have ih := idxFrom_any p l (j + 1) (by omega)
    by_cases hx : p x = true
    · simp [idxFrom, hx, h]
    · simp only [idxFrom, List.any_cons, if_neg hx, Bool.eq_false_iff.mpr hx, Bool.false_or]
      exact ih
theorem getD_mem {α : Type} {l : List α} {d : α} {i : Nat} (h : i < l.length) : l.getD i d ∈ l := by
  rw [List.getD_eq_getElem?_getD, List.getElem?_eq_getElem h]
  exact List.getElem_mem _

/-- Are two lists alike, place by place? -/
def all2 {α β : Type} (q : α → β → Bool) : List α → List β → Bool
  | [], [] => true
  | x :: l, y :: m => q x y && all2 q l m
  | _, _ => false
theorem all2_len {α β : Type} (q : α → β → Bool) : ∀ (l : List α) (m : List β), l.length ≠ m.length → all2 q l m = false
  | [], [], h => absurd rfl h
  | [], _ :: _, _ => rfl
  | _ :: _, [], _ => rfl
  | x :: l, y :: m, h => by
    simp only [all2, all2_len q l m (fun e => h (by simp [e])), Bool.and_false]
theorem all2_true {α β : Type} (q : α → β → Bool) (d : α) (e : β) : ∀ (l : List α) (m : List β), l.length = m.length → (∀ i, i < l.length → q (l.getD i d) (m.getD i e) = true) → all2 q l m = true
  | [], [], _, _ => rfl
  | [], _ :: _, h, _ => absurd h (by simp)
  | _ :: _, [], h, _ => absurd h (by simp)
  | x :: l, y :: m, h, ha => by
    have h0 : q x y = true := ha 0 (by simp)
    have ih := all2_true q d e l m (by simpa using h) (fun i hi => ha (i + 1) (by simpa using hi))
    simp only [all2, h0, ih, Bool.and_self]
theorem all2_false {α β : Type} (q : α → β → Bool) (d : α) (e : β) : ∀ (l : List α) (m : List β) (n : Nat), n < l.length → n < m.length → q (l.getD n d) (m.getD n e) = false → all2 q l m = false
  | [], _, n, h, _, _ => absurd h (by simp)
  | _ :: _, [], n, _, h, _ => absurd h (by simp)
  | x :: l, y :: m, 0, _, _, hp => by
    have h0 : q x y = false := hp
    simp only [all2, h0, Bool.false_and]
  | x :: l, y :: m, n + 1, h, h2, hp => by
    have ih := all2_false q d e l m n (by simpa using h) (by simpa using h2) hp
    simp only [all2, ih, Bool.and_false]
theorem all2_refl {α : Type} (q : α → α → Bool) : ∀ (l : List α), (∀ x ∈ l, q x x = true) → all2 q l l = true
  | [], _ => rfl
  | x :: l, h => by simp only [all2, h x (by simp), all2_refl q l (fun y hy => h y (by simp [hy])), Bool.and_self]
theorem all2_comm {α : Type} (q : α → α → Bool) (hq : ∀ x y, q x y = q y x) : ∀ (l m : List α), all2 q l m = all2 q m l
  | [], [] => rfl
  | [], _ :: _ => rfl
  | _ :: _, [] => rfl
  | x :: l, y :: m => by simp only [all2, hq x y, all2_comm q hq l m]
theorem all2_congr {α β : Type} (q q' : α → β → Bool) : ∀ (l : List α) (m : List β), (∀ x ∈ l, ∀ y ∈ m, q x y = q' x y) → all2 q l m = all2 q' l m
  | [], [], _ => rfl
  | [], _ :: _, _ => rfl
  | _ :: _, [], _ => rfl
  | x :: l, y :: m, h => by simp only [all2, h x (by simp) y (by simp), all2_congr q q' l m (fun a ha b hb => h a (by simp [ha]) b (by simp [hb]))]
/-- A loop that compares two lists of one length, place by place, and stops where they part. -/
theorem loop_all2 {α β : Type} (q : α → β → Bool) (d : α) (e : β) (l : List α) (m : List β) (hl : l.length = m.length) (hn : l.length ≤ 9223372036854775807) (L : Nat → Int → Option Bool) (K : Nat)
    (hT : ∀ (k i : Nat), K ≤ k → i < l.length → q (l.getD i d) (m.getD i e) = true → L (k + 1) (i : Int) = L k (wrap64 ((i : Int) + 1)))
    (hF : ∀ (k i : Nat), K ≤ k → i < l.length → q (l.getD i d) (m.getD i e) = false → L (k + 1) (i : Int) = some false)
    (hE : ∀ k, K ≤ k → L (k + 1) (l.length : Int) = some true) (k : Nat) (hk : K + l.length < k) : L k 0 = some (all2 q l m) := by
  have key : ∀ (n k i : Nat), i + n = l.length → K + n < k → (∀ j, j < i → q (l.getD j d) (m.getD j e) = true) → L k (i : Int) = some (all2 q l m) := by
    intro n
    induction n with
    | zero =>
      intro k i hi hk ha
      obtain ⟨k, rfl, _⟩ := succ_of hk
      have : i = l.length := by omega
      subst this
      rw [hE k (by omega), all2_true q d e l m hl ha]
    | succ n ih =>
      intro k i hi hk ha
      obtain ⟨k, rfl, _⟩ := succ_of hk
      cases hq : q (l.getD i d) (m.getD i e) with
      | false => rw [hF k i (by omega) (by omega) hq, all2_false q d e l m i (by omega) (by omega) hq]
      | true =>
        rw [hT k i (by omega) (by omega) hq, wrap_id (by omega) (by omega)]
        have h2 := ih k (i + 1) (by omega) (by omega) (fun j hj => by
          by_cases e : j = i
          · subst e; exact hq
          · exact ha j (by omega))
        rw [← h2]
        rfl
  exact key l.length k 0 (by omega) hk (fun j hj => absurd hj (by omega))

theorem take_succ_getD {α : Type} (l : List α) (d : α) (i : Nat) (h : i < l.length) : l.take (i + 1) = l.take i ++ [l.getD i d] := by
  rw [List.take_succ_eq_append_getElem h, List.getD_eq_getElem?_getD, List.getElem?_eq_getElem h]
  rfl
theorem drop_getD {α : Type} (l : List α) (d : α) (i : Nat) (h : i < l.length) : l.drop i = l.getD i d :: l.drop (i + 1) := by
  rw [List.drop_eq_getElem_cons h, List.getD_eq_getElem?_getD, List.getElem?_eq_getElem h]
  rfl

/-- A loop that fills a list of zero values, place by place. -/
theorem loop_fill {α β : Type} (l : List α) (d : α) (z : β) (cv : α → β) (hn : l.length ≤ 9223372036854775807) (L : Nat → List β → Int → Option (List β)) (K : Nat)
    (hS : ∀ (k i : Nat) (acc : List β), K ≤ k → i < l.length → acc.length = l.length → L (k + 1) acc (i : Int) = L k (acc.set i (cv (l.getD i d))) (wrap64 ((i : Int) + 1)))
    (hE : ∀ k (acc : List β), K ≤ k → L (k + 1) acc (l.length : Int) = some acc) (k : Nat) (hk : K + l.length < k) : L k (List.replicate l.length z) 0 = some (l.map cv) := by
  have key : ∀ (n k i : Nat), i + n = l.length → K + n < k → L k ((l.take i).map cv ++ List.replicate n z) (i : Int) = some (l.map cv) := by
    intro n
    induction n with
    | zero =>
      intro k i hi hk
      obtain ⟨k, rfl, _⟩ := succ_of hk
      have : i = l.length := by omega
      subst this
      rw [hE k _ (by omega)]
      simp
    | succ n ih =>
      intro k i hi hk
      obtain ⟨k, rfl, _⟩ := succ_of hk
      have hlen : ((l.take i).map cv).length = i := by simp; omega
      rw [hS k i _ (by omega) (by omega) (by simp; omega), wrap_id (by omega) (by omega)]
      have h2 := ih k (i + 1) (by omega) (by omega)
      rw [take_succ_getD l d i (by omega), List.map_append, List.append_assoc] at h2
      rw [List.set_append_right _ _ (by omega), hlen, Nat.sub_self, List.replicate_succ, List.set_cons_zero, ← h2]
      rfl
  have h := key l.length k 0 (by omega) hk
  simpa using h

/-- What is left of a bound behind a list. -/
def szFold {α : Type} (g : α → Int → Int) : List α → Int → Int
  | [], s => s
  | x :: l, s => if g x s < 0 then -1 else szFold g l (g x s)
theorem szFold_le {α : Type} (g : α → Int → Int) (h : ∀ x s, 0 ≤ s → -1 ≤ g x s ∧ g x s ≤ s) : ∀ (l : List α) (s : Int), 0 ≤ s → -1 ≤ szFold g l s ∧ szFold g l s ≤ s
  | [], s, hs => ⟨by show -1 ≤ s; omega, Int.le_refl _⟩
  | x :: l, s, hs => by
    have := h x s hs
    simp only [szFold]
    split
    · omega
    · have := szFold_le g h l (g x s) (by omega)
      omega
theorem loop_sz {α : Type} (l : List α) (d : α) (g : α → Int → Int) (hg : ∀ x s, 0 ≤ s → -1 ≤ g x s ∧ g x s ≤ s) (hn : l.length ≤ 9223372036854775807) (L : Nat → Int → Int → Option Int) (K : Nat)
    (hS : ∀ (k i : Nat) (s : Int), K ≤ k → i < l.length → 0 ≤ s → s ≤ 1048576 → L (k + 1) s (i : Int) = if g (l.getD i d) s < 0 then some (-1) else L k (g (l.getD i d) s) (wrap64 ((i : Int) + 1)))
    (hE : ∀ k (s : Int), K ≤ k → L (k + 1) s (l.length : Int) = some s) (s : Int) (hs : 0 ≤ s) (hs' : s ≤ 1048576) (k : Nat) (hk : K + l.length < k) : L k s 0 = some (szFold g l s) := by
  have key : ∀ (n k i : Nat) (s : Int), i + n = l.length → K + n < k → 0 ≤ s → s ≤ 1048576 → L k s (i : Int) = some (szFold g (l.drop i) s) := by
    intro n
    induction n with
    | zero =>
      intro k i s hi hk _ _
      obtain ⟨k, rfl, _⟩ := succ_of hk
      have : i = l.length := by omega
      subst this
      rw [hE k s (by omega), List.drop_length]
      rfl
    | succ n ih =>
      intro k i s hi hk h0 h1
      obtain ⟨k, rfl, _⟩ := succ_of hk
      rw [hS k i s (by omega) (by omega) h0 h1, drop_getD l d i (by omega)]
      simp only [szFold]
      have := hg (l.getD i d) s h0
      split
      · rfl
      · rw [wrap_id (by omega) (by omega)]
        have h2 := ih k (i + 1) (g (l.getD i d) s) (by omega) (by omega) (by omega) (by omega)
        rw [← h2]
        rfl
  have h := key l.length k 0 s (by omega) hk hs hs'
  simpa using h
/-- A loop that looks for the first element of which p holds. -/
theorem loop_idx {α : Type} (p : α → Bool) (d : α) (l : List α) (hn : l.length ≤ 9223372036854775807) (L : Nat → Int → Option Int) (K : Nat)
    (hT : ∀ (k i : Nat), K ≤ k → i < l.length → p (l.getD i d) = true → L (k + 1) (i : Int) = some (i : Int))
    (hF : ∀ (k i : Nat), K ≤ k → i < l.length → p (l.getD i d) = false → L (k + 1) (i : Int) = L k (wrap64 ((i : Int) + 1)))
    (hE : ∀ k, K ≤ k → L (k + 1) (l.length : Int) = some (-1)) (k : Nat) (hk : K + l.length < k) : L k 0 = some (idxFrom p l 0) := by
  have key : ∀ (n k i : Nat), i + n = l.length → K + n < k → (∀ j, j < i → p (l.getD j d) = false) → L k (i : Int) = some (idxFrom p l 0) := by
    intro n
    induction n with
    | zero =>
      intro k i hi hk ha
      obtain ⟨k, rfl, _⟩ := succ_of hk
      have : i = l.length := by omega
      subst this
      rw [hE k (by omega), idxFrom_miss p d l 0 ha]
    | succ n ih =>
      intro k i hi hk ha
      obtain ⟨k, rfl, _⟩ := succ_of hk
      cases hq : p (l.getD i d) with
      | true =>
        rw [hT k i (by omega) (by omega) hq, idxFrom_hit p d l 0 i (by omega) ha hq]
        simp
      | false =>
        rw [hF k i (by omega) (by omega) hq, wrap_id (by omega) (by omega)]
        have h2 := ih k (i + 1) (by omega) (by omega) (fun j hj => by
          by_cases e : j = i
          · subst e; exact hq
          · exact ha j (by omega))
        rw [← h2]
        rfl
  exact key l.length k 0 (by omega) hk (fun j hj => absurd hj (by omega))
/-- A loop that asks the same of each element, and ends with e. -/
def allFrom {α : Type} (p : Nat → α → Bool) : List α → Nat → Bool
  | [], _ => true
  | x :: l, i => p i x && allFrom p l (i + 1)
theorem loop_all {α : Type} (p : Nat → α → Bool) (d : α) (l : List α) (e : Bool) (hn : l.length ≤ 9223372036854775807) (L : Nat → Int → Option Bool) (K : Nat)
    (hT : ∀ (k i : Nat), K ≤ k → i < l.length → p i (l.getD i d) = true → L (k + 1) (i : Int) = L k (wrap64 ((i : Int) + 1)))
    (hF : ∀ (k i : Nat), K ≤ k → i < l.length → p i (l.getD i d) = false → L (k + 1) (i : Int) = some false)
    (hE : ∀ k, K ≤ k → L (k + 1) (l.length : Int) = some e) (k : Nat) (hk : K + l.length < k) : L k 0 = some (allFrom p l 0 && e) := by
  have key : ∀ (n k i : Nat), i + n = l.length → K + n < k → L k (i : Int) = some (allFrom p (l.drop i) i && e) := by
    intro n
    induction n with
    | zero =>
      intro k i hi hk
      obtain ⟨k, rfl, _⟩ := succ_of hk
      have : i = l.length := by omega
      subst this
      rw [hE k (by omega), List.drop_length]
      rfl
    | succ n ih =>
      intro k i hi hk
      obtain ⟨k, rfl, _⟩ := succ_of hk
      rw [drop_getD l d i (by omega)]
      simp only [allFrom]
      cases hq : p i (l.getD i d) with
      | false => rw [hF k i (by omega) (by omega) hq]; rfl
      | true =>
        rw [hT k i (by omega) (by omega) hq, wrap_id (by omega) (by omega), Bool.true_and, ← ih k (i + 1) (by omega) (by omega)]
        rfl
  have h := key l.length k 0 (by omega) hk
  simpa using h
theorem allFrom_all {α : Type} (p : α → Bool) : ∀ (l : List α) (i : Nat), allFrom (fun _ x => p x) l i = l.all p
  | [], _ => rfl
  | x :: l, i => by simp only [allFrom, List.all_cons, allFrom_all p l (i + 1)]
theorem all_not_any {α : Type} (p : α → Bool) (l : List α) : (l.all p) = !(l.any fun x => !p x) := by
  induction l with
  | nil => rfl
  | cons x l ih => simp [ih, Bool.not_or]
end Go.Proofs.Ytccknlcokknadaa.L
