-- put together by squash.py
import Derived.Test.YtppmalfpggkpdaaSqFnGraphBy12
import Derived.Test.YtppmalfpggkpdaaSqFnGraphBy9
import Derived.Test.YtppmalfpggkpdaaSqFnGraphBy7
import Derived.Test.YtppmalfpggkpdaaSqFnGraphBy8
import Derived.Test.YtppmalfpggkpdaaSqFnGraphBy4
import Derived.Test.YtppmalfpggkpdaaSqFnGraphBy6
import Derived.Test.YtppmalfpggkpdaaSqFnGraphBy3
import Derived.Test.YtppmalfpggkpdaaSqFnGraphBy11
import Derived.Test.YtppmalfpggkpdaaSqFnGraphBy10
import Derived.Test.YtppmalfpggkpdaaSqFnGraphBy5
set_option linter.unusedVariables false
set_option linter.unusedSimpArgs false

namespace Go.Proofs.Ytppmalfpggkpdaa.L
open Go.RowKit Go.Proofs.YtppmalfpggkpdaaW.PrintWords Go.Proofs.YtppmalfpggkpdaaW.PrintLast Go.Proofs.YtppmalfpggkpdaaW.PrintMore Go.Proofs.Ytppmalfpggkpdaa.P
theorem flat_bodies {l : List UnitV} {B : Nat} (h : ∀ u ∈ l, ∀ x ∈ u, x.f2.length ≤ B) : ∀ x ∈ l.flatten, x.f2.length ≤ B := fun x hx => by
  obtain ⟨u, hu, hxu⟩ := List.mem_flatten.mp hx
  exact h u hu x hxu
def refsAll (p : List S52) : List ByteArray := p.flatMap fun x => refsV x.f2
theorem l3_l2 (l : List UnitV) (i j : Int) (ns : List ByteArray) (hns : ns.length ≤ 1000) : ∀ (m n k : Nat) (s : List ByteArray), n + m = ns.length → s.length + m ≤ 10000 → 20000 + m ≤ k → spec_l3Wants.l2 k l s i j ns (n : Int) = spec_l3Wants.l1 (k - m - 1) l ((ns.drop n).foldl putB s) i (wrap64 (j + 1)) := by
  intro m
  induction m with
  | zero =>
    intro n k s hn hs hk
    obtain ⟨k, rfl, _⟩ := succ_of (show 0 < k by omega)
    simp only [spec_l3Wants.l2]
    rw [if_neg (by omega), List.drop_eq_nil_of_le (by omega)]
    rfl
  | succ m ih =>
    intro n k s hn hs hk
    obtain ⟨k, rfl, _⟩ := succ_of (show 0 < k by omega)
    have hq := putB_len (ns.getD n ByteArray.empty) s
    simp only [spec_l3Wants.l2]
    rw [if_pos (by omega), if_pos (by omega), show rdOf ByteArray.empty ns (n : Int) = ns.getD n ByteArray.empty from rfl, spec_l2Put_f s (by omega) _ k (by omega)]
    simp only [Option.bind_some]
    rw [show wrap64 ((n : Int) + 1) = ((n + 1 : Nat) : Int) from by rw [wrap_id (by omega) (by omega)]; push_cast; rfl, ih (n + 1) k _ (by omega) (by omega) (by omega), drop_getD ns ByteArray.empty n (by omega), List.foldl_cons, show k + 1 - (m + 1) - 1 = k - m - 1 by omega]
set_option maxRecDepth 100000 in
theorem l3_l1 (l : List UnitV) (hl : l.length ≤ 20) (hu : ∀ u ∈ l, u.length ≤ 5) (hb : ∀ u ∈ l, ∀ x ∈ u, x.f2.length ≤ 10) (i : Nat) (hi : i < l.length) : ∀ (m n k : Nat) (s : List ByteArray), n + m = (l.getD i []).length → s.length + 10 * m ≤ 5000 → 30000 + 100 * (m + 1) ≤ k →
    ∃ k', k ≤ k' + 100 * (m + 1) ∧ spec_l3Wants.l1 k l s (i : Int) (n : Int) = spec_l3Wants.l0 k' l ((refsAll ((l.getD i []).drop n)).foldl putB s) (wrap64 ((i : Int) + 1)) := by
  have hmem := getD_mem (d := []) hi
  have hul := hu _ hmem
  intro m
  induction m with
  | zero =>
    intro n k s hn hs hk
    obtain ⟨k, rfl, _⟩ := succ_of (show 0 < k by omega)
    refine ⟨k, by omega, ?_⟩
    simp only [spec_l3Wants.l1]
    rw [show rd_L20 l (i : Int) = l.getD i [] from rfl, if_pos (by omega), if_pos (by omega), if_neg (by omega), List.drop_eq_nil_of_le (by omega)]
    rfl
  | succ m ih =>
    intro n k s hn hs hk
    obtain ⟨k, rfl, _⟩ := succ_of (show 0 < k by omega)
    have hx := hb _ hmem _ (getD_mem (d := z52) (show n < (l.getD i []).length by omega))
    have hr := refsV_len ((l.getD i []).getD n z52).f2
    have hp := puts_len (refsV ((l.getD i []).getD n z52).f2) s
    obtain ⟨k', h1, h2⟩ := ih (n + 1) (k - (refsV ((l.getD i []).getD n z52).f2).length - 1) ((refsV ((l.getD i []).getD n z52).f2).foldl putB s) (by omega) (by omega) (by omega)
    refine ⟨k', by omega, ?_⟩
    simp only [spec_l3Wants.l1]
    rw [show rd_L20 l (i : Int) = l.getD i [] from rfl, show rd_T52 (l.getD i []) (n : Int) = (l.getD i []).getD n z52 from rfl, if_pos (by omega), if_pos (by omega), if_pos (by omega), if_pos (by omega), spec_l2Refs_f _ (by omega) k (by omega)]
    simp only [Option.bind_some]
    rw [show (0 : Int) = ((0 : Nat) : Int) from rfl, l3_l2 l _ _ _ (by omega) _ 0 k s (Nat.zero_add _) (by omega) (by omega), show wrap64 ((n : Int) + 1) = ((n + 1 : Nat) : Int) from by rw [wrap_id (by omega) (by omega)]; push_cast; rfl, List.drop_zero, h2]
    congr 1
    rw [drop_getD (l.getD i []) z52 n (by omega)]
    unfold refsAll
    rw [List.flatMap_cons, List.foldl_append]
theorem refsAll_len (B : Nat) : ∀ u : UnitV, (∀ x ∈ u, x.f2.length ≤ B) → (refsAll u).length ≤ u.length * B
  | [], _ => by simp [refsAll]
  | x :: u, h => by
    have h1 := refsAll_len B u (fun y hy => h y (List.mem_cons_of_mem _ hy))
    have h2 := refsV_len x.f2
    have h3 := h x (List.mem_cons_self ..)
    have e : refsAll (x :: u) = refsV x.f2 ++ refsAll u := by unfold refsAll; rw [List.flatMap_cons]
    rw [e, List.length_append, List.length_cons, Nat.succ_mul]
    omega
set_option maxRecDepth 100000 in
theorem l3_l0 (l : List UnitV) (hl : l.length ≤ 20) (hu : ∀ u ∈ l, u.length ≤ 5) (hb : ∀ u ∈ l, ∀ x ∈ u, x.f2.length ≤ 10) : ∀ (m i k : Nat) (s : List ByteArray), i + m = l.length → s.length + 50 * m ≤ 4000 → 40000 + 1000 * (m + 1) ≤ k →
    ∃ k', k ≤ k' + 1000 * (m + 1) ∧ spec_l3Wants.l0 k l s (i : Int) = spec_l3Wants.l3 k' l ((refsAll (l.drop i).flatten).foldl putB s) [] 0 := by
  intro m
  induction m with
  | zero =>
    intro i k s hi hs hk
    obtain ⟨k, rfl, _⟩ := succ_of (show 0 < k by omega)
    refine ⟨k, by omega, ?_⟩
    simp only [spec_l3Wants.l0]
    rw [if_neg (by omega), List.drop_eq_nil_of_le (by omega)]
    rfl
  | succ m ih =>
    intro i k s hi hs hk
    obtain ⟨k, rfl, _⟩ := succ_of (show 0 < k by omega)
    have hlt : i < l.length := by omega
    have hmem := getD_mem (d := []) hlt
    have hul := hu _ hmem
    have hrl := refsAll_len 10 _ (hb _ hmem)
    have hp := puts_len (refsAll (l.getD i [])) s
    obtain ⟨k1, a1, a2⟩ := l3_l1 l hl hu hb i hlt (l.getD i []).length 0 k s (Nat.zero_add _) (by omega) (by omega)
    obtain ⟨k2, b1, b2⟩ := ih (i + 1) k1 ((refsAll (l.getD i [])).foldl putB s) (by omega) (by omega) (by omega)
    refine ⟨k2, by omega, ?_⟩
    simp only [spec_l3Wants.l0]
    rw [if_pos (by omega), show (0 : Int) = ((0 : Nat) : Int) from rfl, a2, List.drop_zero, show wrap64 ((i : Int) + 1) = ((i + 1 : Nat) : Int) from by rw [wrap_id (by omega) (by omega)]; push_cast; rfl, b2]
    congr 1
    rw [drop_getD l [] i hlt, List.flatten_cons]
    unfold refsAll
    rw [List.flatMap_append, List.foldl_append]
theorem l3_l3 (l : List UnitV) (hl : l.length ≤ 20) (hu : ∀ u ∈ l, u.length ≤ 5) (ns : List ByteArray) (hns : ns.length ≤ 1000) : ∀ (m n k : Nat) (w : List ByteArray), n + m = ns.length → w.length + m ≤ 2000 → 10000 + m ≤ k → spec_l3Wants.l3 k l ns w (n : Int) = some (w ++ (ns.drop n).filter fun a => !(pickV l a).2.2) := by
  intro m
  induction m with
  | zero =>
    intro n k w hn hw hk
    obtain ⟨k, rfl, _⟩ := succ_of (show 0 < k by omega)
    simp only [spec_l3Wants.l3]
    rw [if_neg (by omega), List.drop_eq_nil_of_le (by omega)]
    simp
  | succ m ih =>
    intro n k w hn hw hk
    obtain ⟨k, rfl, _⟩ := succ_of (show 0 < k by omega)
    have hwr : wrap64 ((n : Int) + 1) = ((n + 1 : Nat) : Int) := by rw [wrap_id (by omega) (by omega)]; push_cast; rfl
    simp only [spec_l3Wants.l3]
    rw [if_pos (by omega), if_pos (by omega), show rdOf ByteArray.empty ns (n : Int) = ns.getD n ByteArray.empty from rfl, spec_l3At_f l (by omega) 5 hu (by decide) _ k (by omega)]
    simp only [Option.bind_some]
    rw [drop_getD ns ByteArray.empty n (by omega), List.filter_cons, hwr]
    cases hc : (pickV l (ns.getD n ByteArray.empty)).2.2 with
    | true =>
      rw [if_pos rfl, ih (n + 1) k w (by omega) (by omega) (by omega)]
      rfl
    | false =>
      rw [if_neg (by decide), if_pos (by omega), ih (n + 1) k _ (by omega) (by rw [List.length_append]; simp; omega) (by omega), List.append_assoc]
      rfl
def Bytes (l : List Int) : Prop := l.length ≤ 1048576 ∧ ∀ x ∈ l, (Lit.int .u8 x).wf = true
theorem Bytes.take {l : List Int} (h : Bytes l) (n : Nat) : Bytes (l.take n) :=
  ⟨Nat.le_trans (by rw [List.length_take]; omega) h.1, fun x hx => h.2 x (List.mem_of_mem_take hx)⟩
theorem spec_l13Open_f (l : List Int) (h : Bytes l) : ∃ l', spec_l13Open.f l = some (l', 0) ∧ Bytes l' ∧ l'.length ≤ 2000 := by
  unfold spec_l13Open.f
  by_cases c : (l.length : Int) > 2000
  · rw [if_pos c, if_pos (by omega)]
    exact ⟨_, rfl, h.take 2000, by rw [List.length_take]; omega⟩
  · rw [if_neg c]
    exact ⟨l, rfl, h, by omega⟩
theorem mixed (l : List Int) (hl : Bytes l) (h0 : 0 < l.length) (p : Int) (hp : 0 ≤ p) (hp' : p < 1000000000000) (x y q : Int) (hx : 0 ≤ x ∧ x ≤ 255) (hy : 0 ≤ y ∧ y ≤ 255) (hq : 0 ≤ q ∧ q ≤ p) :
    ∃ z, wrap64 ((wrap64 ((wrap64 ((wrap64 (x * 131)) + (wrap64 (y * 1117)))) + (wrap64 (p * 29)))) + (wrap64 (q * 53))) = z ∧ 0 ≤ z ∧ z < 1000000000000000 := by
  refine ⟨x * 131 + y * 1117 + p * 29 + q * 53, ?_, by omega, by omega⟩
  rw [wrap_id (n := x * 131) (by omega) (by omega), wrap_id (n := y * 1117) (by omega) (by omega), wrap_id (n := p * 29) (by omega) (by omega), wrap_id (n := q * 53) (by omega) (by omega),
    wrap_id (n := x * 131 + y * 1117) (by omega) (by omega), wrap_id (n := x * 131 + y * 1117 + p * 29) (by omega) (by omega), wrap_id (n := x * 131 + y * 1117 + p * 29 + q * 53) (by omega) (by omega)]
theorem spec_l13Rd_pick_f (l : List Int) (hl : Bytes l) (p n : Int) (hp : 0 ≤ p) (hp' : p < 1000000000000) (hn : 1 ≤ n) :
    ∃ r, (∀ k, 1 ≤ k → spec_l13Rd_pick.f k l p n = some (r, p + 1)) ∧ 0 ≤ r ∧ r < n := by
  have e1 : wrap64 (p + 1) = p + 1 := wrap_id (by omega) (by omega)
  have e2 : wrap64 (p + 1 - 1) = p := by rw [show p + 1 - 1 = p by omega]; exact wrap_id (by omega) (by omega)
  by_cases h0 : l.length = 0
  · refine ⟨0, fun k hk => ?_, by omega, by omega⟩
    obtain ⟨m, rfl, _⟩ := succ_of hk
    unfold spec_l13Rd_pick.f
    rw [if_neg (by omega), e1]
    simp only [spec_l13Rd_pick.j0]
    rw [if_pos (by rw [h0]; rfl)]
  · have hb : ((l.length : Int) == 0) = false := beq_eq_false_iff_ne.mpr (by omega)
    by_cases c : p < (l.length : Int)
    · have hb2 := rd_byte hl.2 p
      refine ⟨Int.tmod (rd l p) n, fun k hk => ?_, tmod_small hb2.1 hn⟩
      obtain ⟨m, rfl, _⟩ := succ_of hk
      unfold spec_l13Rd_pick.f
      rw [if_neg (by omega), e1, hb]
      simp only [spec_l13Rd_pick.j0]
      rw [if_neg (by decide), e2, if_pos c, if_pos hp, if_neg (by omega), wrap_id (n := rd l p) (by omega) (by omega)]
    · have hL : (1 : Int) ≤ l.length := by omega
      have t1 := tmod_small hp hL
      have h7 : wrap64 (p * 7) = p * 7 := wrap_id (by omega) (by omega)
      have h73 : wrap64 (p * 7 + 3) = p * 7 + 3 := wrap_id (by omega) (by omega)
      have t2 := tmod_small (a := p * 7 + 3) (by omega) hL
      have b1 := rd_byte hl.2 (Int.tmod p l.length)
      have b2 := rd_byte hl.2 (Int.tmod (p * 7 + 3) l.length)
      have q1 := tdiv_small hp hL
      have w1 := wrap_id (n := rd l (Int.tmod p l.length)) (by omega) (by omega)
      have w2 := wrap_id (n := rd l (Int.tmod (p * 7 + 3) l.length)) (by omega) (by omega)
      have w3 := wrap_id (n := Int.tdiv p l.length) (by omega) (by omega)
      obtain ⟨z, hz, z0, z1⟩ := mixed l hl (by omega) p hp hp' _ _ _ b1 b2 q1
      have q2 := tdiv_small (a := z) (n := 64) z0 (by omega)
      have w4 := wrap_id (n := Int.tdiv z 64) (by omega) (by omega)
      have x1 := xor_nonneg z (Int.tdiv z 64) z0 (by omega) q2.1 (by omega)
      refine ⟨Int.tmod (Go.bits .xor .i64 z (Int.tdiv z 64)) n, fun k hk => ?_, tmod_small x1.1 hn⟩
      obtain ⟨m, rfl, _⟩ := succ_of hk
      unfold spec_l13Rd_pick.f
      rw [if_neg (by omega), e1, hb]
      simp only [spec_l13Rd_pick.j0]
      rw [if_neg (by decide), e2, if_neg c, if_neg (by omega), if_pos t1.1, if_pos t1.2, h7, h73, if_pos t2.1, if_pos t2.2, if_neg (by omega), w1, w2, w3, hz, w4]
theorem spec_l13Rd_num_f (l : List Int) (hl : Bytes l) (p : Int) (hp : 0 ≤ p) (hp' : p < 1000000000000) (xs : List Int) (hx : 0 < xs.length) :
    ∃ r, (∀ k, 1 ≤ k → spec_l13Rd_num.f k l p xs = some (r, p + 1)) ∧ r ∈ xs := by
  obtain ⟨r, hr, r0, r1⟩ := spec_l13Rd_pick_f l hl p xs.length hp hp' (by omega)
  refine ⟨rd xs r, fun k hk => ?_, ?_⟩
  · unfold spec_l13Rd_num.f
    rw [hr k hk]
    simp only [Option.bind_some]
    rw [if_pos r0, if_pos r1]
  · unfold rd
    rw [List.getD_eq_getElem?_getD, List.getElem?_eq_getElem (by omega)]
    exact List.getElem_mem _
theorem spec_l13Rd_of_f (l : List Int) (hl : Bytes l) (p : Int) (hp : 0 ≤ p) (hp' : p < 1000000000000) (xs : List ByteArray) (hx : 0 < xs.length) :
    ∃ r, (∀ k, 1 ≤ k → spec_l13Rd_of.f k l p xs = some (r, p + 1)) ∧ r ∈ xs := by
  obtain ⟨r, hr, r0, r1⟩ := spec_l13Rd_pick_f l hl p xs.length hp hp' (by omega)
  refine ⟨rdOf ByteArray.empty xs r, fun k hk => ?_, ?_⟩
  · unfold spec_l13Rd_of.f
    rw [hr k hk]
    simp only [Option.bind_some]
    rw [if_pos r0, if_pos r1]
  · unfold rdOf
    rw [List.getD_eq_getElem?_getD, List.getElem?_eq_getElem (by omega)]
    exact List.getElem_mem _
def names6 : List ByteArray := [(⟨#[97]⟩ : ByteArray), (⟨#[98]⟩ : ByteArray), (⟨#[99]⟩ : ByteArray), (⟨#[100]⟩ : ByteArray), (⟨#[109, 97, 105, 110]⟩ : ByteArray), (⟨#[101]⟩ : ByteArray)]
theorem spec_l1Name_f (l : List Int) (hl : Bytes l) (p : Int) (hp : 0 ≤ p) (hp' : p < 1000000000000) :
    ∃ r, (∀ k, 1 ≤ k → spec_l1Name.f k l p = some (r, p + 1)) ∧ r ∈ names6 := by
  obtain ⟨r, hr, hm⟩ := spec_l13Rd_of_f l hl p hp hp' names6 (by decide)
  refine ⟨r, fun k hk => ?_, hm⟩
  unfold spec_l1Name.f
  have e := hr k hk
  unfold names6 at e
  rw [e]
  rfl
def On (p q : Int) (n : Int) : Prop := p ≤ q ∧ q ≤ p + n
theorem spec_l1Ins_f (l : List Int) (hl : Bytes l) (p : Int) (hp : 0 ≤ p) (hp' : p < 900000000000) :
    ∃ a b s q, (∀ k, 4 ≤ k → spec_l1Ins.f k l p = some (a, b, s, q)) ∧ On p q 2 ∧ s.size ≤ 4 := by
  obtain ⟨r, hr, r0, r1⟩ := spec_l13Rd_pick_f l hl p 8 hp (by omega) (by omega)
  obtain ⟨n1, hn1, _⟩ := spec_l13Rd_num_f l hl (p + 1) (by omega) (by omega) [1, (-1), 2, 5, (-3)] (by decide)
  obtain ⟨n2, hn2, _⟩ := spec_l13Rd_num_f l hl (p + 1) (by omega) (by omega) [6, 6, 7, 4] (by decide)
  obtain ⟨s1, hs1, hm1⟩ := spec_l1Name_f l hl (p + 1) (by omega) (by omega)
  have hz1 : s1.size ≤ 4 := by
    simp only [names6, List.mem_cons, List.not_mem_nil, or_false] at hm1
    rcases hm1 with rfl | rfl | rfl | rfl | rfl | rfl <;> decide
  have j2 : ∀ k, 1 ≤ k → ∀ b, ∃ a' b' s' q', (spec_l1Ins.j2 (k + 1) r b l (p + 1) = some (a', b', s', q')) ∧ On p q' 2 ∧ s'.size ≤ 4 ∧ ((b = true ∧ a' = 3 ∧ b' = 0 ∧ s' = s1 ∧ q' = p + 1 + 1) ∨ (b = false ∧ r = 6 ∧ a' = 5 ∧ b' = 0 ∧ s' = s1 ∧ q' = p + 1 + 1) ∨ (b = false ∧ r ≠ 6 ∧ a' = n2 ∧ b' = 0 ∧ s' = ⟨#[]⟩ ∧ q' = p + 1 + 1)) := by
    intro k hk b
    simp only [spec_l1Ins.j2]
    rw [hs1 k hk, hn2 k hk]
    cases b with
    | true => exact ⟨3, 0, s1, p + 1 + 1, rfl, ⟨by omega, by omega⟩, hz1, .inl ⟨rfl, rfl, rfl, rfl, rfl⟩⟩
    | false =>
      by_cases h6 : r = 6
      · exact ⟨5, 0, s1, p + 1 + 1, by rw [if_neg (by decide), if_pos h6]; rfl, ⟨by omega, by omega⟩, hz1, .inr (.inl ⟨rfl, h6, rfl, rfl, rfl, rfl⟩)⟩
      · exact ⟨n2, 0, ⟨#[]⟩, p + 1 + 1, by rw [if_neg (by decide), if_neg h6]; rfl, ⟨by omega, by omega⟩, by decide, .inr (.inr ⟨rfl, h6, rfl, rfl, rfl, rfl⟩)⟩
  by_cases h01 : r = 0 ∨ r = 1
  · refine ⟨1, 0, ⟨#[]⟩, p + 1, fun k hk => ?_, ⟨by omega, by omega⟩, by decide⟩
    obtain ⟨m, rfl, _⟩ := succ_of (d := 3) hk
    unfold spec_l1Ins.f
    rw [hr _ (by omega)]
    simp only [Option.bind_some, spec_l1Ins.j0]
    rcases h01 with rfl | rfl <;> rfl
  · by_cases h23 : r = 2 ∨ r = 3
    · refine ⟨2, n1, ⟨#[]⟩, p + 1 + 1, fun k hk => ?_, ⟨by omega, by omega⟩, by decide⟩
      obtain ⟨m, rfl, hm⟩ := succ_of (d := 3) hk
      obtain ⟨m, rfl, hm2⟩ := succ_of (d := 2) hm
      unfold spec_l1Ins.f
      rw [hr _ (by omega)]
      simp only [Option.bind_some, spec_l1Ins.j0, spec_l1Ins.j1]
      rw [hn1 m (by omega)]
      rcases h23 with rfl | rfl <;> rfl
    · by_cases h45 : r = 4 ∨ r = 5
      · refine ⟨3, 0, s1, p + 1 + 1, fun k hk => ?_, ⟨by omega, by omega⟩, hz1⟩
        obtain ⟨m, rfl, hm⟩ := succ_of (d := 3) hk
        obtain ⟨m, rfl, hm2⟩ := succ_of (d := 2) hm
        obtain ⟨m, rfl, hm3⟩ := succ_of (d := 1) hm2
        unfold spec_l1Ins.f
        rw [hr _ (by omega)]
        simp only [Option.bind_some, spec_l1Ins.j0, spec_l1Ins.j1, spec_l1Ins.j2]
        rw [hs1 m (by omega)]
        rcases h45 with rfl | rfl <;> rfl
      · obtain ⟨a', b', s', q', _, hon, hsz, hwhat⟩ := j2 1 (Nat.le_refl _) false
        refine ⟨a', b', s', q', fun k hk => ?_, hon, hsz⟩
        obtain ⟨m, rfl, hm⟩ := succ_of (d := 3) hk
        obtain ⟨m, rfl, hm2⟩ := succ_of (d := 2) hm
        obtain ⟨m, rfl, hm3⟩ := succ_of (d := 1) hm2
        unfold spec_l1Ins.f
        rw [hr _ (by omega)]
        have e1 : (r == 1) = false := beq_eq_false_iff_ne.mpr (by omega)
        have e3 : (r == 3) = false := beq_eq_false_iff_ne.mpr (by omega)
        have e5 : (r == 5) = false := beq_eq_false_iff_ne.mpr (by omega)
        simp only [Option.bind_some]
        rw [if_neg (by omega), e1]
        simp only [spec_l1Ins.j0]
        rw [if_neg (by decide), if_neg (by omega), e3]
        simp only [spec_l1Ins.j1]
        rw [if_neg (by decide), if_neg (by omega), e5]
        simp only [spec_l1Ins.j2]
        rw [if_neg (by decide), hs1 m (by omega), hn2 m (by omega)]
        rcases hwhat with ⟨h, _⟩ | ⟨_, h6, rfl, rfl, rfl, rfl⟩ | ⟨_, h6, rfl, rfl, rfl, rfl⟩
        · exact absurd h (by decide)
        · rw [if_pos h6]; rfl
        · rw [if_neg h6]; rfl
theorem spec_l1Right_f (l : List Int) (hl : Bytes l) (p : Int) (hp : 0 ≤ p) (hp' : p < 900000000000) :
    ∃ a b s q, (∀ k, 4 ≤ k → spec_l1Right.f k l p = some (a, b, s, q)) ∧ On p q 3 ∧ s.size ≤ 4 := by
  obtain ⟨a, b, s, q, h, hq, hs⟩ := spec_l1Ins_f l hl p hp hp'
  by_cases c : a = 4
  · obtain ⟨s2, h2, hm⟩ := spec_l1Name_f l hl q (by have := hq.1; omega) (by have := hq.2; omega)
    refine ⟨a, b, s2, q + 1, fun k hk => ?_, ⟨by have := hq.1; omega, by have := hq.2; omega⟩, ?_⟩
    · unfold spec_l1Right.f
      rw [h k hk]
      simp only [Option.bind_some]
      rw [if_pos c, h2 k (by omega)]
      rfl
    · simp only [names6, List.mem_cons, List.not_mem_nil, or_false] at hm
      rcases hm with rfl | rfl | rfl | rfl | rfl | rfl <;> decide
  · refine ⟨a, b, s, q, fun k hk => ?_, ⟨hq.1, by have := hq.2; omega⟩, hs⟩
    unfold spec_l1Right.f
    rw [h k hk]
    simp only [Option.bind_some]
    rw [if_neg c]
def SmallF (n : Nat) (x : S52) : Prop := x.f0.size ≤ 7 ∧ x.f2.length ≤ n ∧ ∀ y ∈ x.f2, y.f2.size ≤ 7
theorem SmallF.fit {n : Nat} {x : S52} (h : SmallF n x) (hn : n ≤ 1000) : FitF x := ⟨by have := h.1; omega, by have := h.2.1; omega, fun y hy => by have := h.2.2 y hy; omega⟩
theorem names6_size {s : ByteArray} (h : s ∈ names6) : s.size ≤ 7 := by
  simp only [names6, List.mem_cons, List.not_mem_nil, or_false] at h
  rcases h with rfl | rfl | rfl | rfl | rfl | rfl <;> decide
theorem l2Fun_end (l : List Int) (hl : Bytes l) (a : ByteArray) (w : Bool) (p : Int) (body : List S110) (hp : 0 ≤ p) (hp' : p < 800000000000) (hb : body.length ≤ 4) (hs : ∀ y ∈ body, y.f2.size ≤ 7) :
    ∃ (body' : List S110) (q : Int), (∀ k, 2 ≤ k → spec_l2Fun.l0 k 0 l p a w body = some (a, w, body', q)) ∧ On p q 2 ∧ body'.length ≤ 5 ∧ ∀ y ∈ body', y.f2.size ≤ 7 := by
  obtain ⟨r, hr, r0, r1⟩ := spec_l13Rd_pick_f l hl p 6 hp (by omega) (by omega)
  obtain ⟨s, hn, hm⟩ := spec_l1Name_f l hl (p + 1) (by omega) (by omega)
  have hz := names6_size hm
  have app : ∀ i : S110, i.f2.size ≤ 7 → ∀ y ∈ body ++ [i], y.f2.size ≤ 7 := fun i hi y hy => by
    rcases List.mem_append.mp hy with h | h
    · exact hs y h
    · rw [List.mem_singleton.mp h]; exact hi
  by_cases h0 : r = 0
  · refine ⟨body ++ [⟨4, 0, s⟩], p + 1 + 1, fun k hk => ?_, ⟨by omega, by omega⟩, by rw [List.length_append]; simp; omega, app _ hz⟩
    obtain ⟨k, rfl, _⟩ := succ_of (d := 1) hk
    simp only [spec_l2Fun.l0]
    rw [if_neg (by omega), hr k (by omega)]
    simp only [Option.bind_some]
    rw [if_pos h0, hn k (by omega)]
    simp only [Option.bind_some]
    rw [if_pos (by omega)]
  · by_cases h1 : r = 1
    · refine ⟨body ++ [⟨7, 0, ⟨#[]⟩⟩], p + 1, fun k hk => ?_, ⟨by omega, by omega⟩, by rw [List.length_append]; simp; omega, app _ (by decide)⟩
      obtain ⟨k, rfl, _⟩ := succ_of (d := 1) hk
      simp only [spec_l2Fun.l0]
      rw [if_neg (by omega), hr k (by omega)]
      simp only [Option.bind_some]
      rw [if_neg h0, if_pos h1, if_pos (by omega)]
    · refine ⟨body ++ [⟨6, 0, ⟨#[]⟩⟩], p + 1, fun k hk => ?_, ⟨by omega, by omega⟩, by rw [List.length_append]; simp; omega, app _ (by decide)⟩
      obtain ⟨k, rfl, _⟩ := succ_of (d := 1) hk
      simp only [spec_l2Fun.l0]
      rw [if_neg (by omega), hr k (by omega)]
      simp only [Option.bind_some]
      rw [if_neg h0, if_neg h1, if_pos (by omega)]
theorem l2Fun_l0 (l : List Int) (hl : Bytes l) (a : ByteArray) (w : Bool) : ∀ (n : Nat) (p : Int) (body : List S110), 0 ≤ p → p + 4 * n < 700000000000 → body.length + n ≤ 4 → (∀ y ∈ body, y.f2.size ≤ 7) →
    ∃ (body' : List S110) (q : Int), (∀ k, n + 6 ≤ k → spec_l2Fun.l0 k (n : Int) l p a w body = some (a, w, body', q)) ∧ On p q (4 * n + 2) ∧ body'.length ≤ 5 ∧ ∀ y ∈ body', y.f2.size ≤ 7
  | 0, p, body, hp, hp', hb, hs => by
    obtain ⟨b, q, h1, h2, h3, h4⟩ := l2Fun_end l hl a w p body hp (by omega) (by omega) hs
    exact ⟨b, q, fun k hk => h1 k (by omega), ⟨h2.1, by have := h2.2; omega⟩, h3, h4⟩
  | n + 1, p, body, hp, hp', hb, hs => by
    obtain ⟨i, j, s, q, h, hq, hz⟩ := spec_l1Right_f l hl p hp (by omega)
    have q0 := hq.1
    have q1 := hq.2
    have hw : wrap64 (((n + 1 : Nat) : Int) - 1) = (n : Int) := by rw [wrap_id (by omega) (by omega)]; push_cast; omega
    have step : ∀ k, n + 6 ≤ k → spec_l2Fun.l0 (k + 1) ((n + 1 : Nat) : Int) l p a w body = if lastB i = true then spec_l2Fun.l0 k (n : Int) l q a w body else spec_l2Fun.l0 k (n : Int) l q a w (body ++ [⟨i, j, s⟩]) := by
      intro k hk
      simp only [spec_l2Fun.l0]
      rw [if_pos (by push_cast; omega), h k (by omega)]
      simp only [Option.bind_some]
      rw [spec_InsLast_f]
      simp only [Option.bind_some]
      rw [hw, if_pos (show body.length < 4398046511104 by omega)]
    cases hlast : lastB i with
    | true =>
      obtain ⟨b, q', h1, h2, h3, h4⟩ := l2Fun_l0 l hl a w n q body (by omega) (by push_cast at hp'; omega) (by omega) hs
      refine ⟨b, q', fun k hk => ?_, ⟨by have := h2.1; omega, by have := h2.2; push_cast; omega⟩, h3, h4⟩
      obtain ⟨k, rfl, hk'⟩ := succ_of (show n + 6 < k by omega)
      rw [step k hk', hlast, if_pos rfl, h1 k hk']
    | false =>
      obtain ⟨b, q', h1, h2, h3, h4⟩ := l2Fun_l0 l hl a w n q (body ++ [⟨i, j, s⟩]) (by omega) (by push_cast at hp'; omega) (by rw [List.length_append]; simp; omega) (fun y hy => by
        rcases List.mem_append.mp hy with h | h
        · exact hs y h
        · rw [List.mem_singleton.mp h]; show s.size ≤ 7; omega)
      refine ⟨b, q', fun k hk => ?_, ⟨by have := h2.1; omega, by have := h2.2; push_cast; omega⟩, h3, h4⟩
      obtain ⟨k, rfl, hk'⟩ := succ_of (show n + 6 < k by omega)
      rw [step k hk', hlast, if_neg (by decide), h1 k hk']
theorem spec_l2Fun_f (l : List Int) (hl : Bytes l) (p : Int) (hp : 0 ≤ p) (hp' : p < 600000000000) (a : ByteArray) (ha : a.size ≤ 7) :
    ∃ (x : S52) (q : Int), (∀ k, 20 ≤ k → spec_l2Fun.f k l p a = some (x.f0, x.f1, x.f2, q)) ∧ On p q 30 ∧ SmallF 5 x := by
  obtain ⟨r, hr, _, _⟩ := spec_l13Rd_pick_f l hl p 5 hp (by omega) (by omega)
  obtain ⟨n, hn, n0, n1⟩ := spec_l13Rd_pick_f l hl (p + 1) 5 (by omega) (by omega) (by omega)
  obtain ⟨m, rfl⟩ : ∃ m : Nat, n = m := ⟨n.toNat, by omega⟩
  obtain ⟨b, q, h1, h2, h3, h4⟩ := l2Fun_l0 l hl a (r == 0) m (p + 1 + 1) [] (by omega) (by omega) (by simp; omega) (by simp)
  refine ⟨⟨a, (r == 0), b⟩, q, fun k hk => ?_, ⟨by have := h2.1; omega, by have := h2.2; omega⟩, ha, h3, h4⟩
  unfold spec_l2Fun.f
  rw [hr k (by omega)]
  simp only [Option.bind_some]
  rw [hn k (by omega)]
  simp only [Option.bind_some]
  rw [h1 k (by omega)]
theorem l2Unit_l0 (l : List Int) (hl : Bytes l) : ∀ (n : Nat) (p : Int) (u : List S52), 0 ≤ p → p + 40 * n < 500000000000 → u.length + n ≤ 3 → (1 ≤ u.length ∨ 1 ≤ n) → (∀ x ∈ u, SmallF 5 x) →
    ∃ (u' : List S52) (q : Int), (∀ k, n + 30 ≤ k → spec_l2Unit.l0 k u (n : Int) l p = some (u', q)) ∧ On p q (40 * n) ∧ 1 ≤ u'.length ∧ u'.length ≤ 3 ∧ ∀ x ∈ u', SmallF 5 x
  | 0, p, u, hp, hp', hu, h1, hs => by
    refine ⟨u, p, fun k hk => ?_, ⟨by omega, by omega⟩, by omega, by omega, hs⟩
    obtain ⟨k, rfl, _⟩ := succ_of (show 29 < k by omega)
    simp only [spec_l2Unit.l0]
    rw [if_neg (by omega)]
  | n + 1, p, u, hp, hp', hu, h1, hs => by
    obtain ⟨s, hn, hm⟩ := spec_l1Name_f l hl p hp (by omega)
    obtain ⟨x, q, hx, hq, hsm⟩ := spec_l2Fun_f l hl (p + 1) (by omega) (by omega) s (names6_size hm)
    have q0 := hq.1
    have q1 := hq.2
    have hw : wrap64 (((n + 1 : Nat) : Int) - 1) = (n : Int) := by rw [wrap_id (by omega) (by omega)]; push_cast; omega
    have step : ∀ k, n + 30 ≤ k → spec_l2Unit.l0 (k + 1) u ((n + 1 : Nat) : Int) l p = if findI u s < 0 then spec_l2Unit.l0 k (u ++ [x]) (n : Int) l q else spec_l2Unit.l0 k u (n : Int) l (p + 1) := by
      intro k hk
      simp only [spec_l2Unit.l0]
      rw [if_pos (by push_cast; omega), hn k (by omega)]
      simp only [Option.bind_some]
      rw [spec_l2Find_f u (by omega) s k (by omega)]
      simp only [Option.bind_some]
      rw [hw, hx k (by omega)]
      simp only [Option.bind_some]
      rw [if_pos (show u.length < 2932031007402 by omega)]
    by_cases hf : findI u s < 0
    · obtain ⟨u', q', g1, g2, g3, g4, g5⟩ := l2Unit_l0 l hl n q (u ++ [x]) (by omega) (by push_cast at hp'; omega) (by rw [List.length_append]; simp; omega) (.inl (by rw [List.length_append]; simp)) (fun y hy => by
        rcases List.mem_append.mp hy with h | h
        · exact hs y h
        · rw [List.mem_singleton.mp h]; exact hsm)
      refine ⟨u', q', fun k hk => ?_, ⟨by have := g2.1; omega, by have := g2.2; push_cast; omega⟩, g3, g4, g5⟩
      obtain ⟨k, rfl, hk'⟩ := succ_of (show n + 30 < k by omega)
      rw [step k hk', if_pos hf, g1 k hk']
    · have hne : 1 ≤ u.length := by
        cases u with
        | nil => exact absurd (show findI ([] : List S52) s < 0 from by unfold findI; simp [idxFrom]) hf
        | cons _ _ => simp
      obtain ⟨u', q', g1, g2, g3, g4, g5⟩ := l2Unit_l0 l hl n (p + 1) u (by omega) (by push_cast at hp'; omega) (by omega) (.inl hne) hs
      refine ⟨u', q', fun k hk => ?_, ⟨by have := g2.1; omega, by have := g2.2; push_cast; omega⟩, g3, g4, g5⟩
      obtain ⟨k, rfl, hk'⟩ := succ_of (show n + 30 < k by omega)
      rw [step k hk', if_neg hf, g1 k hk']
theorem spec_l2Unit_f (l : List Int) (hl : Bytes l) (p : Int) (hp : 0 ≤ p) (hp' : p < 400000000000) :
    ∃ (u : List S52) (q : Int), (∀ k, 40 ≤ k → spec_l2Unit.f k l p = some (u, q)) ∧ On p q 130 ∧ 1 ≤ u.length ∧ u.length ≤ 3 ∧ ∀ x ∈ u, SmallF 5 x := by
  obtain ⟨n, hn, n0, n1⟩ := spec_l13Rd_pick_f l hl p 3 hp (by omega) (by omega)
  obtain ⟨m, rfl⟩ : ∃ m : Nat, n = m := ⟨n.toNat, by omega⟩
  obtain ⟨u, q, h1, h2, h3, h4, h5⟩ := l2Unit_l0 l hl (m + 1) (p + 1) [] (by omega) (by push_cast; omega) (by simp; omega) (.inr (by omega)) (by simp)
  refine ⟨u, q, fun k hk => ?_, ⟨by have := h2.1; omega, by have := h2.2; push_cast at this; omega⟩, h3, h4, h5⟩
  unfold spec_l2Unit.f
  rw [hn k (by omega)]
  simp only [Option.bind_some]
  rw [show wrap64 (1 + (m : Int)) = ((m + 1 : Nat) : Int) from by rw [wrap_id (by omega) (by omega)]; push_cast; omega, h1 k (by omega)]
theorem SmallF.mono {n m : Nat} {x : S52} (h : SmallF n x) (hm : n ≤ m) : SmallF m x := ⟨h.1, Nat.le_trans h.2.1 hm, h.2.2⟩
def SmallV (u : List S52) : Prop := u.length ≤ 4 ∧ ∀ x ∈ u, SmallF 6 x
def Small3 (u : List S52) : Prop := u.length ≤ 3 ∧ ∀ x ∈ u, SmallF 5 x
theorem Small3.v {u : List S52} (h : Small3 u) : SmallV u := ⟨by have := h.1; omega, fun x hx => (h.2 x hx).mono (by omega)⟩
theorem all_snoc {α : Type} {P : α → Prop} {l : List α} {a : α} (h : ∀ x ∈ l, P x) (ha : P a) : ∀ x ∈ l ++ [a], P x := fun x hx => by
  rcases List.mem_append.mp hx with h1 | h1
  · exact h x h1
  · rw [List.mem_singleton.mp h1]; exact ha
theorem l3Units_l0 (l : List Int) (hl : Bytes l) : ∀ (n : Nat) (p : Int) (us : List (List S52)), 0 ≤ p → p + 200 * n < 300000000000 → us.length + n ≤ 8 → (∀ u ∈ us, Small3 u) →
    ∃ (us' : List (List S52)) (q : Int), (∀ k, n + 50 ≤ k → spec_l3Units.l0 k us (n : Int) l p = some (us', q)) ∧ On p q (200 * n) ∧ us'.length = us.length + n ∧ ∀ u ∈ us', Small3 u
  | 0, p, us, hp, hp', hu, hs => by
    refine ⟨us, p, fun k hk => ?_, ⟨by omega, by omega⟩, by omega, hs⟩
    obtain ⟨k, rfl, _⟩ := succ_of (show 1 < k by omega)
    simp only [spec_l3Units.l0]
    rw [if_neg (by omega)]
  | n + 1, p, us, hp, hp', hu, hs => by
    obtain ⟨u, q, h, hq, h1, h2, h3⟩ := spec_l2Unit_f l hl p hp (by omega)
    have q0 := hq.1
    have q1 := hq.2
    have hw : wrap64 (((n + 1 : Nat) : Int) - 1) = (n : Int) := by rw [wrap_id (by omega) (by omega)]; push_cast; omega
    obtain ⟨us', q', g1, g2, g3, g4⟩ := l3Units_l0 l hl n q (us ++ [u]) (by omega) (by push_cast at hp'; omega) (by rw [List.length_append]; simp; omega) (all_snoc hs ⟨h2, h3⟩)
    refine ⟨us', q', fun k hk => ?_, ⟨by have := g2.1; omega, by have := g2.2; push_cast; omega⟩, by rw [g3, List.length_append]; simp; omega, g4⟩
    obtain ⟨k, rfl, hk'⟩ := succ_of (show n + 50 < k by omega)
    simp only [spec_l3Units.l0]
    rw [if_pos (by push_cast; omega), h k (by omega)]
    simp only [Option.bind_some]
    rw [if_pos (show us.length < 5864062014805 by omega), hw, g1 k hk']
theorem spec_l3Units_f (l : List Int) (hl : Bytes l) (p : Int) (hp : 0 ≤ p) (hp' : p < 200000000000) (a : Nat) (ha : a ≤ 6) :
    ∃ (us : List (List S52)) (q : Int), (∀ k, 70 ≤ k → spec_l3Units.f k l p (a : Int) = some (us, q)) ∧ On p q 2000 ∧ us.length ≤ a ∧ ∀ u ∈ us, Small3 u := by
  obtain ⟨n, hn, n0, n1⟩ := spec_l13Rd_pick_f l hl p ((a : Int) + 1) hp (by omega) (by omega)
  obtain ⟨m, rfl⟩ : ∃ m : Nat, n = m := ⟨n.toNat, by omega⟩
  obtain ⟨us, q, h1, h2, h3, h4⟩ := l3Units_l0 l hl m (p + 1) [] (by omega) (by omega) (by simp; omega) (by simp)
  refine ⟨us, q, fun k hk => ?_, ⟨by have := h2.1; omega, by have := h2.2; omega⟩, by rw [h3]; simp; omega, h4⟩
  unfold spec_l3Units.f
  rw [show wrap64 ((a : Int) + 1) = (a : Int) + 1 from wrap_id (by omega) (by omega), hn k (by omega)]
  simp only [Option.bind_some]
  rw [h1 k (by omega)]
theorem l3Thin_l1 (us : List (List S52)) (hus : ∀ u ∈ us, Small3 u) (i : Nat) (hi : i < us.length) (out : List (List S52)) (hout : out.length ≤ 8) : ∀ (m j : Nat) (acc : List S52) (names : List ByteArray), j + m = (us.getD i []).length → acc.length ≤ j → (∀ x ∈ acc, SmallF 5 x) → names.length + m ≤ 500 →
    ∃ (acc' : List S52) (names' : List ByteArray), (∀ k, 600 + m ≤ k → spec_l3Thin.l1 k us out names (i : Int) acc (j : Int) = spec_l3Thin.l0 (k - m - 1) us (out ++ [acc']) names' (wrap64 ((i : Int) + 1))) ∧ Small3 acc' ∧ names'.length ≤ names.length + m
  | 0, j, acc, names, hj, ha, hs, hn => by
    have hu := hus _ (getD_mem (d := []) hi)
    refine ⟨acc, names, fun k hk => ?_, ⟨by have := hu.1; omega, hs⟩, by omega⟩
    obtain ⟨k, rfl, _⟩ := succ_of (show 1 < k by omega)
    simp only [spec_l3Thin.l1]
    rw [show rd_L20 us (i : Int) = us.getD i [] from rfl, if_pos (by omega), if_pos (by omega), if_neg (by omega), if_pos (show out.length < 5864062014805 by omega)]
    rfl
  | m + 1, j, acc, names, hj, ha, hs, hn => by
    have hu := hus _ (getD_mem (d := []) hi)
    have hx : SmallF 5 ((us.getD i []).getD j z52) := hu.2 _ (getD_mem (by omega))
    have hw : wrap64 ((j : Int) + 1) = ((j + 1 : Nat) : Int) := by have := hu.1; rw [wrap_id (by omega) (by omega)]; push_cast; rfl
    have step : ∀ k, 600 ≤ k → spec_l3Thin.l1 (k + 1) us out names (i : Int) acc (j : Int) = if ((us.getD i []).getD j z52).f1 = true ∨ hasB names ((us.getD i []).getD j z52).f0 = false then spec_l3Thin.l1 k us out (names ++ [((us.getD i []).getD j z52).f0]) (i : Int) (acc ++ [(us.getD i []).getD j z52]) ((j + 1 : Nat) : Int) else spec_l3Thin.l1 k us out names (i : Int) acc ((j + 1 : Nat) : Int) := by
      intro k hk
      simp only [spec_l3Thin.l1]
      rw [show rd_L20 us (i : Int) = us.getD i [] from rfl, show rd_T52 (us.getD i []) (j : Int) = (us.getD i []).getD j z52 from rfl]
      rw [if_pos (by omega), if_pos (by omega), if_pos (by omega), if_pos (by omega), if_pos (show acc.length < 2932031007402 by have := hu.1; omega), if_pos (show names.length < 8796093022208 by omega), spec_l2Has_f names (by omega) _ k (by omega), hw]
      simp only [Option.bind_some]
      cases h1 : ((us.getD i []).getD j z52).f1 with
      | true => rw [if_pos rfl, if_pos (.inl rfl), ← h1]
      | false =>
        rw [if_neg (by decide)]
        cases h2 : hasB names ((us.getD i []).getD j z52).f0 with
        | true => rw [if_pos rfl, if_neg (by simp)]
        | false => rw [if_neg (by decide), if_pos (.inr rfl), ← h1]
    by_cases hc : ((us.getD i []).getD j z52).f1 = true ∨ hasB names ((us.getD i []).getD j z52).f0 = false
    · obtain ⟨acc', names', g1, g2, g3⟩ := l3Thin_l1 us hus i hi out hout m (j + 1) (acc ++ [(us.getD i []).getD j z52]) (names ++ [((us.getD i []).getD j z52).f0]) (by omega) (by rw [List.length_append]; simp; omega) (all_snoc hs hx) (by rw [List.length_append]; simp; omega)
      refine ⟨acc', names', fun k hk => ?_, g2, by rw [List.length_append] at g3; simp at g3; omega⟩
      obtain ⟨k, rfl, hk'⟩ := succ_of (show 600 + m < k by omega)
      rw [step k (by omega), if_pos hc, g1 k hk', show k + 1 - (m + 1) - 1 = k - m - 1 by omega]
    · obtain ⟨acc', names', g1, g2, g3⟩ := l3Thin_l1 us hus i hi out hout m (j + 1) acc names (by omega) (by omega) hs (by omega)
      refine ⟨acc', names', fun k hk => ?_, g2, by omega⟩
      obtain ⟨k, rfl, hk'⟩ := succ_of (show 600 + m < k by omega)
      rw [step k (by omega), if_neg hc, g1 k hk', show k + 1 - (m + 1) - 1 = k - m - 1 by omega]
theorem l3Thin_l0 (us : List (List S52)) (hus : ∀ u ∈ us, Small3 u) (hl : us.length ≤ 8) : ∀ (m i : Nat) (out : List (List S52)) (names : List ByteArray), i + m = us.length → out.length = i → (∀ u ∈ out, Small3 u) → names.length + 3 * m ≤ 400 →
    ∃ us' : List (List S52), (∀ k, 700 + 10 * m ≤ k → spec_l3Thin.l0 k us out names (i : Int) = some us') ∧ us'.length = us.length ∧ ∀ u ∈ us', Small3 u
  | 0, i, out, names, hi, ho, hs, hn => by
    refine ⟨out, fun k hk => ?_, by omega, hs⟩
    obtain ⟨k, rfl, _⟩ := succ_of (show 1 < k by omega)
    simp only [spec_l3Thin.l0]
    rw [if_neg (by omega)]
  | m + 1, i, out, names, hi, ho, hs, hn => by
    have hu := hus _ (getD_mem (d := []) (show i < us.length by omega))
    have hu1 := hu.1
    obtain ⟨acc, names', g1, g2, g3⟩ := l3Thin_l1 us hus i (by omega) out (by omega) (us.getD i []).length 0 [] names (by omega) (by simp) (by simp) (by omega)
    obtain ⟨us', f1, f2, f3⟩ := l3Thin_l0 us hus hl m (i + 1) (out ++ [acc]) names' (by omega) (by rw [List.length_append]; simp; omega) (all_snoc hs g2) (by omega)
    refine ⟨us', fun k hk => ?_, f2, f3⟩
    obtain ⟨k, rfl, hk'⟩ := succ_of (show 700 + 10 * m + 9 < k by omega)
    simp only [spec_l3Thin.l0]
    rw [if_pos (by omega)]
    have e := g1 k (by omega)
    rw [show ((0 : Nat) : Int) = 0 from rfl] at e
    rw [e, show wrap64 ((i : Int) + 1) = ((i + 1 : Nat) : Int) from by rw [wrap_id (by omega) (by omega)]; push_cast; rfl]
    exact f1 _ (by omega)
theorem spec_l3Thin_f (us : List (List S52)) (hus : ∀ u ∈ us, Small3 u) (hl : us.length ≤ 8) : ∃ us' : List (List S52), (∀ k, 1000 ≤ k → spec_l3Thin.f k us = some us') ∧ us'.length = us.length ∧ ∀ u ∈ us', Small3 u := by
  obtain ⟨us', h1, h2, h3⟩ := l3Thin_l0 us hus hl us.length 0 [] [] (by omega) rfl (by simp) (by simp; omega)
  exact ⟨us', fun k hk => h1 k (by omega), h2, h3⟩
def hit (u : UnitV) (a : ByteArray) (b : Bool) : Prop := 0 ≤ findI u a ∧ weakAt u a = b
theorem hitS_some (b : Bool) (a : ByteArray) : ∀ (l : List UnitV) (i : Nat) (p : Nat × Int), hitS b a l i = some p → ∃ n, p = (i + n, findI (l.getD n []) a) ∧ n < l.length ∧ hit (l.getD n []) a b ∧ ∀ m, m < n → ¬ hit (l.getD m []) a b
  | [], i, p, h => by simp [hitS] at h
  | u :: l, i, p, h => by
    simp only [hitS] at h
    by_cases hc : 0 ≤ findI u a ∧ weakAt u a = b
    · rw [if_pos hc] at h
      exact ⟨0, by simpa using (Option.some.inj h).symm, by simp, hc, fun m hm => absurd hm (by omega)⟩
    · rw [if_neg hc] at h
      obtain ⟨n, h1, h2, h3, h4⟩ := hitS_some b a l (i + 1) p h
      refine ⟨n + 1, by rw [h1]; simp; omega, by simpa using h2, by simpa using h3, fun m hm => ?_⟩
      cases m with
      | zero => exact hc
      | succ m => simpa using h4 m (by omega)
def SmallW (u : UnitV) : Prop := u.length ≤ 5 ∧ ∀ x ∈ u, SmallF 6 x
theorem Small3.w {u : UnitV} (h : Small3 u) : SmallW u := ⟨by have := h.1; omega, fun x hx => (h.2 x hx).mono (by omega)⟩
theorem len_sub {α : Type} {l m : List α} (hl : l.Nodup) (h : ∀ x ∈ l, x ∈ m) : l.length ≤ m.length := by
  classical
  induction l generalizing m with
  | nil => simp
  | cons a t ih =>
    have ha := h a (List.mem_cons_self ..)
    have hn := List.nodup_cons.mp hl
    have := ih hn.2 (m := m.erase a) (fun x hx => (List.mem_erase_of_ne (fun e => hn.1 (by rw [← e]; exact hx))).mpr (h x (List.mem_cons_of_mem _ hx)))
    rw [List.length_erase_of_mem ha] at this
    have h0 := List.length_pos_of_mem ha
    simp only [List.length_cons]
    omega
theorem has_not {l : List ByteArray} {a : ByteArray} (h : hasB l a = false) : a ∉ l := fun hm => by
  have : hasB l a = true := List.any_eq_true.mpr ⟨a, hm, by simp⟩
  rw [h] at this
  exact absurd this (by decide)
theorem walk_l1 (us : List UnitV) (R : List ByteArray) (hR : R.length ≤ 2000) (out : UnitV) (i : Int) (rs : List ByteArray) (hrs : rs.length ≤ 100) (hin : ∀ a ∈ rs, a ∈ R) : ∀ (m j : Nat) (ns : List ByteArray), j + m = rs.length → ns.Nodup → (∀ a ∈ ns, a ∈ R) →
    ∃ ns' : List ByteArray, (∀ k, 10000 + 2 * m ≤ k → spec_l4Walk.l1 k us ns out i rs (j : Int) = spec_l4Walk.l0 (k - m - 1) us ns' out (wrap64 (i + 1))) ∧ ns'.Nodup ∧ (∀ a ∈ ns', a ∈ R) ∧ ns.length ≤ ns'.length := by
  intro m
  induction m with
  | zero =>
    intro j ns hj hd hs
    refine ⟨ns, fun k hk => ?_, hd, hs, Nat.le_refl _⟩
    obtain ⟨k, rfl, _⟩ := succ_of (show 0 < k by omega)
    simp only [spec_l4Walk.l1]
    rw [if_neg (by omega)]
    rfl
  | succ m ih =>
    intro j ns hj hd hs
    have hlen := len_sub hd hs
    have hw : wrap64 ((j : Int) + 1) = ((j + 1 : Nat) : Int) := by rw [wrap_id (by omega) (by omega)]; push_cast; rfl
    have hmem : rs.getD j ByteArray.empty ∈ R := hin _ (getD_mem (by omega))
    cases hh : hasB ns (rs.getD j ByteArray.empty) with
    | true =>
      obtain ⟨ns', g1, g2, g3, g4⟩ := ih (j + 1) ns (by omega) hd hs
      refine ⟨ns', fun k hk => ?_, g2, g3, g4⟩
      obtain ⟨k, rfl, _⟩ := succ_of (show 0 < k by omega)
      simp only [spec_l4Walk.l1]
      rw [if_pos (by omega), if_pos (by omega), show rdOf ByteArray.empty rs (j : Int) = rs.getD j ByteArray.empty from rfl, spec_l2Has_f ns (by omega) _ k (by omega)]
      simp only [Option.bind_some]
      rw [hh, if_pos rfl, hw, g1 k (by omega), show k + 1 - (m + 1) - 1 = k - m - 1 by omega]
    | false =>
      have hd2 : (ns ++ [rs.getD j ByteArray.empty]).Nodup := by
        rw [List.nodup_append]
        refine ⟨hd, by simp, fun a ha b hb e => ?_⟩
        rw [List.mem_singleton.mp hb] at e
        exact has_not hh (e ▸ ha)
      have hs2 : ∀ a ∈ ns ++ [rs.getD j ByteArray.empty], a ∈ R := all_snoc hs hmem
      obtain ⟨ns', g1, g2, g3, g4⟩ := ih (j + 1) _ (by omega) hd2 hs2
      refine ⟨ns', fun k hk => ?_, g2, g3, by rw [List.length_append] at g4; simp at g4; omega⟩
      obtain ⟨k, rfl, _⟩ := succ_of (show 0 < k by omega)
      simp only [spec_l4Walk.l1]
      rw [if_pos (by omega), if_pos (by omega), show rdOf ByteArray.empty rs (j : Int) = rs.getD j ByteArray.empty from rfl, spec_l2Has_f ns (by omega) _ k (by omega)]
      simp only [Option.bind_some]
      rw [hh, if_neg (by decide), if_pos (by omega), hw, g1 k (by omega), show k + 1 - (m + 1) - 1 = k - m - 1 by omega]
theorem refs_sub : ∀ (l : List S110) (s : List ByteArray), ∀ a ∈ l.foldl (fun s x => refsAdd x s) s, a ∈ s ∨ ∃ y ∈ l, y.f2 = a
  | [], s, a, h => .inl h
  | x :: l, s, a, h => by
    rcases refs_sub l (refsAdd x s) a h with h1 | ⟨y, hy, e⟩
    · unfold refsAdd at h1
      split at h1
      · rcases List.mem_append.mp h1 with h2 | h2
        · exact .inl h2
        · exact .inr ⟨x, List.mem_cons_self .., (List.mem_singleton.mp h2).symm⟩
      · exact .inl h1
    · exact .inr ⟨y, List.mem_cons_of_mem _ hy, e⟩
theorem refsV_small {x : S52} {n : Nat} (h : SmallF n x) : ∀ a ∈ refsV x.f2, a.size ≤ 7 := fun a ha => by
  rcases refs_sub x.f2 [] a ha with h1 | ⟨y, hy, e⟩
  · simp at h1
  · rw [← e]; exact h.2.2 y hy
theorem pickV_in (us : List UnitV) (a : ByteArray) (h : (pickV us a).2.2 = true) : ∃ n : Nat, (pickV us a).1 = (n : Int) ∧ n < us.length ∧ 0 ≤ (pickV us a).2.1 ∧ (pickV us a).2.1 < (us.getD n []).length := by
  unfold pickV at h ⊢
  cases h1 : hitS false a us 0 with
  | some p =>
    obtain ⟨n, rfl, hn, hh, _⟩ := hitS_some false a us 0 p h1
    exact ⟨n, by simp, hn, hh.1, (findI_lo _ _).2⟩
  | none =>
    rw [h1] at h
    cases h2 : hitS true a us 0 with
    | some p =>
      obtain ⟨n, rfl, hn, hh, _⟩ := hitS_some true a us 0 p h2
      exact ⟨n, by simp, hn, hh.1, (findI_lo _ _).2⟩
    | none => rw [h2] at h; exact absurd h (by decide)
set_option maxRecDepth 100000 in
theorem walk_l0 (us : List UnitV) (hn : us.length ≤ 20) (hu : ∀ u ∈ us, SmallW u) (R : List ByteArray) (hR : R.length ≤ 2000) (hin : ∀ u ∈ us, ∀ x ∈ u, ∀ a ∈ refsV x.f2, a ∈ R) : ∀ (m i : Nat) (ns : List ByteArray) (out : UnitV), i + m = R.length → i ≤ ns.length → ns.Nodup → (∀ a ∈ ns, a ∈ R) → out.length = i → (∀ x ∈ out, SmallF 6 x) → (1 ≤ ns.length) →
    ∃ (p : UnitV) (b : Bool), (∀ k, 20000 + 200 * (m + 1) ≤ k → spec_l4Walk.l0 k us ns out (i : Int) = some (p, b)) ∧ p.length ≤ R.length ∧ (∀ x ∈ p, SmallF 6 x) ∧ (b = true → 1 ≤ p.length) := by
  have hu5 : ∀ u ∈ us, u.length ≤ 5 := fun u h => (hu u h).1
  intro m
  induction m with
  | zero =>
    intro i ns out hi hle hd hs ho hso h1
    have hlen := len_sub hd hs
    refine ⟨out, true, fun k hk => ?_, by omega, hso, fun _ => by omega⟩
    obtain ⟨k, rfl, _⟩ := succ_of (show 0 < k by omega)
    simp only [spec_l4Walk.l0]
    rw [if_neg (by omega)]
  | succ m ih =>
    intro i ns out hi hle hd hs ho hso h1
    have hlen := len_sub hd hs
    by_cases hlt : i < ns.length
    · cases hp : (pickV us (ns.getD i ByteArray.empty)).2.2 with
      | false =>
        refine ⟨[], false, fun k hk => ?_, by simp, by simp, by simp⟩
        obtain ⟨k, rfl, _⟩ := succ_of (show 0 < k by omega)
        simp only [spec_l4Walk.l0]
        rw [if_pos (by omega), if_pos (by omega), show rdOf ByteArray.empty ns (i : Int) = ns.getD i ByteArray.empty from rfl, spec_l3At_f us (by omega) 5 hu5 (by decide) _ k (by omega)]
        simp only [Option.bind_some]
        rw [hp, if_neg (by decide)]
      | true =>
        obtain ⟨n, e1, hn1, h0, h2⟩ := pickV_in us _ hp
        have hum := getD_mem (d := []) hn1
        have hxm : (us.getD n []).getD (pickV us (ns.getD i ByteArray.empty)).2.1.toNat z52 ∈ us.getD n [] := getD_mem (by omega)
        have hx := (hu _ hum).2 _ hxm
        have hr := refsV_len ((us.getD n []).getD (pickV us (ns.getD i ByteArray.empty)).2.1.toNat z52).f2
        have hx2 := hx.2.1
        obtain ⟨ns', g1, g2, g3, g4⟩ := walk_l1 us R hR (out ++ [(us.getD n []).getD (pickV us (ns.getD i ByteArray.empty)).2.1.toNat z52]) (i : Int) (refsV ((us.getD n []).getD (pickV us (ns.getD i ByteArray.empty)).2.1.toNat z52).f2) (by omega) (hin _ hum _ hxm) _ 0 ns (Nat.zero_add _) hd hs
        obtain ⟨p, b, f1, f2, f3, f4⟩ := ih (i + 1) ns' (out ++ [(us.getD n []).getD (pickV us (ns.getD i ByteArray.empty)).2.1.toNat z52]) (by omega) (by omega) g2 g3 (by rw [List.length_append]; simp; omega) (all_snoc hso hx) (by omega)
        refine ⟨p, b, fun k hk => ?_, f2, f3, f4⟩
        obtain ⟨k, rfl, _⟩ := succ_of (show 0 < k by omega)
        simp only [spec_l4Walk.l0]
        rw [if_pos (by omega), if_pos (by omega), show rdOf ByteArray.empty ns (i : Int) = ns.getD i ByteArray.empty from rfl, spec_l3At_f us (by omega) 5 hu5 (by decide) _ k (by omega)]
        simp only [Option.bind_some]
        rw [hp, if_pos rfl, e1, show rd_L20 us (n : Int) = us.getD n [] from rfl, show rd_T52 (us.getD n []) (pickV us (ns.getD i ByteArray.empty)).2.1 = (us.getD n []).getD (pickV us (ns.getD i ByteArray.empty)).2.1.toNat z52 from rfl, if_pos (by omega), if_pos (by omega), if_pos h0, if_pos h2, if_pos (by omega), spec_l2Refs_f _ (by omega) k (by omega)]
        simp only [Option.bind_some]
        have e := g1 k (by omega)
        rw [show ((0 : Nat) : Int) = 0 from rfl] at e
        refine e.trans ?_
        rw [show wrap64 ((i : Int) + 1) = ((i + 1 : Nat) : Int) from by rw [wrap_id (by omega) (by omega)]; push_cast; rfl]
        exact f1 _ (by omega)
    · refine ⟨out, true, fun k hk => ?_, by omega, hso, fun _ => by omega⟩
      obtain ⟨k, rfl, _⟩ := succ_of (show 0 < k by omega)
      simp only [spec_l4Walk.l0]
      rw [if_neg (by omega)]
set_option maxRecDepth 100000 in
theorem flat_len6 (us : List UnitV) (hn : us.length ≤ 20) (hu : ∀ u ∈ us, SmallW u) : (refsAll us.flatten).length ≤ 600 := by
  have h1 := flatten_len us 5 (fun u h => (hu u h).1)
  have h2 := refsAll_len 6 us.flatten (flat_bodies fun u h x hx => ((hu u h).2 x hx).2.1)
  have : us.flatten.length * 6 ≤ 600 := by omega
  omega
set_option maxRecDepth 100000 in
theorem spec_l4Walk_f (us : List UnitV) (hn : us.length ≤ 20) (hu : ∀ u ∈ us, SmallW u) (a : ByteArray) :
    ∃ (p : UnitV) (b : Bool), (∀ k, 1000000 ≤ k → spec_l4Walk.f k us a = some (p, b)) ∧ p.length ≤ 601 ∧ (∀ x ∈ p, SmallF 6 x) ∧ (b = true → 1 ≤ p.length) := by
  have hr := flat_len6 us hn hu
  obtain ⟨p, b, f1, f2, f3, f4⟩ := walk_l0 us hn hu (a :: refsAll us.flatten) (by simp only [List.length_cons]; omega) (fun u hu x hx c hc => List.mem_cons_of_mem _ (by
    unfold refsAll
    exact List.mem_flatMap.mpr ⟨x, List.mem_flatten.mpr ⟨u, hu, hx⟩, hc⟩)) (a :: refsAll us.flatten).length 0 [a] [] (Nat.zero_add _) (by simp) (by simp) (by simp) rfl (by simp) (by simp)
  refine ⟨p, b, fun k hk => ?_, by simp only [List.length_cons] at f2; omega, f3, f4⟩
  unfold spec_l4Walk.f
  exact f1 k (by simp only [List.length_cons]; omega)
theorem putB_all {P : ByteArray → Prop} (a : ByteArray) (ha : P a) : ∀ l : List ByteArray, (∀ x ∈ l, P x) → ∀ x ∈ putB l a, P x
  | [], _, x, hx => by simp only [putB, List.mem_singleton] at hx; rw [hx]; exact ha
  | y :: l, h, x, hx => by
    unfold putB at hx
    split at hx
    · rcases List.mem_cons.mp hx with rfl | hx
      · exact h _ (List.mem_cons_self ..)
      · exact putB_all a ha l (fun z hz => h z (List.mem_cons_of_mem _ hz)) x hx
    · split at hx
      · exact h x hx
      · rcases List.mem_cons.mp hx with rfl | hx
        · exact ha
        · exact h x hx
theorem puts_all {P : ByteArray → Prop} : ∀ (ns s : List ByteArray), (∀ x ∈ ns, P x) → (∀ x ∈ s, P x) → ∀ x ∈ ns.foldl putB s, P x
  | [], s, _, h => h
  | a :: ns, s, h1, h => puts_all ns (putB s a) (fun x hx => h1 x (List.mem_cons_of_mem _ hx)) (putB_all a (h1 a (List.mem_cons_self ..)) s h)
set_option maxRecDepth 100000 in
theorem l3Wants_some (us : List UnitV) (hn : us.length ≤ 20) (hu : ∀ u ∈ us, SmallW u) (a : ByteArray) (ha : a.size ≤ 7) : ∃ w : List ByteArray, (∀ k, 1000000 ≤ k → spec_l3Wants.f k us a = some w) ∧ ∀ x ∈ w, x.size ≤ 7 := by
  have hu5 : ∀ u ∈ us, u.length ≤ 5 := fun u h => (hu u h).1
  have hb : ∀ u ∈ us, ∀ x ∈ u, x.f2.length ≤ 10 := fun u h x hx => by have := ((hu u h).2 x hx).2.1; omega
  have hr := flat_len6 us hn hu
  have base : ∀ s : List ByteArray, s.length ≤ 1 → (∀ x ∈ s, x.size ≤ 7) → ∀ k, 900000 ≤ k → spec_l3Wants.j0 k us s = some (((refsAll us.flatten).foldl putB s).filter fun c => !(pickV us c).2.2) := by
    intro s hs _ k hk
    obtain ⟨k, rfl, _⟩ := succ_of (show 0 < k by omega)
    simp only [spec_l3Wants.j0]
    obtain ⟨k1, a1, a2⟩ := l3_l0 us hn hu5 hb us.length 0 k s (Nat.zero_add _) (by omega) (by omega)
    have hp := puts_len (refsAll us.flatten) s
    rw [show (0 : Int) = ((0 : Nat) : Int) from rfl, a2, List.drop_zero, show (0 : Int) = ((0 : Nat) : Int) from rfl, l3_l3 us hn hu5 _ (by omega) _ 0 k1 [] (Nat.zero_add _) (by simp; omega) (by omega), List.drop_zero, List.nil_append]
  have small : ∀ s : List ByteArray, (∀ x ∈ s, x.size ≤ 7) → ∀ x ∈ ((refsAll us.flatten).foldl putB s).filter fun c => !(pickV us c).2.2, x.size ≤ 7 := by
    intro s hs x hx
    refine puts_all (P := fun c => c.size ≤ 7) _ s (fun c hc => ?_) hs x (List.mem_filter.mp hx).1
    unfold refsAll at hc
    obtain ⟨y, hy, hc⟩ := List.mem_flatMap.mp hc
    obtain ⟨u, hum, hyu⟩ := List.mem_flatten.mp hy
    exact refsV_small ((hu u hum).2 y hyu) c hc
  by_cases h0 : a.toList = ([] : List UInt8)
  · refine ⟨_, fun k hk => ?_, small [] (by simp)⟩
    unfold spec_l3Wants.f
    simp only [Option.bind_some]
    rw [if_pos h0]
    exact base [] (by simp) (by simp) k (by omega)
  · have hs1 : ∀ x ∈ putB [] a, x.size ≤ 7 := putB_all (P := fun c => c.size ≤ 7) a ha [] (by simp)
    refine ⟨_, fun k hk => ?_, small (putB [] a) hs1⟩
    unfold spec_l3Wants.f
    simp only [Option.bind_some]
    rw [if_neg h0, spec_l2Put_f [] (by simp) a k (by simp; omega)]
    simp only [Option.bind_some]
    exact base (putB [] a) (by have := putB_len a []; simpa using this) hs1 k (by omega)
theorem close_l0 (l : List Int) (hl : Bytes l) (a : ByteArray) (ha : a.size ≤ 7) : ∀ (m i : Nat) (us : List UnitV) (p : Int), i + m = 7 → us.length + m ≤ 20 → (∀ u ∈ us, SmallW u) → 0 ≤ p → p + 50 * m < 500000000000 →
    ∃ (us' : List UnitV) (q : Int), (∀ k, 1000000 + m + 1 ≤ k → spec_l4Close.l0 k a us (i : Int) l p = some (us', q)) ∧ On p q (50 * m) ∧ us'.length ≤ 20 ∧ ∀ u ∈ us', SmallW u
  | 0, i, us, p, hi, hn, hs, hp, hp' => by
    refine ⟨us, p, fun k hk => ?_, ⟨by omega, by omega⟩, by omega, hs⟩
    obtain ⟨k, rfl, _⟩ := succ_of (show 0 < k by omega)
    simp only [spec_l4Close.l0]
    rw [if_neg (by omega)]
  | m + 1, i, us, p, hi, hn, hs, hp, hp' => by
    obtain ⟨w, hw, hws⟩ := l3Wants_some us (by omega) hs a ha
    have hwr : wrap64 ((i : Int) + 1) = ((i + 1 : Nat) : Int) := by rw [wrap_id (by omega) (by omega)]; push_cast; rfl
    by_cases h0 : (w.length : Int) = 0
    · refine ⟨us, p, fun k hk => ?_, ⟨by omega, by omega⟩, by omega, hs⟩
      obtain ⟨k, rfl, _⟩ := succ_of (show 0 < k by omega)
      simp only [spec_l4Close.l0]
      rw [if_pos (by omega), hw k (by omega)]
      simp only [Option.bind_some]
      rw [if_pos h0]
    · have hz : (w.getD 0 ByteArray.empty).size ≤ 7 := hws _ (getD_mem (by omega))
      obtain ⟨x, q, hx, hq, hsm⟩ := spec_l2Fun_f l hl p hp (by omega) (w.getD 0 ByteArray.empty) hz
      have q0 := hq.1
      have q1 := hq.2
      have one : ∀ y : S52, SmallF 6 y → SmallW [y] := fun y hy => ⟨by simp, fun z hz => by rw [List.mem_singleton.mp hz]; exact hy⟩
      by_cases h3 : (i : Int) > 3
      · obtain ⟨us', q', g1, g2, g3, g4⟩ := close_l0 l hl a ha m (i + 1) (us ++ [[⟨w.getD 0 ByteArray.empty, false, [⟨6, 0, ⟨#[]⟩⟩]⟩]]) q (by omega) (by rw [List.length_append]; simp; omega) (all_snoc hs (one _ ⟨hz, by simp, fun y hy => by rw [List.mem_singleton.mp hy]; decide⟩)) (by omega) (by push_cast at hp'; omega)
        refine ⟨us', q', fun k hk => ?_, ⟨by have := g2.1; omega, by have := g2.2; push_cast; omega⟩, g3, g4⟩
        obtain ⟨k, rfl, _⟩ := succ_of (show 0 < k by omega)
        simp only [spec_l4Close.l0]
        rw [if_pos (by omega), hw k (by omega)]
        simp only [Option.bind_some]
        rw [if_neg h0, if_pos (by omega), show rdOf ByteArray.empty w 0 = w.getD 0 ByteArray.empty from rfl, hx k (by omega)]
        simp only [Option.bind_some]
        rw [if_pos h3, if_pos (by omega), hwr]
        exact g1 k (by omega)
      · obtain ⟨us', q', g1, g2, g3, g4⟩ := close_l0 l hl a ha m (i + 1) (us ++ [[⟨x.f0, x.f1, x.f2⟩]]) q (by omega) (by rw [List.length_append]; simp; omega) (all_snoc hs (one _ (hsm.mono (by omega)))) (by omega) (by push_cast at hp'; omega)
        refine ⟨us', q', fun k hk => ?_, ⟨by have := g2.1; omega, by have := g2.2; push_cast; omega⟩, g3, g4⟩
        obtain ⟨k, rfl, _⟩ := succ_of (show 0 < k by omega)
        simp only [spec_l4Close.l0]
        rw [if_pos (by omega), hw k (by omega)]
        simp only [Option.bind_some]
        rw [if_neg h0, if_pos (by omega), show rdOf ByteArray.empty w 0 = w.getD 0 ByteArray.empty from rfl, hx k (by omega)]
        simp only [Option.bind_some]
        rw [if_neg h3, if_pos (by omega), hwr]
        exact g1 k (by omega)
theorem spec_l4Prog_f (l : List Int) (hl : Bytes l) (p : Int) (hp : 0 ≤ p) (hp' : p < 100000000000) : ∃ (u : UnitV) (q : Int), (∀ k, 2000000 ≤ k → spec_l4Prog.f k l p = some (u, q)) ∧ On p q 3000 ∧ 1 ≤ u.length ∧ u.length ≤ 601 ∧ ∀ x ∈ u, SmallF 6 x := by
  obtain ⟨us, q1, h1, hq1, n1, s1⟩ := spec_l3Units_f l hl p hp (by omega) 3 (by decide)
  have a0 := hq1.1
  have a1 := hq1.2
  obtain ⟨ut, h2, n2, s2⟩ := spec_l3Thin_f us s1 (by omega)
  obtain ⟨uc, q2, h3, hq2, n3, s3⟩ := close_l0 l hl (⟨#[109, 97, 105, 110]⟩ : ByteArray) (by decide) 7 0 ut q1 rfl (by omega) (fun u hu => (s2 u hu).w) (by omega) (by omega)
  have b0 := hq2.1
  have b1 := hq2.2
  obtain ⟨w, b, h4, n4, s4, ne⟩ := spec_l4Walk_f uc n3 s3 (⟨#[109, 97, 105, 110]⟩ : ByteArray)
  have base : ∀ k, 2000000 ≤ k → spec_l4Prog.f k l p = if b = true then some (w, q2) else some ([⟨⟨#[109, 97, 105, 110]⟩, false, [⟨2, 1, ⟨#[]⟩⟩, ⟨1, 0, ⟨#[]⟩⟩, ⟨7, 0, ⟨#[]⟩⟩]⟩], q2) := by
    intro k hk
    unfold spec_l4Prog.f
    rw [show (3 : Int) = ((3 : Nat) : Int) from rfl, h1 k (by omega)]
    simp only [Option.bind_some]
    rw [h2 k (by omega)]
    simp only [Option.bind_some]
    unfold spec_l4Close.f
    simp only [Option.bind_some, List.nil_append, List.length_nil]
    rw [if_pos (by omega), show (0 : Int) = ((0 : Nat) : Int) from rfl, h3 k (by omega)]
    simp only [Option.bind_some]
    rw [h4 k (by omega)]
    simp only [Option.bind_some]
  cases b with
  | true => exact ⟨w, q2, fun k hk => by rw [base k hk, if_pos rfl], ⟨by omega, by omega⟩, ne rfl, n4, s4⟩
  | false =>
    refine ⟨_, q2, fun k hk => by rw [base k hk, if_neg (by decide)], ⟨by omega, by omega⟩, by simp, by simp, fun x hx => ?_⟩
    rw [List.mem_singleton.mp hx]
    refine ⟨by decide, by simp, fun y hy => ?_⟩
    simp only [List.mem_cons, List.not_mem_nil, or_false] at hy
    rcases hy with rfl | rfl | rfl <;> decide
theorem bent_j1 (l : List Int) (hl : Bytes l) (u : UnitV) (h1 : 1 ≤ u.length) (h2 : u.length ≤ 602) (hs : ∀ x ∈ u, SmallF 6 x) (p : Int) (hp : 0 ≤ p) (hp' : p < 800000000000) : ∃ (v : UnitV) (q : Int), (∀ k, 100 ≤ k → spec_l4Bent.j1 k u l p = some (v, q)) ∧ On p q 1 ∧ v.length ≤ 603 ∧ ∀ x ∈ v, SmallF 6 x := by
  obtain ⟨c, hc, c0, c1⟩ := spec_l13Rd_pick_f l hl p 40 hp (by omega) (by omega)
  have hx0 : SmallF 6 (u.getD 0 z52) := hs _ (getD_mem (by omega))
  have base : ∀ k, 100 ≤ k → spec_l4Bent.j1 k u l p = if c = 0 then some (u ++ [⟨⟨#[122, 120]⟩, false, [⟨4, 0, ⟨#[110, 111, 119, 104]⟩⟩]⟩], p + 1) else if c = 1 then some (u ++ [u.getD 0 z52], p + 1) else if c = 2 then some ([], p + 1) else if c = 3 then some (u.set 0 ⟨(u.getD 0 z52).f0, (u.getD 0 z52).f1, []⟩, p + 1) else some (u, p + 1) := by
    intro k hk
    obtain ⟨k, rfl, _⟩ := succ_of (show 0 < k by omega)
    simp only [spec_l4Bent.j1]
    rw [hc k (by omega)]
    simp only [Option.bind_some]
    rw [show rd_T52 u 0 = u.getD 0 z52 from rfl, if_pos (show u.length < 2932031007402 by omega), if_pos (show (0 : Int) < (u.length : Int) by omega), if_pos (show u.length < 2932031007402 by omega), if_pos (show (0 : Int) ≤ (u.length : Int) by omega), if_pos (show (0 : Int) < (u.length : Int) by omega)]
    rfl
  have on1 : On p (p + 1) 1 := ⟨by omega, by omega⟩
  by_cases e0 : c = 0
  · refine ⟨_, p + 1, fun k hk => by rw [base k hk, if_pos e0], on1, by rw [List.length_append]; simp; omega, all_snoc hs ⟨by decide, by simp, fun y hy => ?_⟩⟩
    simp only [List.mem_cons, List.not_mem_nil, or_false] at hy
    rw [hy]; decide
  by_cases e1 : c = 1
  · exact ⟨_, p + 1, fun k hk => by rw [base k hk, if_neg e0, if_pos e1], on1, by rw [List.length_append]; simp; omega, all_snoc hs hx0⟩
  by_cases e2 : c = 2
  · exact ⟨[], p + 1, fun k hk => by rw [base k hk, if_neg e0, if_neg e1, if_pos e2], on1, by simp, by simp⟩
  by_cases e3 : c = 3
  · refine ⟨_, p + 1, fun k hk => by rw [base k hk, if_neg e0, if_neg e1, if_neg e2, if_pos e3], on1, by rw [List.length_set]; omega, fun x hx => ?_⟩
    rcases List.mem_or_eq_of_mem_set hx with h | h
    · exact hs x h
    · rw [h]; exact ⟨hx0.1, by simp, fun y hy => absurd hy (by simp)⟩
  · exact ⟨u, p + 1, fun k hk => by rw [base k hk, if_neg e0, if_neg e1, if_neg e2, if_neg e3], on1, by omega, hs⟩
theorem bent_j0 (l : List Int) (hl : Bytes l) (u : UnitV) (h1 : 1 ≤ u.length) (h2 : u.length ≤ 601) (hs : ∀ x ∈ u, SmallF 6 x) (b : Bool) (p : Int) (hp : 0 ≤ p) (hp' : p < 800000000000) : ∃ (v : UnitV) (q : Int), (∀ k, 200 ≤ k → spec_l4Bent.j0 k u b l p = some (v, q)) ∧ On p q 1 ∧ v.length ≤ 603 ∧ ∀ x ∈ v, SmallF 6 x := by
  have hx0 : SmallF 6 (u.getD 0 z52) := hs _ (getD_mem (by omega))
  cases b with
  | false =>
    obtain ⟨v, q, g1, g2, g3, g4⟩ := bent_j1 l hl u h1 (by omega) hs p hp hp'
    refine ⟨v, q, fun k hk => ?_, g2, g3, g4⟩
    obtain ⟨k, rfl, _⟩ := succ_of (show 0 < k by omega)
    simp only [spec_l4Bent.j0]
    rw [if_neg (by decide)]
    exact g1 k (by omega)
  | true =>
    obtain ⟨v, q, g1, g2, g3, g4⟩ := bent_j1 l hl (u ++ [⟨⟨#[122, 122]⟩, false, [⟨3, 0, (u.getD 0 z52).f0⟩, ⟨6, 0, ⟨#[]⟩⟩]⟩]) (by rw [List.length_append]; simp) (by rw [List.length_append]; simp; omega) (all_snoc hs ⟨by show (⟨#[122, 122]⟩ : ByteArray).size ≤ 7; decide, by simp, fun y hy => by
      simp only [List.mem_cons, List.not_mem_nil, or_false] at hy
      rcases hy with rfl | rfl
      · exact hx0.1
      · decide⟩) p hp hp'
    refine ⟨v, q, fun k hk => ?_, g2, g3, g4⟩
    obtain ⟨k, rfl, _⟩ := succ_of (show 0 < k by omega)
    simp only [spec_l4Bent.j0]
    rw [if_pos trivial, if_pos (by omega), if_pos (by omega)]
    exact g1 k (by omega)
theorem spec_l4Bent_f (l : List Int) (hl : Bytes l) (p : Int) (hp : 0 ≤ p) (hp' : p < 100000000000) : ∃ (u : UnitV) (q : Int), (∀ k, 2000000 ≤ k → spec_l4Bent.f k l p = some (u, q)) ∧ On p q 4000 ∧ u.length ≤ 603 ∧ ∀ x ∈ u, SmallF 6 x := by
  obtain ⟨u, q, h, hq, n1, n2, hs⟩ := spec_l4Prog_f l hl p hp hp'
  have q0 := hq.1
  have q1 := hq.2
  obtain ⟨c, hc, c0, c1⟩ := spec_l13Rd_pick_f l hl q 3 (by omega) (by omega) (by omega)
  obtain ⟨v1, r1, f1, f2, f3, f4⟩ := bent_j0 l hl u n1 n2 hs (decide (findI u (⟨#[122, 122]⟩ : ByteArray) < 0)) (q + 1) (by omega) (by omega)
  obtain ⟨v2, r2, g1, g2, g3, g4⟩ := bent_j0 l hl u n1 n2 hs false (q + 1) (by omega) (by omega)
  by_cases e : c = 0
  · refine ⟨v1, r1, fun k hk => ?_, ⟨by have := f2.1; omega, by have := f2.2; omega⟩, f3, f4⟩
    unfold spec_l4Bent.f
    rw [h k (by omega)]
    simp only [Option.bind_some]
    rw [hc k (by omega)]
    simp only [Option.bind_some]
    rw [if_pos e, spec_l2Find_f u (by omega) _ k (by omega)]
    simp only [Option.bind_some]
    exact f1 k (by omega)
  · refine ⟨v2, r2, fun k hk => ?_, ⟨by have := g2.1; omega, by have := g2.2; omega⟩, g3, g4⟩
    unfold spec_l4Bent.f
    rw [h k (by omega)]
    simp only [Option.bind_some]
    rw [hc k (by omega)]
    simp only [Option.bind_some]
    rw [if_neg e]
    exact g1 k (by omega)
theorem ordered_len {ns : List ByteArray} (h : ns.Nodup) : (orderedV ns).length = ns.length :=
  Nat.le_antisymm (orderedV_len ns) (len_sub h fun x hx => (mem_ordered x ns).mpr hx)
theorem keep_at {p : UnitV} (h : keepOkB p = true) (i : Nat) (hi : i < p.length) : findI p (p.getD i z52).f0 = (i : Int) := by
  have key : ∀ (l : List S52) (j : Nat), allFrom (fun i x => funOkB x.f0 x.f2 && (findI p x.f0 == (i : Int))) l j = true → ∀ i, i < l.length → findI p (l.getD i z52).f0 = ((j + i : Nat) : Int) := by
    intro l
    induction l with
    | nil => intro j _ i hi; simp at hi
    | cons x l ih =>
      intro j h i hi
      simp only [allFrom, Bool.and_eq_true, beq_iff_eq] at h
      cases i with
      | zero => simpa using h.1.2
      | succ i =>
        have := ih (j + 1) h.2 i (by simpa using hi)
        simp only [List.getD_cons_succ]
        rw [this]
        congr 1
        omega
  unfold keepOkB at h
  simp only [Bool.and_eq_true] at h
  have := key p 0 h.2.1 i hi
  simpa using this
theorem keep_fun {p : UnitV} (h : keepOkB p = true) : ∀ x ∈ p, funOkB x.f0 x.f2 = true := by
  have key : ∀ (l : List S52) (j : Nat), allFrom (fun i x => funOkB x.f0 x.f2 && (findI p x.f0 == (i : Int))) l j = true → ∀ x ∈ l, funOkB x.f0 x.f2 = true := by
    intro l
    induction l with
    | nil => intro j _ i hi; simp at hi
    | cons x l ih =>
      intro j h y hy
      simp only [allFrom, Bool.and_eq_true, beq_iff_eq] at h
      rcases List.mem_cons.mp hy with rfl | hy
      · exact h.1.1
      · exact ih (j + 1) h.2 y hy
  unfold keepOkB at h
  simp only [Bool.and_eq_true] at h
  exact key p 0 h.2.1
theorem keep_names {p : UnitV} (h : keepOkB p = true) : (p.map (·.f0)).Nodup := by
  unfold List.Nodup
  rw [List.pairwise_map]
  refine List.pairwise_iff_getElem.mpr fun i j hi hj hij e => ?_
  have a := keep_at h i hi
  have b := keep_at h j hj
  rw [List.getD_eq_getElem?_getD, List.getElem?_eq_getElem hi] at a
  rw [List.getD_eq_getElem?_getD, List.getElem?_eq_getElem hj] at b
  simp only [Option.getD_some] at a b
  rw [e, b] at a
  omega
theorem names_nodup {p : UnitV} (h : keepOkB p = true) (q : S52 → Bool) : (namesOf q p).Nodup := by
  unfold namesOf
  exact List.Nodup.sublist (List.Sublist.map _ List.filter_sublist) (keep_names h)
theorem named_len {p : UnitV} (h : keepOkB p = true) (q : S52 → Bool) : (namedV q p).length = (p.filter q).length := by
  unfold namedV
  rw [if_pos h, ordered_len (names_nodup h q)]
  unfold namesOf
  rw [List.length_map]
theorem has_iff (l : List ByteArray) (a : ByteArray) : hasB l a = true ↔ a ∈ l := by
  unfold hasB
  rw [List.any_eq_true]
  constructor
  · rintro ⟨b, hb, e⟩
    have e2 := beq_iff_eq.mp e
    rw [Lib.toList_data, Lib.toList_data] at e2
    have : b = a := ByteArray.ext (Array.toList_inj.mp e2)
    rwa [← this]
  · intro h; exact ⟨a, h, by simp⟩
theorem named_has {p : UnitV} (h : keepOkB p = true) (q : S52 → Bool) (i : Nat) (hi : i < p.length) : hasB (namedV q p) (p.getD i z52).f0 = q (p.getD i z52) := by
  rw [Bool.eq_iff_iff, has_iff]
  unfold namedV
  rw [if_pos h, mem_ordered]
  unfold namesOf
  rw [List.mem_map]
  constructor
  · rintro ⟨x, hx, e⟩
    rw [List.mem_filter] at hx
    obtain ⟨j, hj, rfl⟩ := List.mem_iff_getElem.mp hx.1
    have a := keep_at h i hi
    have b := keep_at h j hj
    rw [List.getD_eq_getElem?_getD, List.getElem?_eq_getElem hj] at b
    simp only [Option.getD_some] at b
    rw [e, a] at b
    have : i = j := by omega
    subst this
    rw [List.getD_eq_getElem?_getD, List.getElem?_eq_getElem hi]
    exact hx.2
  · intro hq
    exact ⟨_, List.mem_filter.mpr ⟨getD_mem hi, hq⟩, rfl⟩
theorem impl_GraphBy_f (p : List S52) (hn : p.length ≤ 140737488351232) (hx : ∀ x ∈ p, FitF x) (a : ByteArray) (k : Nat) (hk : 0 ≤ k) : impl_GraphBy.f p a = some (byV p a) := by
  unfold impl_GraphBy.f
  rw [if_pos ⟨hn, hx⟩]
theorem spec_GraphBy_f (p : List S52) (hn : p.length ≤ 140737488351232) (hx : ∀ x ∈ p, FitF x) (a : ByteArray) (k : Nat) (hk : 100000000000000000 ≤ k) : spec_GraphBy.f k p a = some (byV p a) := by
  unfold spec_GraphBy.f byV namedV
  cases hq : keepOkB p with
  | false =>
    obtain ⟨k, rfl⟩ : ∃ m, k = m + 2 := ⟨k - 2, by omega⟩
    have e1 : spec_GraphBy.j1 (k + 1) p a [] 0 false = some [] := by simp only [spec_GraphBy.j1]; rfl
    have e2 : spec_KeepOk.f (k + 1) p = some false := by rw [spec_KeepOk_f p hn hx _ (by omega), hq]
    show spec_GraphBy.l0 (k + 1 + 1) p a [] 0 = _
    simp only [spec_GraphBy.l0]
    rw [e2, e1]
    split <;> rfl
  | true =>
    obtain ⟨hb, hb2⟩ := keepOk_bounds hq
    rw [if_pos rfl]
    refine (loop_var (fun _ x s => if hasB (refsV x.f2) a then (.inl (putB s x.f0) : List ByteArray ⊕ Option (List ByteArray)) else .inl s) (fun s => some s) (fun i s => s.length ≤ i) z52 p (by omega) (fun k s i => spec_GraphBy.l0 k p a s i) 1000000000000002 10 ?_ ?_ k (by omega) [] (by simp)).trans (by rw [runS_named (fun x => hasB (refsV x.f2) a), puts_ordered])
    · intro k i s hK hi hs
      have hx2 := hb2 _ (getD_mem (d := z52) hi)
      have hp := putB_len (p.getD i z52).f0 s
      obtain ⟨k, rfl⟩ : ∃ m, k = m + 1 := ⟨k - 1, by omega⟩
      have e : spec_GraphBy.l0 (k + 1 + 1) p a s (i : Int) = if hasB (refsV (p.getD i z52).f2) a then spec_GraphBy.l0 k p a (putB s (p.getD i z52).f0) (wrap64 ((i : Int) + 1)) else spec_GraphBy.l0 k p a s (wrap64 ((i : Int) + 1)) := by
        simp only [spec_GraphBy.l0]
        rw [if_pos (by omega), spec_KeepOk_f p hn hx _ (by omega), hq]
        simp only [Option.bind_some, spec_GraphBy.j1]
        rw [if_pos trivial, if_pos (by omega), if_pos (by omega), show rd_T52 p (i : Int) = p.getD i z52 from rfl, spec_l2Refs_f (p.getD i z52).f2 (by omega) k (by omega)]
        simp only [Option.bind_some]
        have hrl := refsV_len (p.getD i z52).f2
        rw [spec_l2Has_f _ (by omega) a k (by omega)]
        simp only [Option.bind_some]
        rw [spec_l2Put_f s (by omega) _ k (by omega)]
        split <;> rfl
      simp only [e]
      by_cases h : hasB (refsV (p.getD i z52).f2) a = true
      · rw [if_pos h]
        exact ⟨by omega, k, by omega, by rw [if_pos h]⟩
      · rw [if_neg h]
        exact ⟨by omega, k, by omega, by rw [if_neg h]⟩
    · intro k s hK hs
      obtain ⟨k, rfl⟩ : ∃ m, k = m + 1 := ⟨k - 1, by omega⟩
      simp only [spec_GraphBy.l0, spec_GraphBy.j1]
      rw [if_neg (by omega), if_neg (by decide)]
theorem impl_GraphLeaf_f (p : List S52) (hn : p.length ≤ 140737488351232) (hx : ∀ x ∈ p, FitF x) (k : Nat) (hk : 0 ≤ k) : impl_GraphLeaf.f p = some (leafV p) := by
  unfold impl_GraphLeaf.f
  rw [if_pos ⟨hn, hx⟩]
theorem spec_GraphLeaf_f (p : List S52) (hn : p.length ≤ 140737488351232) (hx : ∀ x ∈ p, FitF x) (k : Nat) (hk : 100000000000000000 ≤ k) : spec_GraphLeaf.f k p = some (leafV p) := by
  unfold spec_GraphLeaf.f leafV namedV
  cases hq : keepOkB p with
  | false =>
    obtain ⟨k, rfl⟩ : ∃ m, k = m + 2 := ⟨k - 2, by omega⟩
    have e1 : spec_GraphLeaf.j1 (k + 1) p [] 0 false = some [] := by simp only [spec_GraphLeaf.j1]; rfl
    have e2 : spec_KeepOk.f (k + 1) p = some false := by rw [spec_KeepOk_f p hn hx _ (by omega), hq]
    show spec_GraphLeaf.l0 (k + 1 + 1) p [] 0 = _
    simp only [spec_GraphLeaf.l0]
    rw [e2, e1]
    split <;> rfl
  | true =>
    obtain ⟨hb, hb2⟩ := keepOk_bounds hq
    rw [if_pos rfl]
    refine (loop_var (fun _ x s => if isLeaf x then (.inl (putB s x.f0) : List ByteArray ⊕ Option (List ByteArray)) else .inl s) (fun s => some s) (fun i s => s.length ≤ i) z52 p (by omega) (fun k s i => spec_GraphLeaf.l0 k p s i) 1000000000000002 10 ?_ ?_ k (by omega) [] (by simp)).trans (by rw [runS_named, puts_ordered])
    · intro k i s hK hi hs
      have hx2 := hb2 _ (getD_mem (d := z52) hi)
      have hp := putB_len (p.getD i z52).f0 s
      obtain ⟨k, rfl⟩ : ∃ m, k = m + 1 := ⟨k - 1, by omega⟩
      have e : spec_GraphLeaf.l0 (k + 1 + 1) p s (i : Int) = if isLeaf (p.getD i z52) then spec_GraphLeaf.l0 k p (putB s (p.getD i z52).f0) (wrap64 ((i : Int) + 1)) else spec_GraphLeaf.l0 k p s (wrap64 ((i : Int) + 1)) := by
        simp only [spec_GraphLeaf.l0]
        rw [if_pos (by omega), spec_KeepOk_f p hn hx _ (by omega), hq]
        simp only [Option.bind_some, spec_GraphLeaf.j1]
        rw [if_pos trivial, if_pos (by omega), if_pos (by omega), show rd_T52 p (i : Int) = p.getD i z52 from rfl, spec_l2Refs_f (p.getD i z52).f2 (by omega) k (by omega)]
        simp only [Option.bind_some]
        have e3 : isLeaf (p.getD i z52) = decide (((refsV (p.getD i z52).f2).length : Int) = 0) := by
          unfold isLeaf
          rw [Bool.eq_iff_iff, beq_iff_eq, decide_eq_true_eq]
          omega
        rw [e3, spec_l2Put_f s (by omega) _ k (by omega)]
        by_cases h : ((refsV (p.getD i z52).f2).length : Int) = 0
        · rw [if_pos h, if_pos (decide_eq_true h)]; rfl
        · rw [if_neg h, if_neg (by rw [decide_eq_false h]; decide)]
      simp only [e]
      by_cases h : isLeaf (p.getD i z52) = true
      · rw [if_pos h]
        exact ⟨by omega, k, by omega, by rw [if_pos h]⟩
      · rw [if_neg h]
        exact ⟨by omega, k, by omega, by rw [if_neg h]⟩
    · intro k s hK hs
      obtain ⟨k, rfl⟩ : ∃ m, k = m + 1 := ⟨k - 1, by omega⟩
      simp only [spec_GraphLeaf.l0, spec_GraphLeaf.j1]
      rw [if_neg (by omega), if_neg (by decide)]
end Go.Proofs.Ytppmalfpggkpdaa.L
namespace Go.Proofs.Ytppmalfpggkpdaa.Pure
open Go.RowKit Go.Proofs.Ytppmalfpggkpdaa.P Go.Proofs.Ytppmalfpggkpdaa.L Go.Proofs.YtppmalfpggkpdaaW.PrintWords
theorem reach_no (l : List Int) (hl : Bytes l) (p : UnitV) (q : Int) (q0 : 0 ≤ q) (q1 : q < 900000000000) : ∃ s, ∀ k, 100 ≤ k → spec_DrawKeepReach.j0 k p false l q = some (p, s) := by
  obtain ⟨s, hs, _⟩ := spec_l1Name_f l hl q q0 (by omega)
  refine ⟨s, fun k hk => ?_⟩
  obtain ⟨k, rfl, _⟩ := succ_of (show 0 < k by omega)
  simp only [spec_DrawKeepReach.j0]
  rw [if_neg (by decide), hs k (by omega)]
  rfl
theorem reach_yes (l : List Int) (hl : Bytes l) (p : UnitV) (hp : 0 < p.length) (hp2 : p.length ≤ 1000) (q : Int) (q0 : 0 ≤ q) (q1 : q < 900000000000) : ∃ s, ∀ k, 100 ≤ k → spec_DrawKeepReach.j0 k p true l q = some (p, s) := by
  obtain ⟨d, hd, d0, d1⟩ := spec_l13Rd_pick_f l hl q (p.length : Int) q0 (by omega) (by omega)
  refine ⟨(rd_T52 p d).f0, fun k hk => ?_⟩
  obtain ⟨k, rfl, _⟩ := succ_of (show 0 < k by omega)
  simp only [spec_DrawKeepReach.j0]
  rw [if_pos trivial, hd k (by omega)]
  simp only [Option.bind_some]
  rw [if_pos (by omega), if_pos (by omega)]
theorem draw_reach (l : List Int) (hl : Bytes l) : ∃ p s, (∀ k, 3000000 ≤ k → spec_DrawGraphBy.f k l = some (p, s)) ∧ p.length ≤ 603 ∧ ∀ x ∈ p, SmallF 6 x := by
  obtain ⟨l', e, hl', _⟩ := spec_l13Open_f l hl
  obtain ⟨p, q, h, hq, hn, hs⟩ := spec_l4Bent_f l' hl' 0 (by decide) (by decide)
  have q0 := hq.1
  have q1 := hq.2
  obtain ⟨c, hc, c0, c1⟩ := spec_l13Rd_pick_f l' hl' q 4 (by omega) (by omega) (by omega)
  have base : ∀ k, 3000000 ≤ k → spec_DrawGraphBy.f k l = if (p.length : Int) > 0 then (spec_DrawKeepReach.j0 k p (decide (c > 0)) l' (q + 1)).bind (fun b => some (b.1, b.2)) else (spec_DrawKeepReach.j0 k p false l' q).bind (fun b => some (b.1, b.2)) := by
    intro k hk
    unfold spec_DrawGraphBy.f spec_DrawKeepReach.f
    rw [e]; simp only [Option.bind_some]
    rw [h k (by omega)]; simp only [Option.bind_some]
    rw [hc k (by omega)]; simp only [Option.bind_some]
    split <;> rfl
  by_cases h0 : (p.length : Int) > 0
  · by_cases h1 : c > 0
    · obtain ⟨s, hj⟩ := reach_yes l' hl' p (by omega) (by omega) (q + 1) (by omega) (by omega)
      exact ⟨p, s, fun k hk => by rw [base k hk, if_pos h0, decide_eq_true h1, hj k (by omega)]; rfl, hn, hs⟩
    · obtain ⟨s, hj⟩ := reach_no l' hl' p (q + 1) (by omega) (by omega)
      exact ⟨p, s, fun k hk => by rw [base k hk, if_pos h0, decide_eq_false h1, hj k (by omega)]; rfl, hn, hs⟩
  · obtain ⟨s, hj⟩ := reach_no l' hl' p q (by omega) (by omega)
    exact ⟨p, s, fun k hk => by rw [base k hk, if_neg h0, hj k (by omega)]; rfl, hn, hs⟩
theorem runS_or {β : Type} (q : ByteArray → Bool) (E : Bool → β) : ∀ (l : List ByteArray) (i : Nat) (b : Bool), runS (fun _ a b => (.inl (b || q a) : Bool ⊕ β)) E l i b = E (b || l.any q)
  | [], _, b => by simp [runS]
  | a :: l, i, b => by
    simp only [runS, List.any_cons]
    rw [runS_or q E l (i + 1) _, Bool.or_assoc]
theorem gb_l1 (p : UnitV) (s : ByteArray) (B L : List ByteArray) (n v i : Int) (r : List ByteArray) (hr : r.length ≤ 1000) (k : Nat) (hk : 1 + r.length < k) :
    laws_FnGraphBy.l1 k p s B L n v i r false 0 = laws_FnGraphBy.l2 (k - r.length - 1) p s B L n v i r (hasB r s) false 0 := by
  refine (loop_run (fun _ (a : ByteArray) b => (.inl (b || (a.toList == s.toList)) : Bool ⊕ Option Bool)) (fun k b => laws_FnGraphBy.l2 k p s B L n v i r b false 0) (fun _ _ => True) ByteArray.empty r (by omega) (fun k b j => laws_FnGraphBy.l1 k p s B L n v i r b j) 1 ?_ (fun _ _ _ _ _ _ => trivial) ?_ k (by omega) false trivial).trans (runS_or _ _ r 0 false)
  · intro k j b hK hj _
    simp only [laws_FnGraphBy.l1]
    rw [if_pos (by omega)]
    cases b with
    | true => rw [if_pos rfl]; rfl
    | false => rw [if_neg (by decide), if_pos (by omega)]; rfl
  · intro k b _ _
    simp only [laws_FnGraphBy.l1]
    rw [if_neg (by omega)]
theorem gb_l2 (p : UnitV) (s : ByteArray) (B L : List ByteArray) (n v : Int) (i : Nat) (hi : i < p.length) (r : List ByteArray) (h : Bool) (hB : B.length ≤ 1000) (k : Nat) (hk : 1 + B.length < k) :
    laws_FnGraphBy.l2 k p s B L n v (i : Int) r h false 0 = if (h != hasB B (p.getD i z52).f0) = true then some false else laws_FnGraphBy.j8 (k - B.length - 1) p s B L n v (i : Int) r h := by
  refine (loop_run (fun _ (a : ByteArray) b => (.inl (b || (a.toList == (p.getD i z52).f0.toList)) : Bool ⊕ Option Bool)) (fun k b => if (h != b) = true then some false else laws_FnGraphBy.j8 k p s B L n v (i : Int) r h) (fun _ _ => True) ByteArray.empty B (by omega) (fun k b j => laws_FnGraphBy.l2 k p s B L n v (i : Int) r h b j) 1 ?_ (fun _ _ _ _ _ _ => trivial) ?_ k (by omega) false trivial).trans (runS_or _ _ B 0 false)
  · intro k j b hK hj _
    simp only [laws_FnGraphBy.l2]
    rw [if_pos (by omega)]
    cases b with
    | true => rw [if_pos rfl]; rfl
    | false => rw [if_neg (by decide), if_pos (by omega), if_pos (by omega), if_pos (by omega)]; rfl
  · intro k b _ _
    simp only [laws_FnGraphBy.l2]
    rw [if_neg (by omega)]
theorem gb_l3 (B : List ByteArray) (ns : List ByteArray) (hl : (orderedV ns).length ≤ 1000) : ∀ (m i k : Nat), i + m = (orderedV ns).length + 1 → 1 ≤ i → 10 + m ≤ k → laws_FnGraphBy.l3 k B (orderedV ns) (B.length : Int) ((orderedV ns).length : Int) (i : Int) = some true := by
  intro m
  induction m with
  | zero =>
    intro i k hi h1 hk
    obtain ⟨k, rfl, _⟩ := succ_of (show 0 < k by omega)
    simp only [laws_FnGraphBy.l3]
    rw [if_neg (by omega), if_pos trivial, beq_self_eq_true]
  | succ m ih =>
    intro i k hi h1 hk
    obtain ⟨k, rfl, _⟩ := succ_of (show 0 < k by omega)
    simp only [laws_FnGraphBy.l3]
    by_cases hlt : i < (orderedV ns).length
    · have hw1 : wrap64 ((i : Int) - 1) = ((i - 1 : Nat) : Int) := by rw [wrap_id (by omega) (by omega)]; omega
      have hw2 : wrap64 ((i : Int) + 1) = ((i + 1 : Nat) : Int) := by rw [wrap_id (by omega) (by omega)]; push_cast; rfl
      rw [if_pos (by omega), if_pos (by omega), hw1, if_pos (by omega), if_pos (by omega), show rdOf ByteArray.empty (orderedV ns) ((i - 1 : Nat) : Int) = (orderedV ns).getD (i - 1) ByteArray.empty from rfl, show rdOf ByteArray.empty (orderedV ns) (i : Int) = (orderedV ns).getD i ByteArray.empty from rfl, if_pos (less_at ns i (by omega) hlt), hw2]
      exact ih (i + 1) k (by omega) (by omega) (by omega)
    · rw [if_neg (by omega), if_pos trivial, beq_self_eq_true]
def cntF (q : S52 → Bool) (p : UnitV) (i : Nat) : Nat := ((p.take i).filter q).length
theorem cntF_succ (q : S52 → Bool) (p : UnitV) (i : Nat) (h : i < p.length) : cntF q p (i + 1) = cntF q p i + if q (p.getD i z52) = true then 1 else 0 := by
  unfold cntF
  rw [take_succ_getD p z52 i h, List.filter_append, List.length_append, List.filter_cons, List.filter_nil]
  split <;> rfl
theorem cntF_le (q : S52 → Bool) (p : UnitV) (i : Nat) : cntF q p i ≤ p.length := by
  unfold cntF
  have h1 := List.length_filter_le q (p.take i)
  have h2 := List.length_take_le i p
  have h3 : (p.take i).length ≤ p.length := by rw [List.length_take]; omega
  omega
theorem wrap_succ (n : Nat) (h : n ≤ 1000000) : wrap64 ((n : Int) + 1) = ((n + 1 : Nat) : Int) := by rw [wrap_id (by omega) (by omega)]; push_cast; rfl
theorem leaf_dec (x : S52) : isLeaf x = decide (((refsV x.f2).length : Int) = 0) := by
  unfold isLeaf
  rw [Bool.eq_iff_iff, beq_iff_eq, decide_eq_true_eq]
  omega
set_option maxRecDepth 100000 in
theorem gb_l0 (p : UnitV) (s : ByteArray) (hn : p.length ≤ 603) (hf : ∀ x ∈ p, FitF x) (hok : keepOkB p = true) : ∀ (m i k : Nat), i + m = p.length → 100000000000000000 + 10000 * m ≤ k → laws_FnGraphBy.l0 k p s (byV p s) (leafV p) (cntF (fun x => hasB (refsV x.f2) s) p i : Int) (cntF isLeaf p i : Int) (i : Int) = some true := by
  intro m
  induction m with
  | zero =>
    intro i k hi hk
    obtain ⟨k, rfl⟩ : ∃ q, k = q + 2 := ⟨k - 2, by omega⟩
    have hbl := named_len hok (fun x => hasB (refsV x.f2) s)
    have hll := named_len hok isLeaf
    have hL := leafV_len p
    have c1 : cntF (fun x => hasB (refsV x.f2) s) p i = (byV p s).length := by
      unfold cntF byV
      rw [List.take_of_length_le (by omega), hbl]
    have c2 : cntF isLeaf p i = (leafV p).length := by
      unfold cntF leafV
      rw [List.take_of_length_le (by omega), hll]
    simp only [laws_FnGraphBy.l0]
    rw [if_neg (by omega)]
    simp only [laws_FnGraphBy.j4]
    rw [if_neg (by decide), c1, c2]
    have eL : leafV p = orderedV (namesOf isLeaf p) := by unfold leafV namedV; rw [if_pos hok]
    rw [eL] at hL ⊢
    exact gb_l3 (byV p s) (namesOf isLeaf p) (by omega) (orderedV (namesOf isLeaf p)).length 1 k (by omega) (by omega) (by omega)
  | succ m ih =>
    intro i k hi hk
    obtain ⟨k, rfl⟩ : ∃ q, k = q + 3 := ⟨k - 3, by omega⟩
    have hB := byV_len p s
    have hbd := keepOk_bounds hok
    have hlt : i < p.length := by omega
    have hx : p.getD i z52 ∈ p := getD_mem hlt
    have hfo : funRefsV (p.getD i z52) = refsV (p.getD i z52).f2 := by unfold funRefsV; rw [if_pos (keep_fun hok _ hx)]
    have hrl := refsV_len (p.getD i z52).f2
    have hb2 := hbd.2 _ hx
    have hwi : wrap64 ((i : Int) + 1) = ((i + 1 : Nat) : Int) := by rw [wrap_id (by omega) (by omega)]; push_cast; rfl
    simp only [laws_FnGraphBy.l0]
    rw [if_pos (by omega), spec_KeepOk_f p (by omega) hf _ (by omega), hok]
    simp only [Option.bind_some, laws_FnGraphBy.j4]
    rw [if_pos trivial]
    simp only [laws_FnGraphBy.j5]
    rw [if_pos (by omega), if_pos (by omega), show rd_T52 p (i : Int) = p.getD i z52 from rfl, impl_FunRefs_f _ (hf _ hx) k (by omega)]
    simp only [Option.bind_some]
    rw [hfo, gb_l1 p s _ _ _ _ _ _ (by omega) k (by omega), gb_l2 p s _ _ _ _ i hlt _ _ (by omega) _ (by omega)]
    obtain ⟨k2, hk2⟩ : ∃ q, k - (refsV (p.getD i z52).f2).length - 1 - (byV p s).length - 1 = q + 1 := ⟨k - (refsV (p.getD i z52).f2).length - 1 - (byV p s).length - 2, by omega⟩
    have hnext := ih (i + 1) k2 (by omega) (by omega)
    have hw1 := wrap_succ (cntF (fun x => hasB (refsV x.f2) s) p i) (Nat.le_trans (cntF_le _ p i) (Nat.le_trans hn (by decide)))
    have hw2 := wrap_succ (cntF isLeaf p i) (Nat.le_trans (cntF_le _ p i) (Nat.le_trans hn (by decide)))
    have hleaf : isLeaf (p.getD i z52) = decide (((refsV (p.getD i z52).f2).length : Int) = 0) := leaf_dec _
    have hh := named_has hok (fun x => hasB (refsV x.f2) s) i hlt
    have s1 := cntF_succ (fun x => hasB (refsV x.f2) s) p i hlt
    have s2 := cntF_succ isLeaf p i hlt
    rw [show hasB (byV p s) (p.getD i z52).f0 = hasB (refsV (p.getD i z52).f2) s from hh, bne_self_eq_false, if_neg (by decide)]
    rw [hk2]
    rw [s1, s2] at hnext
    simp only [laws_FnGraphBy.j8]
    rw [hw1, hw2, hwi]
    by_cases h0 : ((refsV (p.getD i z52).f2).length : Int) = 0
    · rw [hleaf, decide_eq_true h0] at hnext
      rw [if_pos h0, if_pos h0]
      cases hc : hasB (refsV (p.getD i z52).f2) s with
      | true => rw [hc] at hnext; rw [if_pos rfl]; simpa using hnext
      | false => rw [hc] at hnext; rw [if_neg (by decide)]; simpa using hnext
    · rw [hleaf, decide_eq_false h0] at hnext
      rw [if_neg h0, if_neg h0]
      cases hc : hasB (refsV (p.getD i z52).f2) s with
      | true => rw [hc] at hnext; rw [if_pos rfl]; simpa using hnext
      | false => rw [hc] at hnext; rw [if_neg (by decide)]; simpa using hnext
set_option maxRecDepth 100000 in
theorem FnGraphBy : laws_FnGraphBy.Pure := by
  intro l _ _ hw
  unfold laws_FnGraphBy.f
  by_cases h : (l.length : Int) > 1048576
  · exact ⟨1, by rw [if_pos h]⟩
  obtain ⟨p, s, hd, hn, hsm⟩ := draw_reach l ⟨by omega, hw⟩
  have hf : ∀ x ∈ p, FitF x := fun x hx => (hsm x hx).fit (by omega)
  have hB := byV_len p s
  have hL := leafV_len p
  obtain ⟨K, hK⟩ : ∃ K : Nat, 1000000000000000000 ≤ K := ⟨_, Nat.le_refl _⟩
  refine ⟨K + 3, ?_⟩
  rw [if_neg h]
  simp only [laws_FnGraphBy.j0]
  rw [hd _ (by omega)]; simp only [Option.bind_some]
  rw [impl_GraphBy_f p (by omega) hf s 0 (Nat.le_refl _), spec_GraphBy_f p (by omega) hf s _ (by omega), impl_GraphLeaf_f p (by omega) hf 0 (Nat.le_refl _), spec_GraphLeaf_f p (by omega) hf _ (by omega)]
  simp only [Option.bind_some, if_true, bne_self_eq_false, laws_FnGraphBy.j1]
  rw [if_neg (by decide)]
  simp only [laws_FnGraphBy.j2]
  cases hok : keepOkB p with
  | false =>
    have e1 : byV p s = [] := by unfold byV namedV; rw [hok]; rfl
    have e2 : leafV p = [] := by unfold leafV namedV; rw [hok]; rfl
    rw [e1, e2]
    obtain ⟨k, rfl⟩ : ∃ q, K = q + 3 := ⟨K - 3, by omega⟩
    have e3 : laws_FnGraphBy.j4 (k + 2) p s [] [] 0 0 0 false = some true := by
      simp only [laws_FnGraphBy.j4, laws_FnGraphBy.l3]
      rfl
    simp only [laws_FnGraphBy.l0]
    rw [spec_KeepOk_f p (by omega) hf _ (by omega), hok]
    simp only [Option.bind_some]
    rw [e3]
    split <;> rfl
  | true =>
    have := gb_l0 p s hn hf hok p.length 0 K (by omega) (by omega)
    simpa [cntF] using this
end Go.Proofs.Ytppmalfpggkpdaa.Pure
