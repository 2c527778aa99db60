-- put together by squash.py
import Derived.Test.YtpckkkcaffhhnaaSqFnPickWants7
import Derived.Test.YtpckkkcaffhhnaaSqFnPickWants9
import Derived.Test.YtpckkkcaffhhnaaSqFnPickWants8
import Derived.Test.YtpckkkcaffhhnaaSqFnPickWants3
import Derived.Test.YtpckkkcaffhhnaaSqFnPickWants4
import Derived.Test.YtpckkkcaffhhnaaSqFnPickWants5
import Derived.Test.YtpckkkcaffhhnaaSqFnPickWants10
import Derived.Test.YtpckkkcaffhhnaaSqFnPickWants12
import Derived.Test.YtpckkkcaffhhnaaSqFnPickWants6
set_option linter.unusedVariables false
set_option linter.unusedSimpArgs false

namespace Go.Proofs.Ytpckkkcaffhhnaa.L
open Go.RowKit Go.Proofs.YtpckkkcaffhhnaaW.PrintWords Go.Proofs.YtpckkkcaffhhnaaW.PrintLast Go.Proofs.YtpckkkcaffhhnaaW.PrintMore Go.Proofs.Ytpckkkcaffhhnaa.P
def Bytes (l : List Int) : Prop := l.length ≤ 1048576 ∧ ∀ x ∈ l, (Lit.int .u8 x).wf = true
theorem Bytes.take {l : List Int} (h : Bytes l) (n : Nat) : Bytes (l.take n) :=
  ⟨Nat.le_trans (by rw [List.length_take]; omega) h.1, fun x hx => h.2 x (List.mem_of_mem_take hx)⟩
theorem spec_l13Open_f (l : List Int) (h : Bytes l) : ∃ l', spec_l13Open.f l = some (l', 0) ∧ Bytes l' ∧ l'.length ≤ 2000 := by
  unfold spec_l13Open.f
  by_cases c : (l.length : Int) > 2000
  · rw [if_pos c, if_pos (by omega)]
    exact ⟨_, rfl, h.take 2000, by rw [List.length_take]; omega⟩
  · rw [if_neg c]
    exact ⟨l, rfl, h, by omega⟩
theorem mixed (l : List Int) (hl : Bytes l) (h0 : 0 < l.length) (p : Int) (hp : 0 ≤ p) (hp' : p < 1000000000000) (x y q : Int) (hx : 0 ≤ x ∧ x ≤ 255) (hy : 0 ≤ y ∧ y ≤ 255) (hq : 0 ≤ q ∧ q ≤ p) :
    ∃ z, wrap64 ((wrap64 ((wrap64 ((wrap64 (x * 131)) + (wrap64 (y * 1117)))) + (wrap64 (p * 29)))) + (wrap64 (q * 53))) = z ∧ 0 ≤ z ∧ z < 1000000000000000 := by
  refine ⟨x * 131 + y * 1117 + p * 29 + q * 53, ?_, by omega, by omega⟩
  rw [wrap_id (n := x * 131) (by omega) (by omega), wrap_id (n := y * 1117) (by omega) (by omega), wrap_id (n := p * 29) (by omega) (by omega), wrap_id (n := q * 53) (by omega) (by omega),
    wrap_id (n := x * 131 + y * 1117) (by omega) (by omega), wrap_id (n := x * 131 + y * 1117 + p * 29) (by omega) (by omega), wrap_id (n := x * 131 + y * 1117 + p * 29 + q * 53) (by omega) (by omega)]
theorem spec_l13Rd_pick_f (l : List Int) (hl : Bytes l) (p n : Int) (hp : 0 ≤ p) (hp' : p < 1000000000000) (hn : 1 ≤ n) :
    ∃ r, (∀ k, 1 ≤ k → spec_l13Rd_pick.f k l p n = some (r, p + 1)) ∧ 0 ≤ r ∧ r < n := by
  have e1 : wrap64 (p + 1) = p + 1 := wrap_id (by omega) (by omega)
  have e2 : wrap64 (p + 1 - 1) = p := by rw [show p + 1 - 1 = p by omega]; exact wrap_id (by omega) (by omega)
  by_cases h0 : l.length = 0
  · refine ⟨0, fun k hk => ?_, by omega, by omega⟩
    obtain ⟨m, rfl, _⟩ := succ_of hk
    unfold spec_l13Rd_pick.f
    rw [if_neg (by omega), e1]
    simp only [spec_l13Rd_pick.j0]
    rw [if_pos (by rw [h0]; rfl)]
  · have hb : ((l.length : Int) == 0) = false := beq_eq_false_iff_ne.mpr (by omega)
    by_cases c : p < (l.length : Int)
    · have hb2 := rd_byte hl.2 p
      refine ⟨Int.tmod (rd l p) n, fun k hk => ?_, tmod_small hb2.1 hn⟩
      obtain ⟨m, rfl, _⟩ := succ_of hk
      unfold spec_l13Rd_pick.f
      rw [if_neg (by omega), e1, hb]
      simp only [spec_l13Rd_pick.j0]
      rw [if_neg (by decide), e2, if_pos c, if_pos hp, if_neg (by omega), wrap_id (n := rd l p) (by omega) (by omega)]
    · have hL : (1 : Int) ≤ l.length := by omega
      have t1 := tmod_small hp hL
      have h7 : wrap64 (p * 7) = p * 7 := wrap_id (by omega) (by omega)
      have h73 : wrap64 (p * 7 + 3) = p * 7 + 3 := wrap_id (by omega) (by omega)
      have t2 := tmod_small (a := p * 7 + 3) (by omega) hL
      have b1 := rd_byte hl.2 (Int.tmod p l.length)
      have b2 := rd_byte hl.2 (Int.tmod (p * 7 + 3) l.length)
      have q1 := tdiv_small hp hL
      have w1 := wrap_id (n := rd l (Int.tmod p l.length)) (by omega) (by omega)
      have w2 := wrap_id (n := rd l (Int.tmod (p * 7 + 3) l.length)) (by omega) (by omega)
      have w3 := wrap_id (n := Int.tdiv p l.length) (by omega) (by omega)
      obtain ⟨z, hz, z0, z1⟩ := mixed l hl (by omega) p hp hp' _ _ _ b1 b2 q1
      have q2 := tdiv_small (a := z) (n := 64) z0 (by omega)
      have w4 := wrap_id (n := Int.tdiv z 64) (by omega) (by omega)
      have x1 := xor_nonneg z (Int.tdiv z 64) z0 (by omega) q2.1 (by omega)
      refine ⟨Int.tmod (Go.bits .xor .i64 z (Int.tdiv z 64)) n, fun k hk => ?_, tmod_small x1.1 hn⟩
      obtain ⟨m, rfl, _⟩ := succ_of hk
      unfold spec_l13Rd_pick.f
      rw [if_neg (by omega), e1, hb]
      simp only [spec_l13Rd_pick.j0]
      rw [if_neg (by decide), e2, if_neg c, if_neg (by omega), if_pos t1.1, if_pos t1.2, h7, h73, if_pos t2.1, if_pos t2.2, if_neg (by omega), w1, w2, w3, hz, w4]
theorem spec_l13Rd_num_f (l : List Int) (hl : Bytes l) (p : Int) (hp : 0 ≤ p) (hp' : p < 1000000000000) (xs : List Int) (hx : 0 < xs.length) :
    ∃ r, (∀ k, 1 ≤ k → spec_l13Rd_num.f k l p xs = some (r, p + 1)) ∧ r ∈ xs := by
  obtain ⟨r, hr, r0, r1⟩ := spec_l13Rd_pick_f l hl p xs.length hp hp' (by omega)
  refine ⟨rd xs r, fun k hk => ?_, ?_⟩
  · unfold spec_l13Rd_num.f
    rw [hr k hk]
    simp only [Option.bind_some]
    rw [if_pos r0, if_pos r1]
  · unfold rd
    rw [List.getD_eq_getElem?_getD, List.getElem?_eq_getElem (by omega)]
    exact List.getElem_mem _
theorem spec_l13Rd_of_f (l : List Int) (hl : Bytes l) (p : Int) (hp : 0 ≤ p) (hp' : p < 1000000000000) (xs : List ByteArray) (hx : 0 < xs.length) :
    ∃ r, (∀ k, 1 ≤ k → spec_l13Rd_of.f k l p xs = some (r, p + 1)) ∧ r ∈ xs := by
  obtain ⟨r, hr, r0, r1⟩ := spec_l13Rd_pick_f l hl p xs.length hp hp' (by omega)
  refine ⟨rdOf ByteArray.empty xs r, fun k hk => ?_, ?_⟩
  · unfold spec_l13Rd_of.f
    rw [hr k hk]
    simp only [Option.bind_some]
    rw [if_pos r0, if_pos r1]
  · unfold rdOf
    rw [List.getD_eq_getElem?_getD, List.getElem?_eq_getElem (by omega)]
    exact List.getElem_mem _
def names6 : List ByteArray := [(⟨#[97]⟩ : ByteArray), (⟨#[98]⟩ : ByteArray), (⟨#[99]⟩ : ByteArray), (⟨#[100]⟩ : ByteArray), (⟨#[109, 97, 105, 110]⟩ : ByteArray), (⟨#[101]⟩ : ByteArray)]
theorem spec_l1Name_f (l : List Int) (hl : Bytes l) (p : Int) (hp : 0 ≤ p) (hp' : p < 1000000000000) :
    ∃ r, (∀ k, 1 ≤ k → spec_l1Name.f k l p = some (r, p + 1)) ∧ r ∈ names6 := by
  obtain ⟨r, hr, hm⟩ := spec_l13Rd_of_f l hl p hp hp' names6 (by decide)
  refine ⟨r, fun k hk => ?_, hm⟩
  unfold spec_l1Name.f
  have e := hr k hk
  unfold names6 at e
  rw [e]
  rfl
def On (p q : Int) (n : Int) : Prop := p ≤ q ∧ q ≤ p + n
theorem spec_l1Ins_f (l : List Int) (hl : Bytes l) (p : Int) (hp : 0 ≤ p) (hp' : p < 900000000000) :
    ∃ a b s q, (∀ k, 4 ≤ k → spec_l1Ins.f k l p = some (a, b, s, q)) ∧ On p q 2 ∧ s.size ≤ 4 := by
  obtain ⟨r, hr, r0, r1⟩ := spec_l13Rd_pick_f l hl p 8 hp (by omega) (by omega)
  obtain ⟨n1, hn1, _⟩ := spec_l13Rd_num_f l hl (p + 1) (by omega) (by omega) [1, (-1), 2, 5, (-3)] (by decide)
  obtain ⟨n2, hn2, _⟩ := spec_l13Rd_num_f l hl (p + 1) (by omega) (by omega) [6, 6, 7, 4] (by decide)
  obtain ⟨s1, hs1, hm1⟩ := spec_l1Name_f l hl (p + 1) (by omega) (by omega)
  have hz1 : s1.size ≤ 4 := by
    simp only [names6, List.mem_cons, List.not_mem_nil, or_false] at hm1
    rcases hm1 with rfl | rfl | rfl | rfl | rfl | rfl <;> decide
  have j2 : ∀ k, 1 ≤ k → ∀ b, ∃ a' b' s' q', (spec_l1Ins.j2 (k + 1) r b l (p + 1) = some (a', b', s', q')) ∧ On p q' 2 ∧ s'.size ≤ 4 ∧ ((b = true ∧ a' = 3 ∧ b' = 0 ∧ s' = s1 ∧ q' = p + 1 + 1) ∨ (b = false ∧ r = 6 ∧ a' = 5 ∧ b' = 0 ∧ s' = s1 ∧ q' = p + 1 + 1) ∨ (b = false ∧ r ≠ 6 ∧ a' = n2 ∧ b' = 0 ∧ s' = ⟨#[]⟩ ∧ q' = p + 1 + 1)) := by
    intro k hk b
    simp only [spec_l1Ins.j2]
    rw [hs1 k hk, hn2 k hk]
    cases b with
    | true => exact ⟨3, 0, s1, p + 1 + 1, rfl, ⟨by omega, by omega⟩, hz1, .inl ⟨rfl, rfl, rfl, rfl, rfl⟩⟩
    | false =>
      by_cases h6 : r = 6
      · exact ⟨5, 0, s1, p + 1 + 1, by rw [if_neg (by decide), if_pos h6]; rfl, ⟨by omega, by omega⟩, hz1, .inr (.inl ⟨rfl, h6, rfl, rfl, rfl, rfl⟩)⟩
      · exact ⟨n2, 0, ⟨#[]⟩, p + 1 + 1, by rw [if_neg (by decide), if_neg h6]; rfl, ⟨by omega, by omega⟩, by decide, .inr (.inr ⟨rfl, h6, rfl, rfl, rfl, rfl⟩)⟩
  by_cases h01 : r = 0 ∨ r = 1
  · refine ⟨1, 0, ⟨#[]⟩, p + 1, fun k hk => ?_, ⟨by omega, by omega⟩, by decide⟩
    obtain ⟨m, rfl, _⟩ := succ_of (d := 3) hk
    unfold spec_l1Ins.f
    rw [hr _ (by omega)]
    simp only [Option.bind_some, spec_l1Ins.j0]
    rcases h01 with rfl | rfl <;> rfl
  · by_cases h23 : r = 2 ∨ r = 3
    · refine ⟨2, n1, ⟨#[]⟩, p + 1 + 1, fun k hk => ?_, ⟨by omega, by omega⟩, by decide⟩
      obtain ⟨m, rfl, hm⟩ := succ_of (d := 3) hk
      obtain ⟨m, rfl, hm2⟩ := succ_of (d := 2) hm
      unfold spec_l1Ins.f
      rw [hr _ (by omega)]
      simp only [Option.bind_some, spec_l1Ins.j0, spec_l1Ins.j1]
      rw [hn1 m (by omega)]
      rcases h23 with rfl | rfl <;> rfl
    · by_cases h45 : r = 4 ∨ r = 5
      · refine ⟨3, 0, s1, p + 1 + 1, fun k hk => ?_, ⟨by omega, by omega⟩, hz1⟩
        obtain ⟨m, rfl, hm⟩ := succ_of (d := 3) hk
        obtain ⟨m, rfl, hm2⟩ := succ_of (d := 2) hm
        obtain ⟨m, rfl, hm3⟩ := succ_of (d := 1) hm2
        unfold spec_l1Ins.f
        rw [hr _ (by omega)]
        simp only [Option.bind_some, spec_l1Ins.j0, spec_l1Ins.j1, spec_l1Ins.j2]
        rw [hs1 m (by omega)]
        rcases h45 with rfl | rfl <;> rfl
      · obtain ⟨a', b', s', q', _, hon, hsz, hwhat⟩ := j2 1 (Nat.le_refl _) false
        refine ⟨a', b', s', q', fun k hk => ?_, hon, hsz⟩
        obtain ⟨m, rfl, hm⟩ := succ_of (d := 3) hk
        obtain ⟨m, rfl, hm2⟩ := succ_of (d := 2) hm
        obtain ⟨m, rfl, hm3⟩ := succ_of (d := 1) hm2
        unfold spec_l1Ins.f
        rw [hr _ (by omega)]
        have e1 : (r == 1) = false := beq_eq_false_iff_ne.mpr (by omega)
        have e3 : (r == 3) = false := beq_eq_false_iff_ne.mpr (by omega)
        have e5 : (r == 5) = false := beq_eq_false_iff_ne.mpr (by omega)
        simp only [Option.bind_some]
        rw [if_neg (by omega), e1]
        simp only [spec_l1Ins.j0]
        rw [if_neg (by decide), if_neg (by omega), e3]
        simp only [spec_l1Ins.j1]
        rw [if_neg (by decide), if_neg (by omega), e5]
        simp only [spec_l1Ins.j2]
        rw [if_neg (by decide), hs1 m (by omega), hn2 m (by omega)]
        rcases hwhat with ⟨h, _⟩ | ⟨_, h6, rfl, rfl, rfl, rfl⟩ | ⟨_, h6, rfl, rfl, rfl, rfl⟩
        · exact absurd h (by decide)
        · rw [if_pos h6]; rfl
        · rw [if_neg h6]; rfl
theorem spec_l1Right_f (l : List Int) (hl : Bytes l) (p : Int) (hp : 0 ≤ p) (hp' : p < 900000000000) :
    ∃ a b s q, (∀ k, 4 ≤ k → spec_l1Right.f k l p = some (a, b, s, q)) ∧ On p q 3 ∧ s.size ≤ 4 := by
  obtain ⟨a, b, s, q, h, hq, hs⟩ := spec_l1Ins_f l hl p hp hp'
  by_cases c : a = 4
  · obtain ⟨s2, h2, hm⟩ := spec_l1Name_f l hl q (by have := hq.1; omega) (by have := hq.2; omega)
    refine ⟨a, b, s2, q + 1, fun k hk => ?_, ⟨by have := hq.1; omega, by have := hq.2; omega⟩, ?_⟩
    · unfold spec_l1Right.f
      rw [h k hk]
      simp only [Option.bind_some]
      rw [if_pos c, h2 k (by omega)]
      rfl
    · simp only [names6, List.mem_cons, List.not_mem_nil, or_false] at hm
      rcases hm with rfl | rfl | rfl | rfl | rfl | rfl <;> decide
  · refine ⟨a, b, s, q, fun k hk => ?_, ⟨hq.1, by have := hq.2; omega⟩, hs⟩
    unfold spec_l1Right.f
    rw [h k hk]
    simp only [Option.bind_some]
    rw [if_neg c]
theorem spec_l1Bent_f (l : List Int) (hl : Bytes l) (p : Int) (hp : 0 ≤ p) (hp' : p < 900000000000) :
    ∃ a b s q, (∀ k, 4 ≤ k → spec_l1Bent.f k l p = some (a, b, s, q)) ∧ On p q 5 ∧ s.size ≤ 7 := by
  obtain ⟨a, b, s, q, h, hq, hs⟩ := spec_l1Right_f l hl p hp hp'
  have q0 := hq.1
  have q1 := hq.2
  obtain ⟨r, hr, r0, r1⟩ := spec_l13Rd_pick_f l hl q 30 (by omega) (by omega) (by omega)
  obtain ⟨n1, hn1, _⟩ := spec_l13Rd_num_f l hl (q + 1) (by omega) (by omega) [0, 8, (-1), 1] (by decide)
  obtain ⟨n2, hn2, _⟩ := spec_l13Rd_num_f l hl (q + 1) (by omega) (by omega) [1, 1000, 1001] (by decide)
  obtain ⟨s1, hs1, hm1⟩ := spec_l13Rd_of_f l hl (q + 1) (by omega) (by omega) [(⟨#[65]⟩ : ByteArray), (⟨#[97, 98, 99, 100, 101, 102, 103]⟩ : ByteArray), (⟨#[97, 32, 98]⟩ : ByteArray), (⟨#[120]⟩ : ByteArray)] (by decide)
  have hz1 : s1.size ≤ 7 := by
    simp only [List.mem_cons, List.not_mem_nil, or_false] at hm1
    rcases hm1 with rfl | rfl | rfl | rfl <;> decide
  by_cases c0 : r = 0
  · refine ⟨n1, b, s, q + 1 + 1, fun k hk => ?_, ⟨by omega, by omega⟩, by omega⟩
    unfold spec_l1Bent.f
    rw [h k hk]; simp only [Option.bind_some]
    rw [hr k (by omega)]; simp only [Option.bind_some]
    rw [if_pos c0, hn1 k (by omega)]; rfl
  · by_cases c1 : r = 1
    · refine ⟨a, n2, s, q + 1 + 1, fun k hk => ?_, ⟨by omega, by omega⟩, by omega⟩
      unfold spec_l1Bent.f
      rw [h k hk]; simp only [Option.bind_some]
      rw [hr k (by omega)]; simp only [Option.bind_some]
      rw [if_neg c0, if_pos c1, hn2 k (by omega)]; rfl
    · by_cases c2 : r = 2
      · refine ⟨a, b, s1, q + 1 + 1, fun k hk => ?_, ⟨by omega, by omega⟩, hz1⟩
        unfold spec_l1Bent.f
        rw [h k hk]; simp only [Option.bind_some]
        rw [hr k (by omega)]; simp only [Option.bind_some]
        rw [if_neg c0, if_neg c1, if_pos c2, hs1 k (by omega)]; rfl
      · refine ⟨a, b, s, q + 1, fun k hk => ?_, ⟨by omega, by omega⟩, by omega⟩
        unfold spec_l1Bent.f
        rw [h k hk]; simp only [Option.bind_some]
        rw [hr k (by omega)]; simp only [Option.bind_some]
        rw [if_neg c0, if_neg c1, if_neg c2]
def SmallF (n : Nat) (x : S30) : Prop := x.f0.size ≤ 7 ∧ x.f2.length ≤ n ∧ ∀ y ∈ x.f2, y.f2.size ≤ 7
def SmallU (u : List S30) : Prop := 1 ≤ u.length ∧ u.length ≤ 4 ∧ ∀ x ∈ u, SmallF 6 x
theorem SmallF.fit {n : Nat} {x : S30} (h : SmallF n x) (hn : n ≤ 1000) : FitF x := ⟨by have := h.1; omega, by have := h.2.1; omega, fun y hy => by have := h.2.2 y hy; omega⟩
theorem names6_size {s : ByteArray} (h : s ∈ names6) : s.size ≤ 7 := by
  simp only [names6, List.mem_cons, List.not_mem_nil, or_false] at h
  rcases h with rfl | rfl | rfl | rfl | rfl | rfl <;> decide
theorem l2Fun_end (l : List Int) (hl : Bytes l) (a : ByteArray) (w : Bool) (p : Int) (body : List S38) (hp : 0 ≤ p) (hp' : p < 800000000000) (hb : body.length ≤ 4) (hs : ∀ y ∈ body, y.f2.size ≤ 7) :
    ∃ (body' : List S38) (q : Int), (∀ k, 2 ≤ k → spec_l2Fun.l0 k 0 l p a w body = some (a, w, body', q)) ∧ On p q 2 ∧ body'.length ≤ 5 ∧ ∀ y ∈ body', y.f2.size ≤ 7 := by
  obtain ⟨r, hr, r0, r1⟩ := spec_l13Rd_pick_f l hl p 6 hp (by omega) (by omega)
  obtain ⟨s, hn, hm⟩ := spec_l1Name_f l hl (p + 1) (by omega) (by omega)
  have hz := names6_size hm
  have app : ∀ i : S38, i.f2.size ≤ 7 → ∀ y ∈ body ++ [i], y.f2.size ≤ 7 := fun i hi y hy => by
    rcases List.mem_append.mp hy with h | h
    · exact hs y h
    · rw [List.mem_singleton.mp h]; exact hi
  by_cases h0 : r = 0
  · refine ⟨body ++ [⟨4, 0, s⟩], p + 1 + 1, fun k hk => ?_, ⟨by omega, by omega⟩, by rw [List.length_append]; simp; omega, app _ hz⟩
    obtain ⟨k, rfl, _⟩ := succ_of (d := 1) hk
    simp only [spec_l2Fun.l0]
    rw [if_neg (by omega), hr k (by omega)]
    simp only [Option.bind_some]
    rw [if_pos h0, hn k (by omega)]
    simp only [Option.bind_some]
    rw [if_pos (by omega)]
  · by_cases h1 : r = 1
    · refine ⟨body ++ [⟨7, 0, ⟨#[]⟩⟩], p + 1, fun k hk => ?_, ⟨by omega, by omega⟩, by rw [List.length_append]; simp; omega, app _ (by decide)⟩
      obtain ⟨k, rfl, _⟩ := succ_of (d := 1) hk
      simp only [spec_l2Fun.l0]
      rw [if_neg (by omega), hr k (by omega)]
      simp only [Option.bind_some]
      rw [if_neg h0, if_pos h1, if_pos (by omega)]
    · refine ⟨body ++ [⟨6, 0, ⟨#[]⟩⟩], p + 1, fun k hk => ?_, ⟨by omega, by omega⟩, by rw [List.length_append]; simp; omega, app _ (by decide)⟩
      obtain ⟨k, rfl, _⟩ := succ_of (d := 1) hk
      simp only [spec_l2Fun.l0]
      rw [if_neg (by omega), hr k (by omega)]
      simp only [Option.bind_some]
      rw [if_neg h0, if_neg h1, if_pos (by omega)]
theorem l2Fun_l0 (l : List Int) (hl : Bytes l) (a : ByteArray) (w : Bool) : ∀ (n : Nat) (p : Int) (body : List S38), 0 ≤ p → p + 4 * n < 700000000000 → body.length + n ≤ 4 → (∀ y ∈ body, y.f2.size ≤ 7) →
    ∃ (body' : List S38) (q : Int), (∀ k, n + 6 ≤ k → spec_l2Fun.l0 k (n : Int) l p a w body = some (a, w, body', q)) ∧ On p q (4 * n + 2) ∧ body'.length ≤ 5 ∧ ∀ y ∈ body', y.f2.size ≤ 7
  | 0, p, body, hp, hp', hb, hs => by
    obtain ⟨b, q, h1, h2, h3, h4⟩ := l2Fun_end l hl a w p body hp (by omega) (by omega) hs
    exact ⟨b, q, fun k hk => h1 k (by omega), ⟨h2.1, by have := h2.2; omega⟩, h3, h4⟩
  | n + 1, p, body, hp, hp', hb, hs => by
    obtain ⟨i, j, s, q, h, hq, hz⟩ := spec_l1Right_f l hl p hp (by omega)
    have q0 := hq.1
    have q1 := hq.2
    have hw : wrap64 (((n + 1 : Nat) : Int) - 1) = (n : Int) := by rw [wrap_id (by omega) (by omega)]; push_cast; omega
    have step : ∀ k, n + 6 ≤ k → spec_l2Fun.l0 (k + 1) ((n + 1 : Nat) : Int) l p a w body = if lastB i = true then spec_l2Fun.l0 k (n : Int) l q a w body else spec_l2Fun.l0 k (n : Int) l q a w (body ++ [⟨i, j, s⟩]) := by
      intro k hk
      simp only [spec_l2Fun.l0]
      rw [if_pos (by push_cast; omega), h k (by omega)]
      simp only [Option.bind_some]
      rw [spec_InsLast_f]
      simp only [Option.bind_some]
      rw [hw, if_pos (show body.length < 4398046511104 by omega)]
    cases hlast : lastB i with
    | true =>
      obtain ⟨b, q', h1, h2, h3, h4⟩ := l2Fun_l0 l hl a w n q body (by omega) (by push_cast at hp'; omega) (by omega) hs
      refine ⟨b, q', fun k hk => ?_, ⟨by have := h2.1; omega, by have := h2.2; push_cast; omega⟩, h3, h4⟩
      obtain ⟨k, rfl, hk'⟩ := succ_of (show n + 6 < k by omega)
      rw [step k hk', hlast, if_pos rfl, h1 k hk']
    | false =>
      obtain ⟨b, q', h1, h2, h3, h4⟩ := l2Fun_l0 l hl a w n q (body ++ [⟨i, j, s⟩]) (by omega) (by push_cast at hp'; omega) (by rw [List.length_append]; simp; omega) (fun y hy => by
        rcases List.mem_append.mp hy with h | h
        · exact hs y h
        · rw [List.mem_singleton.mp h]; show s.size ≤ 7; omega)
      refine ⟨b, q', fun k hk => ?_, ⟨by have := h2.1; omega, by have := h2.2; push_cast; omega⟩, h3, h4⟩
      obtain ⟨k, rfl, hk'⟩ := succ_of (show n + 6 < k by omega)
      rw [step k hk', hlast, if_neg (by decide), h1 k hk']
theorem spec_l2Fun_f (l : List Int) (hl : Bytes l) (p : Int) (hp : 0 ≤ p) (hp' : p < 600000000000) (a : ByteArray) (ha : a.size ≤ 7) :
    ∃ (x : S30) (q : Int), (∀ k, 20 ≤ k → spec_l2Fun.f k l p a = some (x.f0, x.f1, x.f2, q)) ∧ On p q 30 ∧ SmallF 5 x := by
  obtain ⟨r, hr, _, _⟩ := spec_l13Rd_pick_f l hl p 5 hp (by omega) (by omega)
  obtain ⟨n, hn, n0, n1⟩ := spec_l13Rd_pick_f l hl (p + 1) 5 (by omega) (by omega) (by omega)
  obtain ⟨m, rfl⟩ : ∃ m : Nat, n = m := ⟨n.toNat, by omega⟩
  obtain ⟨b, q, h1, h2, h3, h4⟩ := l2Fun_l0 l hl a (r == 0) m (p + 1 + 1) [] (by omega) (by omega) (by simp; omega) (by simp)
  refine ⟨⟨a, (r == 0), b⟩, q, fun k hk => ?_, ⟨by have := h2.1; omega, by have := h2.2; omega⟩, ha, h3, h4⟩
  unfold spec_l2Fun.f
  rw [hr k (by omega)]
  simp only [Option.bind_some]
  rw [hn k (by omega)]
  simp only [Option.bind_some]
  rw [h1 k (by omega)]
theorem l2Unit_l0 (l : List Int) (hl : Bytes l) : ∀ (n : Nat) (p : Int) (u : List S30), 0 ≤ p → p + 40 * n < 500000000000 → u.length + n ≤ 3 → (1 ≤ u.length ∨ 1 ≤ n) → (∀ x ∈ u, SmallF 5 x) →
    ∃ (u' : List S30) (q : Int), (∀ k, n + 30 ≤ k → spec_l2Unit.l0 k u (n : Int) l p = some (u', q)) ∧ On p q (40 * n) ∧ 1 ≤ u'.length ∧ u'.length ≤ 3 ∧ ∀ x ∈ u', SmallF 5 x
  | 0, p, u, hp, hp', hu, h1, hs => by
    refine ⟨u, p, fun k hk => ?_, ⟨by omega, by omega⟩, by omega, by omega, hs⟩
    obtain ⟨k, rfl, _⟩ := succ_of (show 29 < k by omega)
    simp only [spec_l2Unit.l0]
    rw [if_neg (by omega)]
  | n + 1, p, u, hp, hp', hu, h1, hs => by
    obtain ⟨s, hn, hm⟩ := spec_l1Name_f l hl p hp (by omega)
    obtain ⟨x, q, hx, hq, hsm⟩ := spec_l2Fun_f l hl (p + 1) (by omega) (by omega) s (names6_size hm)
    have q0 := hq.1
    have q1 := hq.2
    have hw : wrap64 (((n + 1 : Nat) : Int) - 1) = (n : Int) := by rw [wrap_id (by omega) (by omega)]; push_cast; omega
    have step : ∀ k, n + 30 ≤ k → spec_l2Unit.l0 (k + 1) u ((n + 1 : Nat) : Int) l p = if findI u s < 0 then spec_l2Unit.l0 k (u ++ [x]) (n : Int) l q else spec_l2Unit.l0 k u (n : Int) l (p + 1) := by
      intro k hk
      simp only [spec_l2Unit.l0]
      rw [if_pos (by push_cast; omega), hn k (by omega)]
      simp only [Option.bind_some]
      rw [spec_l2Find_f u (by omega) s k (by omega)]
      simp only [Option.bind_some]
      rw [hw, hx k (by omega)]
      simp only [Option.bind_some]
      rw [if_pos (show u.length < 2932031007402 by omega)]
    by_cases hf : findI u s < 0
    · obtain ⟨u', q', g1, g2, g3, g4, g5⟩ := l2Unit_l0 l hl n q (u ++ [x]) (by omega) (by push_cast at hp'; omega) (by rw [List.length_append]; simp; omega) (.inl (by rw [List.length_append]; simp)) (fun y hy => by
        rcases List.mem_append.mp hy with h | h
        · exact hs y h
        · rw [List.mem_singleton.mp h]; exact hsm)
      refine ⟨u', q', fun k hk => ?_, ⟨by have := g2.1; omega, by have := g2.2; push_cast; omega⟩, g3, g4, g5⟩
      obtain ⟨k, rfl, hk'⟩ := succ_of (show n + 30 < k by omega)
      rw [step k hk', if_pos hf, g1 k hk']
    · have hne : 1 ≤ u.length := by
        cases u with
        | nil => exact absurd (show findI ([] : List S30) s < 0 from by unfold findI; simp [idxFrom]) hf
        | cons _ _ => simp
      obtain ⟨u', q', g1, g2, g3, g4, g5⟩ := l2Unit_l0 l hl n (p + 1) u (by omega) (by push_cast at hp'; omega) (by omega) (.inl hne) hs
      refine ⟨u', q', fun k hk => ?_, ⟨by have := g2.1; omega, by have := g2.2; push_cast; omega⟩, g3, g4, g5⟩
      obtain ⟨k, rfl, hk'⟩ := succ_of (show n + 30 < k by omega)
      rw [step k hk', if_neg hf, g1 k hk']
theorem spec_l2Unit_f (l : List Int) (hl : Bytes l) (p : Int) (hp : 0 ≤ p) (hp' : p < 400000000000) :
    ∃ (u : List S30) (q : Int), (∀ k, 40 ≤ k → spec_l2Unit.f k l p = some (u, q)) ∧ On p q 130 ∧ 1 ≤ u.length ∧ u.length ≤ 3 ∧ ∀ x ∈ u, SmallF 5 x := by
  obtain ⟨n, hn, n0, n1⟩ := spec_l13Rd_pick_f l hl p 3 hp (by omega) (by omega)
  obtain ⟨m, rfl⟩ : ∃ m : Nat, n = m := ⟨n.toNat, by omega⟩
  obtain ⟨u, q, h1, h2, h3, h4, h5⟩ := l2Unit_l0 l hl (m + 1) (p + 1) [] (by omega) (by push_cast; omega) (by simp; omega) (.inr (by omega)) (by simp)
  refine ⟨u, q, fun k hk => ?_, ⟨by have := h2.1; omega, by have := h2.2; push_cast at this; omega⟩, h3, h4, h5⟩
  unfold spec_l2Unit.f
  rw [hn k (by omega)]
  simp only [Option.bind_some]
  rw [show wrap64 (1 + (m : Int)) = ((m + 1 : Nat) : Int) from by rw [wrap_id (by omega) (by omega)]; push_cast; omega, h1 k (by omega)]
theorem SmallF.mono {n m : Nat} {x : S30} (h : SmallF n x) (hm : n ≤ m) : SmallF m x := ⟨h.1, Nat.le_trans h.2.1 hm, h.2.2⟩
theorem set_small {u : List S30} (hs : ∀ x ∈ u, SmallF 5 x) (i : Nat) (y : S30) (hy : SmallF 6 y) : ∀ x ∈ u.set i y, SmallF 6 x := fun x hx => by
  rcases List.mem_or_eq_of_mem_set hx with h | h
  · exact (hs x h).mono (by omega)
  · rw [h]; exact hy
theorem spec_l2Bent_f (l : List Int) (hl : Bytes l) (p : Int) (hp : 0 ≤ p) (hp' : p < 300000000000) :
    ∃ (u : List S30) (q : Int), (∀ k, 50 ≤ k → spec_l2Bent.f k l p = some (u, q)) ∧ On p q 150 ∧ SmallU u := by
  obtain ⟨u, q1, hu, hq1, hn1, hn2, hs⟩ := spec_l2Unit_f l hl p hp (by omega)
  have o0 := hq1.1
  have o1 := hq1.2
  obtain ⟨ix, hix, i0, i1⟩ := spec_l13Rd_pick_f l hl q1 (u.length : Int) (by omega) (by omega) (by omega)
  obtain ⟨c, hc, c0, c1⟩ := spec_l13Rd_pick_f l hl (q1 + 1) 40 (by omega) (by omega) (by omega)
  obtain ⟨s, hS, hm⟩ := spec_l13Rd_of_f l hl (q1 + 1 + 1) (by omega) (by omega) ([(⟨#[]⟩ : ByteArray), (⟨#[65]⟩ : ByteArray), (⟨#[109, 97, 105, 110]⟩ : ByteArray)] : List ByteArray) (by decide)
  have hz : s.size ≤ 7 := by
    simp only [List.mem_cons, List.not_mem_nil, or_false] at hm
    rcases hm with rfl | rfl | rfl <;> decide
  obtain ⟨b0, b1, b2, q2, hb, hq2, hbz⟩ := spec_l1Bent_f l hl (q1 + 1 + 1) (by omega) (by omega)
  have o2 := hq2.1
  have o3 := hq2.2
  have hx : SmallF 5 (rd_T30 u ix) := hs _ (getD_mem (by omega))
  have base : ∀ k, 50 ≤ k → spec_l2Bent.f k l p = if c = 0 then some (u.set ix.toNat ⟨s, (rd_T30 u ix).f1, (rd_T30 u ix).f2⟩, q1 + 1 + 1 + 1) else if c = 1 then some (u.set ix.toNat ⟨(rd_T30 u ix).f0, (rd_T30 u ix).f1, []⟩, q1 + 1 + 1) else if c = 2 then some (u.set ix.toNat ⟨(rd_T30 u ix).f0, (rd_T30 u ix).f1, (rd_T30 u ix).f2 ++ [⟨b0, b1, b2⟩]⟩, q2) else if c = 3 then some (u ++ [rd_T30 u ix], q1 + 1 + 1) else some (u, q1 + 1 + 1) := by
    intro k hk
    unfold spec_l2Bent.f
    rw [hu k (by omega)]
    simp only [Option.bind_some]
    rw [hix k (by omega)]
    simp only [Option.bind_some]
    rw [hc k (by omega)]
    simp only [Option.bind_some]
    rw [if_pos ⟨i0, i1, by omega, by have := hx.2.1; omega⟩, hS k (by omega), hb k (by omega)]
    simp only [Option.bind_some]
  by_cases e0 : c = 0
  · refine ⟨u.set ix.toNat ⟨s, (rd_T30 u ix).f1, (rd_T30 u ix).f2⟩, q1 + 1 + 1 + 1, fun k hk => by rw [base k hk, if_pos e0], ⟨by omega, by omega⟩, by rw [List.length_set]; omega, by rw [List.length_set]; omega, set_small hs _ _ ⟨hz, Nat.le_trans hx.2.1 (by omega), hx.2.2⟩⟩
  by_cases e1 : c = 1
  · refine ⟨u.set ix.toNat ⟨(rd_T30 u ix).f0, (rd_T30 u ix).f1, []⟩, q1 + 1 + 1, fun k hk => by rw [base k hk, if_neg e0, if_pos e1], ⟨by omega, by omega⟩, by rw [List.length_set]; omega, by rw [List.length_set]; omega, set_small hs _ _ ⟨hx.1, Nat.zero_le _, fun y hy => absurd hy (by simp)⟩⟩
  by_cases e2 : c = 2
  · refine ⟨u.set ix.toNat ⟨(rd_T30 u ix).f0, (rd_T30 u ix).f1, (rd_T30 u ix).f2 ++ [⟨b0, b1, b2⟩]⟩, q2, fun k hk => by rw [base k hk, if_neg e0, if_neg e1, if_pos e2], ⟨by omega, by omega⟩, by rw [List.length_set]; omega, by rw [List.length_set]; omega, set_small hs _ _ ⟨hx.1, by have := hx.2.1; rw [List.length_append]; simp; omega, fun y hy => ?_⟩⟩
    rcases List.mem_append.mp hy with h | h
    · exact hx.2.2 y h
    · rw [List.mem_singleton.mp h]; exact hbz
  by_cases e3 : c = 3
  · refine ⟨u ++ [rd_T30 u ix], q1 + 1 + 1, fun k hk => by rw [base k hk, if_neg e0, if_neg e1, if_neg e2, if_pos e3], ⟨by omega, by omega⟩, by rw [List.length_append]; simp, by rw [List.length_append]; simp; omega, fun x hx2 => ?_⟩
    rcases List.mem_append.mp hx2 with h | h
    · exact (hs x h).mono (by omega)
    · rw [List.mem_singleton.mp h]; exact hx.mono (by omega)
  · exact ⟨u, q1 + 1 + 1, fun k hk => by rw [base k hk, if_neg e0, if_neg e1, if_neg e2, if_neg e3], ⟨by omega, by omega⟩, by omega, by omega, fun x hx2 => (hs x hx2).mono (by omega)⟩
def SmallV (u : List S30) : Prop := u.length ≤ 4 ∧ ∀ x ∈ u, SmallF 6 x
def Small3 (u : List S30) : Prop := u.length ≤ 3 ∧ ∀ x ∈ u, SmallF 5 x
theorem Small3.v {u : List S30} (h : Small3 u) : SmallV u := ⟨by have := h.1; omega, fun x hx => (h.2 x hx).mono (by omega)⟩
theorem all_snoc {α : Type} {P : α → Prop} {l : List α} {a : α} (h : ∀ x ∈ l, P x) (ha : P a) : ∀ x ∈ l ++ [a], P x := fun x hx => by
  rcases List.mem_append.mp hx with h1 | h1
  · exact h x h1
  · rw [List.mem_singleton.mp h1]; exact ha
theorem l3Units_l0 (l : List Int) (hl : Bytes l) : ∀ (n : Nat) (p : Int) (us : List (List S30)), 0 ≤ p → p + 200 * n < 300000000000 → us.length + n ≤ 8 → (∀ u ∈ us, Small3 u) →
    ∃ (us' : List (List S30)) (q : Int), (∀ k, n + 50 ≤ k → spec_l3Units.l0 k us (n : Int) l p = some (us', q)) ∧ On p q (200 * n) ∧ us'.length = us.length + n ∧ ∀ u ∈ us', Small3 u
  | 0, p, us, hp, hp', hu, hs => by
    refine ⟨us, p, fun k hk => ?_, ⟨by omega, by omega⟩, by omega, hs⟩
    obtain ⟨k, rfl, _⟩ := succ_of (show 1 < k by omega)
    simp only [spec_l3Units.l0]
    rw [if_neg (by omega)]
  | n + 1, p, us, hp, hp', hu, hs => by
    obtain ⟨u, q, h, hq, h1, h2, h3⟩ := spec_l2Unit_f l hl p hp (by omega)
    have q0 := hq.1
    have q1 := hq.2
    have hw : wrap64 (((n + 1 : Nat) : Int) - 1) = (n : Int) := by rw [wrap_id (by omega) (by omega)]; push_cast; omega
    obtain ⟨us', q', g1, g2, g3, g4⟩ := l3Units_l0 l hl n q (us ++ [u]) (by omega) (by push_cast at hp'; omega) (by rw [List.length_append]; simp; omega) (all_snoc hs ⟨h2, h3⟩)
    refine ⟨us', q', fun k hk => ?_, ⟨by have := g2.1; omega, by have := g2.2; push_cast; omega⟩, by rw [g3, List.length_append]; simp; omega, g4⟩
    obtain ⟨k, rfl, hk'⟩ := succ_of (show n + 50 < k by omega)
    simp only [spec_l3Units.l0]
    rw [if_pos (by push_cast; omega), h k (by omega)]
    simp only [Option.bind_some]
    rw [if_pos (show us.length < 5864062014805 by omega), hw, g1 k hk']
theorem spec_l3Units_f (l : List Int) (hl : Bytes l) (p : Int) (hp : 0 ≤ p) (hp' : p < 200000000000) (a : Nat) (ha : a ≤ 6) :
    ∃ (us : List (List S30)) (q : Int), (∀ k, 70 ≤ k → spec_l3Units.f k l p (a : Int) = some (us, q)) ∧ On p q 2000 ∧ us.length ≤ a ∧ ∀ u ∈ us, Small3 u := by
  obtain ⟨n, hn, n0, n1⟩ := spec_l13Rd_pick_f l hl p ((a : Int) + 1) hp (by omega) (by omega)
  obtain ⟨m, rfl⟩ : ∃ m : Nat, n = m := ⟨n.toNat, by omega⟩
  obtain ⟨us, q, h1, h2, h3, h4⟩ := l3Units_l0 l hl m (p + 1) [] (by omega) (by omega) (by simp; omega) (by simp)
  refine ⟨us, q, fun k hk => ?_, ⟨by have := h2.1; omega, by have := h2.2; omega⟩, by rw [h3]; simp; omega, h4⟩
  unfold spec_l3Units.f
  rw [show wrap64 ((a : Int) + 1) = (a : Int) + 1 from wrap_id (by omega) (by omega), hn k (by omega)]
  simp only [Option.bind_some]
  rw [h1 k (by omega)]
theorem l3Thin_l1 (us : List (List S30)) (hus : ∀ u ∈ us, Small3 u) (i : Nat) (hi : i < us.length) (out : List (List S30)) (hout : out.length ≤ 8) : ∀ (m j : Nat) (acc : List S30) (names : List ByteArray), j + m = (us.getD i []).length → acc.length ≤ j → (∀ x ∈ acc, SmallF 5 x) → names.length + m ≤ 500 →
    ∃ (acc' : List S30) (names' : List ByteArray), (∀ k, 600 + m ≤ k → spec_l3Thin.l1 k us out names (i : Int) acc (j : Int) = spec_l3Thin.l0 (k - m - 1) us (out ++ [acc']) names' (wrap64 ((i : Int) + 1))) ∧ Small3 acc' ∧ names'.length ≤ names.length + m
  | 0, j, acc, names, hj, ha, hs, hn => by
    have hu := hus _ (getD_mem (d := []) hi)
    refine ⟨acc, names, fun k hk => ?_, ⟨by have := hu.1; omega, hs⟩, by omega⟩
    obtain ⟨k, rfl, _⟩ := succ_of (show 1 < k by omega)
    simp only [spec_l3Thin.l1]
    rw [show rd_L13 us (i : Int) = us.getD i [] from rfl, if_pos (by omega), if_pos (by omega), if_neg (by omega), if_pos (show out.length < 5864062014805 by omega)]
    rfl
  | m + 1, j, acc, names, hj, ha, hs, hn => by
    have hu := hus _ (getD_mem (d := []) hi)
    have hx : SmallF 5 ((us.getD i []).getD j z30) := hu.2 _ (getD_mem (by omega))
    have hw : wrap64 ((j : Int) + 1) = ((j + 1 : Nat) : Int) := by have := hu.1; rw [wrap_id (by omega) (by omega)]; push_cast; rfl
    have step : ∀ k, 600 ≤ k → spec_l3Thin.l1 (k + 1) us out names (i : Int) acc (j : Int) = if ((us.getD i []).getD j z30).f1 = true ∨ hasB names ((us.getD i []).getD j z30).f0 = false then spec_l3Thin.l1 k us out (names ++ [((us.getD i []).getD j z30).f0]) (i : Int) (acc ++ [(us.getD i []).getD j z30]) ((j + 1 : Nat) : Int) else spec_l3Thin.l1 k us out names (i : Int) acc ((j + 1 : Nat) : Int) := by
      intro k hk
      simp only [spec_l3Thin.l1]
      rw [show rd_L13 us (i : Int) = us.getD i [] from rfl, show rd_T30 (us.getD i []) (j : Int) = (us.getD i []).getD j z30 from rfl]
      rw [if_pos (by omega), if_pos (by omega), if_pos (by omega), if_pos (by omega), if_pos (show acc.length < 2932031007402 by have := hu.1; omega), if_pos (show names.length < 8796093022208 by omega), spec_l2Has_f names (by omega) _ k (by omega), hw]
      simp only [Option.bind_some]
      cases h1 : ((us.getD i []).getD j z30).f1 with
      | true => rw [if_pos rfl, if_pos (.inl rfl), ← h1]
      | false =>
        rw [if_neg (by decide)]
        cases h2 : hasB names ((us.getD i []).getD j z30).f0 with
        | true => rw [if_pos rfl, if_neg (by simp)]
        | false => rw [if_neg (by decide), if_pos (.inr rfl), ← h1]
    by_cases hc : ((us.getD i []).getD j z30).f1 = true ∨ hasB names ((us.getD i []).getD j z30).f0 = false
    · obtain ⟨acc', names', g1, g2, g3⟩ := l3Thin_l1 us hus i hi out hout m (j + 1) (acc ++ [(us.getD i []).getD j z30]) (names ++ [((us.getD i []).getD j z30).f0]) (by omega) (by rw [List.length_append]; simp; omega) (all_snoc hs hx) (by rw [List.length_append]; simp; omega)
      refine ⟨acc', names', fun k hk => ?_, g2, by rw [List.length_append] at g3; simp at g3; omega⟩
      obtain ⟨k, rfl, hk'⟩ := succ_of (show 600 + m < k by omega)
      rw [step k (by omega), if_pos hc, g1 k hk', show k + 1 - (m + 1) - 1 = k - m - 1 by omega]
    · obtain ⟨acc', names', g1, g2, g3⟩ := l3Thin_l1 us hus i hi out hout m (j + 1) acc names (by omega) (by omega) hs (by omega)
      refine ⟨acc', names', fun k hk => ?_, g2, by omega⟩
      obtain ⟨k, rfl, hk'⟩ := succ_of (show 600 + m < k by omega)
      rw [step k (by omega), if_neg hc, g1 k hk', show k + 1 - (m + 1) - 1 = k - m - 1 by omega]
theorem l3Thin_l0 (us : List (List S30)) (hus : ∀ u ∈ us, Small3 u) (hl : us.length ≤ 8) : ∀ (m i : Nat) (out : List (List S30)) (names : List ByteArray), i + m = us.length → out.length = i → (∀ u ∈ out, Small3 u) → names.length + 3 * m ≤ 400 →
    ∃ us' : List (List S30), (∀ k, 700 + 10 * m ≤ k → spec_l3Thin.l0 k us out names (i : Int) = some us') ∧ us'.length = us.length ∧ ∀ u ∈ us', Small3 u
  | 0, i, out, names, hi, ho, hs, hn => by
    refine ⟨out, fun k hk => ?_, by omega, hs⟩
    obtain ⟨k, rfl, _⟩ := succ_of (show 1 < k by omega)
    simp only [spec_l3Thin.l0]
    rw [if_neg (by omega)]
  | m + 1, i, out, names, hi, ho, hs, hn => by
    have hu := hus _ (getD_mem (d := []) (show i < us.length by omega))
    have hu1 := hu.1
    obtain ⟨acc, names', g1, g2, g3⟩ := l3Thin_l1 us hus i (by omega) out (by omega) (us.getD i []).length 0 [] names (by omega) (by simp) (by simp) (by omega)
    obtain ⟨us', f1, f2, f3⟩ := l3Thin_l0 us hus hl m (i + 1) (out ++ [acc]) names' (by omega) (by rw [List.length_append]; simp; omega) (all_snoc hs g2) (by omega)
    refine ⟨us', fun k hk => ?_, f2, f3⟩
    obtain ⟨k, rfl, hk'⟩ := succ_of (show 700 + 10 * m + 9 < k by omega)
    simp only [spec_l3Thin.l0]
    rw [if_pos (by omega)]
    have e := g1 k (by omega)
    rw [show ((0 : Nat) : Int) = 0 from rfl] at e
    rw [e, show wrap64 ((i : Int) + 1) = ((i + 1 : Nat) : Int) from by rw [wrap_id (by omega) (by omega)]; push_cast; rfl]
    exact f1 _ (by omega)
theorem spec_l3Thin_f (us : List (List S30)) (hus : ∀ u ∈ us, Small3 u) (hl : us.length ≤ 8) : ∃ us' : List (List S30), (∀ k, 1000 ≤ k → spec_l3Thin.f k us = some us') ∧ us'.length = us.length ∧ ∀ u ∈ us', Small3 u := by
  obtain ⟨us', h1, h2, h3⟩ := l3Thin_l0 us hus hl us.length 0 [] [] (by omega) rfl (by simp) (by simp; omega)
  exact ⟨us', fun k hk => h1 k (by omega), h2, h3⟩
theorem l3Bent_l0 (l : List Int) (p : Int) : ∀ (m : Nat) (us : List (List S30)), us.length + m = 9 → (∀ u ∈ us, SmallV u) → ∃ us' : List (List S30), (∀ k, m + 2 ≤ k → spec_l3Bent.l0 k us l p = some (us', p)) ∧ us'.length ≤ 9 ∧ ∀ u ∈ us', SmallV u
  | 0, us, h, hs => by
    refine ⟨us, fun k hk => ?_, by omega, hs⟩
    obtain ⟨k, rfl, _⟩ := succ_of (show 1 < k by omega)
    simp only [spec_l3Bent.l0]
    rw [if_neg (by omega)]
  | m + 1, us, h, hs => by
    obtain ⟨us', g1, g2, g3⟩ := l3Bent_l0 l p m (us ++ [[]]) (by rw [List.length_append]; simp; omega) (all_snoc hs ⟨by simp, by simp⟩)
    refine ⟨us', fun k hk => ?_, g2, g3⟩
    obtain ⟨k, rfl, hk'⟩ := succ_of (show m + 2 < k by omega)
    simp only [spec_l3Bent.l0]
    rw [if_pos (by omega), if_pos (by omega), g1 k hk']
theorem l3Bent_j0 (l : List Int) (hl : Bytes l) (us : List (List S30)) (hn : us.length ≤ 8) (hs : ∀ u ∈ us, SmallV u) (p : Int) (hp : 0 ≤ p) (hp' : p < 200000000000) :
    ∃ (us' : List (List S30)) (q : Int), (∀ k, 100 ≤ k → spec_l3Bent.j0 k us l p = some (us', q)) ∧ On p q 300 ∧ us'.length ≤ 9 ∧ ∀ u ∈ us', SmallV u := by
  obtain ⟨c, hc, c0, c1⟩ := spec_l13Rd_pick_f l hl p 30 hp (by omega) (by omega)
  obtain ⟨u, q, hu, hq, hsu⟩ := spec_l2Bent_f l hl (p + 1) (by omega) (by omega)
  have q0 := hq.1
  have q1 := hq.2
  obtain ⟨us', g1, g2, g3⟩ := l3Bent_l0 l (p + 1) (9 - us.length) us (by omega) hs
  by_cases e0 : c = 0
  · refine ⟨us ++ [u], q, fun k hk => ?_, ⟨by omega, by omega⟩, by rw [List.length_append]; simp; omega, all_snoc hs ⟨hsu.2.1, hsu.2.2⟩⟩
    obtain ⟨k, rfl, _⟩ := succ_of (show 90 < k by omega)
    simp only [spec_l3Bent.j0]
    rw [hc k (by omega)]
    simp only [Option.bind_some]
    rw [if_pos e0, hu k (by omega)]
    simp only [Option.bind_some]
    rw [if_pos (show us.length < 5864062014805 by omega)]
  · by_cases e1 : c = 1
    · refine ⟨us', p + 1, fun k hk => ?_, ⟨by omega, by omega⟩, g2, g3⟩
      obtain ⟨k, rfl, _⟩ := succ_of (show 90 < k by omega)
      simp only [spec_l3Bent.j0]
      rw [hc k (by omega)]
      simp only [Option.bind_some]
      rw [if_neg e0, if_pos e1, g1 k (by omega)]
    · refine ⟨us, p + 1, fun k hk => ?_, ⟨by omega, by omega⟩, by omega, hs⟩
      obtain ⟨k, rfl, _⟩ := succ_of (show 90 < k by omega)
      simp only [spec_l3Bent.j0]
      rw [hc k (by omega)]
      simp only [Option.bind_some]
      rw [if_neg e0, if_neg e1]
theorem spec_l3Bent_f (l : List Int) (hl : Bytes l) (p : Int) (hp : 0 ≤ p) (hp' : p < 100000000000) (a : Nat) (ha : a ≤ 6) :
    ∃ (us : List (List S30)) (q : Int), (∀ k, 2000 ≤ k → spec_l3Bent.f k l p (a : Int) = some (us, q)) ∧ On p q 3000 ∧ us.length ≤ 9 ∧ ∀ u ∈ us, SmallV u := by
  obtain ⟨us, q, h, hq, hn, hs⟩ := spec_l3Units_f l hl p hp (by omega) a ha
  have q0 := hq.1
  have q1 := hq.2
  obtain ⟨c, hc, c0, c1⟩ := spec_l13Rd_pick_f l hl q 3 (by omega) (by omega) (by omega)
  obtain ⟨ut, ht, htn, hts⟩ := spec_l3Thin_f us hs (by omega)
  obtain ⟨r1, p1, g1, g2, g3, g4⟩ := l3Bent_j0 l hl ut (by omega) (fun u hu => (hts u hu).v) (q + 1) (by omega) (by omega)
  obtain ⟨r2, p2, f1, f2, f3, f4⟩ := l3Bent_j0 l hl us (by omega) (fun u hu => (hs u hu).v) (q + 1) (by omega) (by omega)
  by_cases e : c > 0
  · refine ⟨r1, p1, fun k hk => ?_, ⟨by have := g2.1; omega, by have := g2.2; omega⟩, g3, g4⟩
    unfold spec_l3Bent.f
    rw [h k (by omega)]
    simp only [Option.bind_some]
    rw [hc k (by omega)]
    simp only [Option.bind_some]
    rw [if_pos e, ht k (by omega)]
    simp only [Option.bind_some]
    rw [g1 k (by omega)]
  · refine ⟨r2, p2, fun k hk => ?_, ⟨by have := f2.1; omega, by have := f2.2; omega⟩, f3, f4⟩
    unfold spec_l3Bent.f
    rw [h k (by omega)]
    simp only [Option.bind_some]
    rw [hc k (by omega)]
    simp only [Option.bind_some]
    rw [if_neg e, f1 k (by omega)]
theorem SmallV.fit {u : UnitV} (h : SmallV u) : FitU u := ⟨by have := h.1; omega, fun x hx => (h.2 x hx).fit (by omega)⟩
end Go.Proofs.Ytpckkkcaffhhnaa.L
namespace Go.Proofs.Ytpckkkcaffhhnaa.Pure
open Go.RowKit Go.Proofs.Ytpckkkcaffhhnaa.P Go.Proofs.Ytpckkkcaffhhnaa.L Go.Proofs.YtpckkkcaffhhnaaW.PrintWords
theorem draw_pwants (l : List Int) (hl : Bytes l) : ∃ us, (∀ k, 2000 ≤ k → spec_DrawPickWants.f k l = some us) ∧ us.length ≤ 9 ∧ ∀ u ∈ us, SmallV u := by
  obtain ⟨l', e, hl', _⟩ := spec_l13Open_f l hl
  obtain ⟨us, q, h, hq, hn, hu⟩ := spec_l3Bent_f l' hl' 0 (by decide) (by decide) 4 (by decide)
  refine ⟨us, fun k hk => ?_, hn, hu⟩
  unfold spec_DrawPickWants.f
  rw [e]; simp only [Option.bind_some]
  rw [show (4 : Int) = ((4 : Nat) : Int) from rfl, h k (by omega)]; rfl
theorem draw_psame (l : List Int) (hl : Bytes l) : ∃ us vs, (∀ k, 3000 ≤ k → spec_DrawPickSame.f k l = some (us, vs)) ∧ us.length ≤ 9 ∧ (∀ u ∈ us, SmallV u) := by
  obtain ⟨l', e, hl', _⟩ := spec_l13Open_f l hl
  obtain ⟨us, q, h, hq, hn, hu⟩ := spec_l3Bent_f l' hl' 0 (by decide) (by decide) 3 (by decide)
  have base : ∀ k, 3000 ≤ k → spec_DrawPickSame.f k l = (if (l.length : Int) > 0 then (if 0 < (l.length : Int) then (if (Int.tmod (rd l 0) 2) = 1 then (spec_DrawPickSame.j0 k us us (decide ((us.length : Int) > 0))) else (spec_DrawPickSame.j0 k us us false)) else (none)) else (spec_DrawPickSame.j0 k us us false)) := by
    intro k hk
    unfold spec_DrawPickSame.f
    rw [e]; simp only [Option.bind_some]
    rw [show (3 : Int) = ((3 : Nat) : Int) from rfl, h k (by omega)]; simp only [Option.bind_some]
  have same : ∀ k, 3000 ≤ k → spec_DrawPickSame.j0 k us us false = some (us, us) := by
    intro k hk
    obtain ⟨k, rfl, _⟩ := succ_of (show 0 < k by omega)
    simp only [spec_DrawPickSame.j0]
    rw [if_neg (by decide)]
  by_cases h0 : (l.length : Int) > 0
  · by_cases h2 : (Int.tmod (rd l 0) 2) = 1
    · by_cases h3 : (us.length : Int) > 0
      · refine ⟨us, us.drop 1, fun k hk => ?_, hn, hu⟩
        rw [base k hk, if_pos h0, if_pos (by omega), if_pos h2, decide_eq_true h3]
        obtain ⟨k, rfl, _⟩ := succ_of (show 0 < k by omega)
        simp only [spec_DrawPickSame.j0]
        rw [if_pos trivial, if_pos (by omega)]
      · exact ⟨us, us, fun k hk => by rw [base k hk, if_pos h0, if_pos (by omega), if_pos h2, decide_eq_false h3, same k hk], hn, hu⟩
    · exact ⟨us, us, fun k hk => by rw [base k hk, if_pos h0, if_pos (by omega), if_neg h2, same k hk], hn, hu⟩
  · exact ⟨us, us, fun k hk => by rw [base k hk, if_neg h0, same k hk], hn, hu⟩
theorem pick_refl (l : List UnitV) : all2 unitSame l l = true := all2_refl _ _ (fun u _ => unitSame_refl u)
theorem pickWantsV_len (us : List UnitV) : (pickWantsV us).length ≤ 1000 := by
  unfold pickWantsV
  split
  · rename_i h
    obtain ⟨h1, h2⟩ := unitsOk_bounds h
    have h3 := flatten_len us 5 h2
    have h4 := orderedV_len (lackRaw us.flatten us.flatten)
    have h5 := lackRaw_len us.flatten 10 us.flatten (flat_bodies (unitsOk_bodies h))
    omega
  · simp
theorem wants_lack (us : List UnitV) (a : ByteArray) (h : a ∈ pickWantsV us) : unitsOkB us 8 = true ∧ (pickAtV us a).2.2 = false := by
  unfold pickWantsV at h
  by_cases hok : unitsOkB us 8 = true
  · rw [if_pos hok, mem_ordered, mem_lack] at h
    obtain ⟨x, _, _, hf⟩ := h
    refine ⟨hok, ?_⟩
    unfold pickAtV
    rw [if_pos hok]
    have := pickV_has us a
    rw [decide_eq_true hf] at this
    simpa using this
  · rw [if_neg hok] at h; exact absurd h (by simp)
set_option maxRecDepth 100000 in
theorem FnPickWants : laws_FnPickWants.Pure := by
  intro l _ _ hw
  unfold laws_FnPickWants.f
  by_cases h : (l.length : Int) > 1048576
  · exact ⟨1, by rw [if_pos h]⟩
  have hbl : Bytes l := ⟨by omega, hw⟩
  obtain ⟨us, hd, hl, hsm⟩ := draw_pwants l hbl
  obtain ⟨xs, ys, hd2, hl2, hsm2⟩ := draw_psame l hbl
  have hf : ∀ u ∈ us, FitU u := fun u hu => (hsm u hu).fit
  obtain ⟨K, hK⟩ : ∃ K : Nat, 1000000000000000 ≤ K := ⟨_, Nat.le_refl _⟩
  refine ⟨K + 3, ?_⟩
  rw [if_neg h]
  simp only [laws_FnPickWants.j0]
  rw [hd _ (by omega)]; simp only [Option.bind_some]
  rw [impl_PickWants_f us hf _ (by omega), spec_PickWants_f us (by omega) hf _ (by omega), hd2 _ (by omega)]
  simp only [Option.bind_some, if_true]
  have hps : impl_PickSame.f xs ys = some (all2 unitSame xs ys) := rfl
  have hpu : impl_PickSame.f us us = some (all2 unitSame us us) := rfl
  rw [hps, hpu, pick_refl, spec_PickSame_f xs ys (by omega) 1000 2000 (by decide) (by decide) (fun u hu => ⟨by have := (hsm2 u hu).1; omega, fun x hx => by have := ((hsm2 u hu).2 x hx).2.1; omega⟩) _ (by omega)]
  simp only [Option.bind_some, bne_self_eq_false, Bool.false_eq_true, if_false, Bool.not_true, laws_FnPickWants.j1, laws_FnPickWants.j2]
  have hlen := pickWantsV_len us
  have key : ∀ (m i k : Nat), i + m = (pickWantsV us).length → 500000000000000 + 10 * m ≤ k → laws_FnPickWants.l0 k us (pickWantsV us) (pickWantsV us) (i : Int) = some true := by
    intro m
    induction m with
    | zero =>
      intro i k hi hk
      obtain ⟨k, rfl, _⟩ := succ_of (show 0 < k by omega)
      simp only [laws_FnPickWants.l0]
      rw [if_neg (by omega)]
      by_cases h1 : (us.length : Int) = 1
      · obtain ⟨u, rfl⟩ : ∃ u, us = [u] := by
          cases us with
          | nil => simp at h1
          | cons u r => cases r with
            | nil => exact ⟨u, rfl⟩
            | cons v r => simp only [List.length_cons] at h1; omega
        have hu := hf u (List.mem_cons_self ..)
        rw [if_pos h1, if_pos (by omega), show rd_L13 [u] (0 : Int) = u from rfl, impl_UnitWants_f u hu.1 hu.2 k (by have := (hsm u (List.mem_cons_self ..)).1; omega)]
        simp only [Option.bind_some]
        have e : pickWantsV [u] = unitWantsV u := by
          unfold pickWantsV unitWantsV
          have e1 : unitsOkB [u] 8 = unitOkB u := by unfold unitsOkB; simp
          rw [e1]
          simp
        rw [e]
        simp
      · rw [if_neg h1]
    | succ m ih =>
      intro i k hi hk
      obtain ⟨k, rfl⟩ : ∃ j, k = j + 3 := ⟨k - 3, by omega⟩
      have hlt : i < (pickWantsV us).length := by omega
      obtain ⟨hok, hlk⟩ := wants_lack us _ (getD_mem (d := ByteArray.empty) hlt)
      have ev : pickWantsV us = orderedV (lackRaw us.flatten us.flatten) := by unfold pickWantsV; rw [if_pos hok]
      have hwr : wrap64 ((i : Int) + 1) = ((i + 1 : Nat) : Int) := by rw [wrap_id (by omega) (by omega)]; push_cast; rfl
      simp only [laws_FnPickWants.l0]
      rw [if_pos (by omega)]
      simp only [laws_FnPickWants.j4]
      rw [if_pos (by omega), if_pos (by omega), show rdOf ByteArray.empty (pickWantsV us) (i : Int) = (pickWantsV us).getD i ByteArray.empty from rfl, impl_PickAt_f us hf _ (k + 1) (by omega)]
      simp only [Option.bind_some]
      rw [hlk, if_neg (by decide), if_pos (by omega), if_pos trivial]
      by_cases h0 : (i : Int) > 0
      · have hw1 : wrap64 ((i : Int) - 1) = ((i - 1 : Nat) : Int) := by rw [wrap_id (by omega) (by omega)]; omega
        have hless : Op.bytesLess ((pickWantsV us).getD (i - 1) ByteArray.empty).toList ((pickWantsV us).getD i ByteArray.empty).toList = true := by
          rw [ev]
          exact less_at _ i (by omega) (by rw [← ev]; exact hlt)
        rw [if_pos h0, hw1, if_pos (by omega), if_pos (by omega), show rdOf ByteArray.empty (pickWantsV us) ((i - 1 : Nat) : Int) = (pickWantsV us).getD (i - 1) ByteArray.empty from rfl, hless]
        simp only [laws_FnPickWants.j5]
        rw [if_neg (by decide), hwr]
        exact ih (i + 1) k (by omega) (by omega)
      · rw [if_neg h0]
        simp only [laws_FnPickWants.j5]
        rw [if_neg (by decide), hwr]
        exact ih (i + 1) k (by omega) (by omega)
  exact key _ 0 _ (Nat.zero_add _) (by omega)
end Go.Proofs.Ytpckkkcaffhhnaa.Pure
