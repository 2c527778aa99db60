-- LDraw, LDrawU, PximplFunRefs, PxspecFunRefs, LRun, LRefs, LDrawP, LPick, LHit, PureFnPickAt: put together by squash.py
import Derived.Test.YtpckkkcaffhhnaaSqFnPickAt6
import Derived.Test.YtpckkkcaffhhnaaSqFnPickAt8
import Derived.Test.YtpckkkcaffhhnaaSqFnPickAt7
import Derived.Test.YtpckkkcaffhhnaaSqFnPickAt3
import Derived.Test.YtpckkkcaffhhnaaSqFnPickAt4
import Derived.Test.YtpckkkcaffhhnaaSqFnPickAt5
import Derived.Test.YtpckkkcaffhhnaaSqFnPickAt10
import Derived.Test.YtpckkkcaffhhnaaSqFnPickAt9
import Derived.Test.YtpckkkcaffhhnaaSqFnPickAt11

/- What the drawing functions compute: a code is read byte by byte; each pick is within its range. -/
namespace Go.Proofs.Ytpckkkcaffhhnaa.L
open Go.RowKit Go.Proofs.YtpckkkcaffhhnaaW.PrintWords Go.Proofs.YtpckkkcaffhhnaaW.PrintLast Go.Proofs.YtpckkkcaffhhnaaW.PrintMore Go.Proofs.Ytpckkkcaffhhnaa.P
set_option linter.unusedVariables false
set_option linter.unusedSimpArgs false

/-- The bytes of a code. -/
def Bytes (l : List Int) : Prop := l.length ≤ 1048576 ∧ ∀ x ∈ l, (Lit.int .u8 x).wf = true
/-- A place to read on from: nowhere near an overflow. -/
def Place (p : Int) : Prop := 0 ≤ p ∧ p < 1000000000000
theorem Bytes.take {l : List Int} (h : Bytes l) (n : Nat) : Bytes (l.take n) :=
  ⟨Nat.le_trans (by rw [List.length_take]; omega) h.1, fun x hx => h.2 x (List.mem_of_mem_take hx)⟩

theorem spec_l13Open_f (l : List Int) (h : Bytes l) : ∃ l', spec_l13Open.f l = some (l', 0) ∧ Bytes l' ∧ l'.length ≤ 2000 := by
  unfold spec_l13Open.f
  by_cases c : (l.length : Int) > 2000
  · rw [if_pos c, if_pos (by omega)]
    exact ⟨_, rfl, h.take 2000, by rw [List.length_take]; omega⟩
  · rw [if_neg c]
    exact ⟨l, rfl, h, by omega⟩
/-- The number that is made past the end of a code: some number, not negative. -/
theorem mixed (l : List Int) (hl : Bytes l) (h0 : 0 < l.length) (p : Int) (hp : 0 ≤ p) (hp' : p < 1000000000000) (x y q : Int) (hx : 0 ≤ x ∧ x ≤ 255) (hy : 0 ≤ y ∧ y ≤ 255) (hq : 0 ≤ q ∧ q ≤ p) :
    ∃ z, wrap64 ((wrap64 ((wrap64 ((wrap64 (x * 131)) + (wrap64 (y * 1117)))) + (wrap64 (p * 29)))) + (wrap64 (q * 53))) = z ∧ 0 ≤ z ∧ z < 1000000000000000 := by
  refine ⟨x * 131 + y * 1117 + p * 29 + q * 53, ?_, by omega, by omega⟩
  rw [wrap_id (n := x * 131) (by omega) (by omega), wrap_id (n := y * 1117) (by omega) (by omega), wrap_id (n := p * 29) (by omega) (by omega), wrap_id (n := q * 53) (by omega) (by omega),
    wrap_id (n := x * 131 + y * 1117) (by omega) (by omega), wrap_id (n := x * 131 + y * 1117 + p * 29) (by omega) (by omega), wrap_id (n := x * 131 + y * 1117 + p * 29 + q * 53) (by omega) (by omega)]
theorem spec_l13Rd_pick_f (l : List Int) (hl : Bytes l) (p n : Int) (hp : 0 ≤ p) (hp' : p < 1000000000000) (hn : 1 ≤ n) :
    ∃ r, (∀ k, 1 ≤ k → spec_l13Rd_pick.f k l p n = some (r, p + 1)) ∧ 0 ≤ r ∧ r < n := by
  have e1 : wrap64 (p + 1) = p + 1 := wrap_id (by omega) (by omega)
  have e2 : wrap64 (p + 1 - 1) = p := by rw [show p + 1 - 1 = p by omega]; exact wrap_id (by omega) (by omega)
  by_cases h0 : l.length = 0
  · refine ⟨0, fun k hk => ?_, by omega, by omega⟩
    obtain ⟨m, rfl, _⟩ := succ_of hk
    unfold spec_l13Rd_pick.f
    rw [if_neg (by omega), e1]
    simp only [spec_l13Rd_pick.j0]
    rw [if_pos (by rw [h0]; rfl)]
  · have hb : ((l.length : Int) == 0) = false := beq_eq_false_iff_ne.mpr (by omega)
    by_cases c : p < (l.length : Int)
    · have hb2 := rd_byte hl.2 p
      refine ⟨Int.tmod (rd l p) n, fun k hk => ?_, tmod_small hb2.1 hn⟩
      obtain ⟨m, rfl, _⟩ := succ_of hk
      unfold spec_l13Rd_pick.f
      rw [if_neg (by omega), e1, hb]
      simp only [spec_l13Rd_pick.j0]
      rw [if_neg (by decide), e2, if_pos c, if_pos hp, if_neg (by omega), wrap_id (n := rd l p) (by omega) (by omega)]
    · have hL : (1 : Int) ≤ l.length := by omega
      have t1 := tmod_small hp hL
      have h7 : wrap64 (p * 7) = p * 7 := wrap_id (by omega) (by omega)
      have h73 : wrap64 (p * 7 + 3) = p * 7 + 3 := wrap_id (by omega) (by omega)
      have t2 := tmod_small (a := p * 7 + 3) (by omega) hL
      have b1 := rd_byte hl.2 (Int.tmod p l.length)
      have b2 := rd_byte hl.2 (Int.tmod (p * 7 + 3) l.length)
      have q1 := tdiv_small hp hL
      have w1 := wrap_id (n := rd l (Int.tmod p l.length)) (by omega) (by omega)
      have w2 := wrap_id (n := rd l (Int.tmod (p * 7 + 3) l.length)) (by omega) (by omega)
      have w3 := wrap_id (n := Int.tdiv p l.length) (by omega) (by omega)
      obtain ⟨z, hz, z0, z1⟩ := mixed l hl (by omega) p hp hp' _ _ _ b1 b2 q1
      have q2 := tdiv_small (a := z) (n := 64) z0 (by omega)
      have w4 := wrap_id (n := Int.tdiv z 64) (by omega) (by omega)
      have x1 := xor_nonneg z (Int.tdiv z 64) z0 (by omega) q2.1 (by omega)
      refine ⟨Int.tmod (Go.bits .xor .i64 z (Int.tdiv z 64)) n, fun k hk => ?_, tmod_small x1.1 hn⟩
      obtain ⟨m, rfl, _⟩ := succ_of hk
      unfold spec_l13Rd_pick.f
      rw [if_neg (by omega), e1, hb]
      simp only [spec_l13Rd_pick.j0]
      rw [if_neg (by decide), e2, if_neg c, if_neg (by omega), if_pos t1.1, if_pos t1.2, h7, h73, if_pos t2.1, if_pos t2.2, if_neg (by omega), w1, w2, w3, hz, w4]
theorem spec_l13Rd_num_f (l : List Int) (hl : Bytes l) (p : Int) (hp : 0 ≤ p) (hp' : p < 1000000000000) (xs : List Int) (hx : 0 < xs.length) :
    ∃ r, (∀ k, 1 ≤ k → spec_l13Rd_num.f k l p xs = some (r, p + 1)) ∧ r ∈ xs := by
  obtain ⟨r, hr, r0, r1⟩ := spec_l13Rd_pick_f l hl p xs.length hp hp' (by omega)
  refine ⟨rd xs r, fun k hk => ?_, ?_⟩
  · unfold spec_l13Rd_num.f
    rw [hr k hk]
    simp only [Option.bind_some]
    rw [if_pos r0, if_pos r1]
  · unfold rd
    rw [List.getD_eq_getElem?_getD, List.getElem?_eq_getElem (by omega)]
    exact List.getElem_mem _
theorem spec_l13Rd_of_f (l : List Int) (hl : Bytes l) (p : Int) (hp : 0 ≤ p) (hp' : p < 1000000000000) (xs : List ByteArray) (hx : 0 < xs.length) :
    ∃ r, (∀ k, 1 ≤ k → spec_l13Rd_of.f k l p xs = some (r, p + 1)) ∧ r ∈ xs := by
  obtain ⟨r, hr, r0, r1⟩ := spec_l13Rd_pick_f l hl p xs.length hp hp' (by omega)
  refine ⟨rdOf ByteArray.empty xs r, fun k hk => ?_, ?_⟩
  · unfold spec_l13Rd_of.f
    rw [hr k hk]
    simp only [Option.bind_some]
    rw [if_pos r0, if_pos r1]
  · unfold rdOf
    rw [List.getD_eq_getElem?_getD, List.getElem?_eq_getElem (by omega)]
    exact List.getElem_mem _
def names6 : List ByteArray := [(⟨#[97]⟩ : ByteArray), (⟨#[98]⟩ : ByteArray), (⟨#[99]⟩ : ByteArray), (⟨#[100]⟩ : ByteArray), (⟨#[109, 97, 105, 110]⟩ : ByteArray), (⟨#[101]⟩ : ByteArray)]
theorem spec_l1Name_f (l : List Int) (hl : Bytes l) (p : Int) (hp : 0 ≤ p) (hp' : p < 1000000000000) :
    ∃ r, (∀ k, 1 ≤ k → spec_l1Name.f k l p = some (r, p + 1)) ∧ r ∈ names6 := by
  obtain ⟨r, hr, hm⟩ := spec_l13Rd_of_f l hl p hp hp' names6 (by decide)
  refine ⟨r, fun k hk => ?_, hm⟩
  unfold spec_l1Name.f
  have e := hr k hk
  unfold names6 at e
  rw [e]
  rfl
/-- A place further on, at most n places. -/
def On (p q : Int) (n : Int) : Prop := p ≤ q ∧ q ≤ p + n
theorem spec_l1Ins_f (l : List Int) (hl : Bytes l) (p : Int) (hp : 0 ≤ p) (hp' : p < 900000000000) :
    ∃ a b s q, (∀ k, 4 ≤ k → spec_l1Ins.f k l p = some (a, b, s, q)) ∧ On p q 2 ∧ s.size ≤ 4 := by
  obtain ⟨r, hr, r0, r1⟩ := spec_l13Rd_pick_f l hl p 8 hp (by omega) (by omega)
  obtain ⟨n1, hn1, _⟩ := spec_l13Rd_num_f l hl (p + 1) (by omega) (by omega) [1, (-1), 2, 5, (-3)] (by decide)
  obtain ⟨n2, hn2, _⟩ := spec_l13Rd_num_f l hl (p + 1) (by omega) (by omega) [6, 6, 7, 4] (by decide)
  obtain ⟨s1, hs1, hm1⟩ := spec_l1Name_f l hl (p + 1) (by omega) (by omega)
  have hz1 : s1.size ≤ 4 := by
    simp only [names6, List.mem_cons, List.not_mem_nil, or_false] at hm1
    rcases hm1 with rfl | rfl | rfl | rfl | rfl | rfl <;> decide
  have j2 : ∀ k, 1 ≤ k → ∀ b, ∃ a' b' s' q', (spec_l1Ins.j2 (k + 1) r b l (p + 1) = some (a', b', s', q')) ∧ On p q' 2 ∧ s'.size ≤ 4 ∧ ((b = true ∧ a' = 3 ∧ b' = 0 ∧ s' = s1 ∧ q' = p + 1 + 1) ∨ (b = false ∧ r = 6 ∧ a' = 5 ∧ b' = 0 ∧ s' = s1 ∧ q' = p + 1 + 1) ∨ (b = false ∧ r ≠ 6 ∧ a' = n2 ∧ b' = 0 ∧ s' = ⟨#[]⟩ ∧ q' = p + 1 + 1)) := by
    intro k hk b
    simp only [spec_l1Ins.j2]
    rw [hs1 k hk, hn2 k hk]
    cases b with
    | true => exact ⟨3, 0, s1, p + 1 + 1, rfl, ⟨by omega, by omega⟩, hz1, .inl ⟨rfl, rfl, rfl, rfl, rfl⟩⟩
    | false =>
      by_cases h6 : r = 6
      · exact ⟨5, 0, s1, p + 1 + 1, by rw [if_neg (by decide), if_pos h6]; rfl, ⟨by omega, by omega⟩, hz1, .inr (.inl ⟨rfl, h6, rfl, rfl, rfl, rfl⟩)⟩
      · exact ⟨n2, 0, ⟨#[]⟩, p + 1 + 1, by rw [if_neg (by decide), if_neg h6]; rfl, ⟨by omega, by omega⟩, by decide, .inr (.inr ⟨rfl, h6, rfl, rfl, rfl, rfl⟩)⟩
  -- which of the ways it goes hangs on r alone
  by_cases h01 : r = 0 ∨ r = 1
  · refine ⟨1, 0, ⟨#[]⟩, p + 1, fun k hk => ?_, ⟨by omega, by omega⟩, by decide⟩
    obtain ⟨m, rfl, _⟩ := succ_of (d := 3) hk
    unfold spec_l1Ins.f
    rw [hr _ (by omega)]
    simp only [Option.bind_some, spec_l1Ins.j0]
    rcases h01 with rfl | rfl <;> rfl
  · by_cases h23 : r = 2 ∨ r = 3
    · refine ⟨2, n1, ⟨#[]⟩, p + 1 + 1, fun k hk => ?_, ⟨by omega, by omega⟩, by decide⟩
      obtain ⟨m, rfl, hm⟩ := succ_of (d := 3) hk
      obtain ⟨m, rfl, hm2⟩ := succ_of (d := 2) hm
      unfold spec_l1Ins.f
      rw [hr _ (by omega)]
      simp only [Option.bind_some, spec_l1Ins.j0, spec_l1Ins.j1]
      rw [hn1 m (by omega)]
      rcases h23 with rfl | rfl <;> rfl
    · by_cases h45 : r = 4 ∨ r = 5
      · refine ⟨3, 0, s1, p + 1 + 1, fun k hk => ?_, ⟨by omega, by omega⟩, hz1⟩
        obtain ⟨m, rfl, hm⟩ := succ_of (d := 3) hk
        obtain ⟨m, rfl, hm2⟩ := succ_of (d := 2) hm
        obtain ⟨m, rfl, hm3⟩ := succ_of (d := 1) hm2
        unfold spec_l1Ins.f
        rw [hr _ (by omega)]
        simp only [Option.bind_some, spec_l1Ins.j0, spec_l1Ins.j1, spec_l1Ins.j2]
        rw [hs1 m (by omega)]
        rcases h45 with rfl | rfl <;> rfl
      · obtain ⟨a', b', s', q', _, hon, hsz, hwhat⟩ := j2 1 (Nat.le_refl _) false
        refine ⟨a', b', s', q', fun k hk => ?_, hon, hsz⟩
        obtain ⟨m, rfl, hm⟩ := succ_of (d := 3) hk
        obtain ⟨m, rfl, hm2⟩ := succ_of (d := 2) hm
        obtain ⟨m, rfl, hm3⟩ := succ_of (d := 1) hm2
        unfold spec_l1Ins.f
        rw [hr _ (by omega)]
        have e1 : (r == 1) = false := beq_eq_false_iff_ne.mpr (by omega)
        have e3 : (r == 3) = false := beq_eq_false_iff_ne.mpr (by omega)
        have e5 : (r == 5) = false := beq_eq_false_iff_ne.mpr (by omega)
        simp only [Option.bind_some]
        rw [if_neg (by omega), e1]
        simp only [spec_l1Ins.j0]
        rw [if_neg (by decide), if_neg (by omega), e3]
        simp only [spec_l1Ins.j1]
        rw [if_neg (by decide), if_neg (by omega), e5]
        simp only [spec_l1Ins.j2]
        rw [if_neg (by decide), hs1 m (by omega), hn2 m (by omega)]
        rcases hwhat with ⟨h, _⟩ | ⟨_, h6, rfl, rfl, rfl, rfl⟩ | ⟨_, h6, rfl, rfl, rfl, rfl⟩
        · exact absurd h (by decide)
        · rw [if_pos h6]; rfl
        · rw [if_neg h6]; rfl
theorem spec_l1Right_f (l : List Int) (hl : Bytes l) (p : Int) (hp : 0 ≤ p) (hp' : p < 900000000000) :
    ∃ a b s q, (∀ k, 4 ≤ k → spec_l1Right.f k l p = some (a, b, s, q)) ∧ On p q 3 ∧ s.size ≤ 4 := by
  obtain ⟨a, b, s, q, h, hq, hs⟩ := spec_l1Ins_f l hl p hp hp'
  by_cases c : a = 4
  · obtain ⟨s2, h2, hm⟩ := spec_l1Name_f l hl q (by have := hq.1; omega) (by have := hq.2; omega)
    refine ⟨a, b, s2, q + 1, fun k hk => ?_, ⟨by have := hq.1; omega, by have := hq.2; omega⟩, ?_⟩
    · unfold spec_l1Right.f
      rw [h k hk]
      simp only [Option.bind_some]
      rw [if_pos c, h2 k (by omega)]
      rfl
    · simp only [names6, List.mem_cons, List.not_mem_nil, or_false] at hm
      rcases hm with rfl | rfl | rfl | rfl | rfl | rfl <;> decide
  · refine ⟨a, b, s, q, fun k hk => ?_, ⟨hq.1, by have := hq.2; omega⟩, hs⟩
    unfold spec_l1Right.f
    rw [h k hk]
    simp only [Option.bind_some]
    rw [if_neg c]
theorem spec_l1Bent_f (l : List Int) (hl : Bytes l) (p : Int) (hp : 0 ≤ p) (hp' : p < 900000000000) :
    ∃ a b s q, (∀ k, 4 ≤ k → spec_l1Bent.f k l p = some (a, b, s, q)) ∧ On p q 5 ∧ s.size ≤ 7 := by
  obtain ⟨a, b, s, q, h, hq, hs⟩ := spec_l1Right_f l hl p hp hp'
  have q0 := hq.1
  have q1 := hq.2
  obtain ⟨r, hr, r0, r1⟩ := spec_l13Rd_pick_f l hl q 30 (by omega) (by omega) (by omega)
  obtain ⟨n1, hn1, _⟩ := spec_l13Rd_num_f l hl (q + 1) (by omega) (by omega) [0, 8, (-1), 1] (by decide)
  obtain ⟨n2, hn2, _⟩ := spec_l13Rd_num_f l hl (q + 1) (by omega) (by omega) [1, 1000, 1001] (by decide)
  obtain ⟨s1, hs1, hm1⟩ := spec_l13Rd_of_f l hl (q + 1) (by omega) (by omega) [(⟨#[65]⟩ : ByteArray), (⟨#[97, 98, 99, 100, 101, 102, 103]⟩ : ByteArray), (⟨#[97, 32, 98]⟩ : ByteArray), (⟨#[120]⟩ : ByteArray)] (by decide)
  have hz1 : s1.size ≤ 7 := by
    simp only [List.mem_cons, List.not_mem_nil, or_false] at hm1
    rcases hm1 with rfl | rfl | rfl | rfl <;> decide
  by_cases c0 : r = 0
  · refine ⟨n1, b, s, q + 1 + 1, fun k hk => ?_, ⟨by omega, by omega⟩, by omega⟩
    unfold spec_l1Bent.f
    rw [h k hk]; simp only [Option.bind_some]
    rw [hr k (by omega)]; simp only [Option.bind_some]
    rw [if_pos c0, hn1 k (by omega)]; rfl
  · by_cases c1 : r = 1
    · refine ⟨a, n2, s, q + 1 + 1, fun k hk => ?_, ⟨by omega, by omega⟩, by omega⟩
      unfold spec_l1Bent.f
      rw [h k hk]; simp only [Option.bind_some]
      rw [hr k (by omega)]; simp only [Option.bind_some]
      rw [if_neg c0, if_pos c1, hn2 k (by omega)]; rfl
    · by_cases c2 : r = 2
      · refine ⟨a, b, s1, q + 1 + 1, fun k hk => ?_, ⟨by omega, by omega⟩, hz1⟩
        unfold spec_l1Bent.f
        rw [h k hk]; simp only [Option.bind_some]
        rw [hr k (by omega)]; simp only [Option.bind_some]
        rw [if_neg c0, if_neg c1, if_pos c2, hs1 k (by omega)]; rfl
      · refine ⟨a, b, s, q + 1, fun k hk => ?_, ⟨by omega, by omega⟩, by omega⟩
        unfold spec_l1Bent.f
        rw [h k hk]; simp only [Option.bind_some]
        rw [hr k (by omega)]; simp only [Option.bind_some]
        rw [if_neg c0, if_neg c1, if_neg c2]
end Go.Proofs.Ytpckkkcaffhhnaa.L

/- What the drawing functions of units draw: some unit, small. -/
namespace Go.Proofs.Ytpckkkcaffhhnaa.L
open Go.RowKit Go.Proofs.YtpckkkcaffhhnaaW.PrintWords Go.Proofs.YtpckkkcaffhhnaaW.PrintLast Go.Proofs.YtpckkkcaffhhnaaW.PrintMore Go.Proofs.Ytpckkkcaffhhnaa.P
set_option linter.unusedVariables false
set_option linter.unusedSimpArgs false
/-- A function with a small name, at most n instructions, all with small names. -/
def SmallF (n : Nat) (x : S30) : Prop := x.f0.size ≤ 7 ∧ x.f2.length ≤ n ∧ ∀ y ∈ x.f2, y.f2.size ≤ 7
def SmallU (u : List S30) : Prop := 1 ≤ u.length ∧ u.length ≤ 4 ∧ ∀ x ∈ u, SmallF 6 x
theorem SmallF.fit {n : Nat} {x : S30} (h : SmallF n x) (hn : n ≤ 1000) : FitF x := ⟨by have := h.1; omega, by have := h.2.1; omega, fun y hy => by have := h.2.2 y hy; omega⟩
theorem SmallU.fit {u : List S30} (h : SmallU u) : ∀ x ∈ u, FitF x := fun x hx => (h.2.2 x hx).fit (by omega)
theorem names6_size {s : ByteArray} (h : s ∈ names6) : s.size ≤ 7 := by
  simp only [names6, List.mem_cons, List.not_mem_nil, or_false] at h
  rcases h with rfl | rfl | rfl | rfl | rfl | rfl <;> decide
theorem l2Fun_end (l : List Int) (hl : Bytes l) (a : ByteArray) (w : Bool) (p : Int) (body : List S38) (hp : 0 ≤ p) (hp' : p < 800000000000) (hb : body.length ≤ 4) (hs : ∀ y ∈ body, y.f2.size ≤ 7) :
    ∃ (body' : List S38) (q : Int), (∀ k, 2 ≤ k → spec_l2Fun.l0 k 0 l p a w body = some (a, w, body', q)) ∧ On p q 2 ∧ body'.length ≤ 5 ∧ ∀ y ∈ body', y.f2.size ≤ 7 := by
  obtain ⟨r, hr, r0, r1⟩ := spec_l13Rd_pick_f l hl p 6 hp (by omega) (by omega)
  obtain ⟨s, hn, hm⟩ := spec_l1Name_f l hl (p + 1) (by omega) (by omega)
  have hz := names6_size hm
  have app : ∀ i : S38, i.f2.size ≤ 7 → ∀ y ∈ body ++ [i], y.f2.size ≤ 7 := fun i hi y hy => by
    rcases List.mem_append.mp hy with h | h
    · exact hs y h
    · rw [List.mem_singleton.mp h]; exact hi
  by_cases h0 : r = 0
  · refine ⟨body ++ [⟨4, 0, s⟩], p + 1 + 1, fun k hk => ?_, ⟨by omega, by omega⟩, by rw [List.length_append]; simp; omega, app _ hz⟩
    obtain ⟨k, rfl, _⟩ := succ_of (d := 1) hk
    simp only [spec_l2Fun.l0]
    rw [if_neg (by omega), hr k (by omega)]
    simp only [Option.bind_some]
    rw [if_pos h0, hn k (by omega)]
    simp only [Option.bind_some]
    rw [if_pos (by omega)]
  · by_cases h1 : r = 1
    · refine ⟨body ++ [⟨7, 0, ⟨#[]⟩⟩], p + 1, fun k hk => ?_, ⟨by omega, by omega⟩, by rw [List.length_append]; simp; omega, app _ (by decide)⟩
      obtain ⟨k, rfl, _⟩ := succ_of (d := 1) hk
      simp only [spec_l2Fun.l0]
      rw [if_neg (by omega), hr k (by omega)]
      simp only [Option.bind_some]
      rw [if_neg h0, if_pos h1, if_pos (by omega)]
    · refine ⟨body ++ [⟨6, 0, ⟨#[]⟩⟩], p + 1, fun k hk => ?_, ⟨by omega, by omega⟩, by rw [List.length_append]; simp; omega, app _ (by decide)⟩
      obtain ⟨k, rfl, _⟩ := succ_of (d := 1) hk
      simp only [spec_l2Fun.l0]
      rw [if_neg (by omega), hr k (by omega)]
      simp only [Option.bind_some]
      rw [if_neg h0, if_neg h1, if_pos (by omega)]
theorem l2Fun_l0 (l : List Int) (hl : Bytes l) (a : ByteArray) (w : Bool) : ∀ (n : Nat) (p : Int) (body : List S38), 0 ≤ p → p + 4 * n < 700000000000 → body.length + n ≤ 4 → (∀ y ∈ body, y.f2.size ≤ 7) →
    ∃ (body' : List S38) (q : Int), (∀ k, n + 6 ≤ k → spec_l2Fun.l0 k (n : Int) l p a w body = some (a, w, body', q)) ∧ On p q (4 * n + 2) ∧ body'.length ≤ 5 ∧ ∀ y ∈ body', y.f2.size ≤ 7
  | 0, p, body, hp, hp', hb, hs => by
    obtain ⟨b, q, h1, h2, h3, h4⟩ := l2Fun_end l hl a w p body hp (by omega) (by omega) hs
    exact ⟨b, q, fun k hk => h1 k (by omega), ⟨h2.1, by have := h2.2; omega⟩, h3, h4⟩
  | n + 1, p, body, hp, hp', hb, hs => by
    obtain ⟨i, j, s, q, h, hq, hz⟩ := spec_l1Right_f l hl p hp (by omega)
    have q0 := hq.1
    have q1 := hq.2
    have hw : wrap64 (((n + 1 : Nat) : Int) - 1) = (n : Int) := by rw [wrap_id (by omega) (by omega)]; push_cast; omega
    have step : ∀ k, n + 6 ≤ k → spec_l2Fun.l0 (k + 1) ((n + 1 : Nat) : Int) l p a w body = if lastB i = true then spec_l2Fun.l0 k (n : Int) l q a w body else spec_l2Fun.l0 k (n : Int) l q a w (body ++ [⟨i, j, s⟩]) := by
      intro k hk
      simp only [spec_l2Fun.l0]
      rw [if_pos (by push_cast; omega), h k (by omega)]
      simp only [Option.bind_some]
      rw [spec_InsLast_f]
      simp only [Option.bind_some]
      rw [hw, if_pos (show body.length < 4398046511104 by omega)]
    cases hlast : lastB i with
    | true =>
      obtain ⟨b, q', h1, h2, h3, h4⟩ := l2Fun_l0 l hl a w n q body (by omega) (by push_cast at hp'; omega) (by omega) hs
      refine ⟨b, q', fun k hk => ?_, ⟨by have := h2.1; omega, by have := h2.2; push_cast; omega⟩, h3, h4⟩
      obtain ⟨k, rfl, hk'⟩ := succ_of (show n + 6 < k by omega)
      rw [step k hk', hlast, if_pos rfl, h1 k hk']
    | false =>
      obtain ⟨b, q', h1, h2, h3, h4⟩ := l2Fun_l0 l hl a w n q (body ++ [⟨i, j, s⟩]) (by omega) (by push_cast at hp'; omega) (by rw [List.length_append]; simp; omega) (fun y hy => by
        rcases List.mem_append.mp hy with h | h
        · exact hs y h
        · rw [List.mem_singleton.mp h]; show s.size ≤ 7; omega)
      refine ⟨b, q', fun k hk => ?_, ⟨by have := h2.1; omega, by have := h2.2; push_cast; omega⟩, h3, h4⟩
      obtain ⟨k, rfl, hk'⟩ := succ_of (show n + 6 < k by omega)
      rw [step k hk', hlast, if_neg (by decide), h1 k hk']
theorem spec_l2Fun_f (l : List Int) (hl : Bytes l) (p : Int) (hp : 0 ≤ p) (hp' : p < 600000000000) (a : ByteArray) (ha : a.size ≤ 7) :
    ∃ (x : S30) (q : Int), (∀ k, 20 ≤ k → spec_l2Fun.f k l p a = some (x.f0, x.f1, x.f2, q)) ∧ On p q 30 ∧ SmallF 5 x := by
  obtain ⟨r, hr, _, _⟩ := spec_l13Rd_pick_f l hl p 5 hp (by omega) (by omega)
  obtain ⟨n, hn, n0, n1⟩ := spec_l13Rd_pick_f l hl (p + 1) 5 (by omega) (by omega) (by omega)
  obtain ⟨m, rfl⟩ : ∃ m : Nat, n = m := ⟨n.toNat, by omega⟩
  obtain ⟨b, q, h1, h2, h3, h4⟩ := l2Fun_l0 l hl a (r == 0) m (p + 1 + 1) [] (by omega) (by omega) (by simp; omega) (by simp)
  refine ⟨⟨a, (r == 0), b⟩, q, fun k hk => ?_, ⟨by have := h2.1; omega, by have := h2.2; omega⟩, ha, h3, h4⟩
  unfold spec_l2Fun.f
  rw [hr k (by omega)]
  simp only [Option.bind_some]
  rw [hn k (by omega)]
  simp only [Option.bind_some]
  rw [h1 k (by omega)]
theorem l2Unit_l0 (l : List Int) (hl : Bytes l) : ∀ (n : Nat) (p : Int) (u : List S30), 0 ≤ p → p + 40 * n < 500000000000 → u.length + n ≤ 3 → (1 ≤ u.length ∨ 1 ≤ n) → (∀ x ∈ u, SmallF 5 x) →
    ∃ (u' : List S30) (q : Int), (∀ k, n + 30 ≤ k → spec_l2Unit.l0 k u (n : Int) l p = some (u', q)) ∧ On p q (40 * n) ∧ 1 ≤ u'.length ∧ u'.length ≤ 3 ∧ ∀ x ∈ u', SmallF 5 x
  | 0, p, u, hp, hp', hu, h1, hs => by
    refine ⟨u, p, fun k hk => ?_, ⟨by omega, by omega⟩, by omega, by omega, hs⟩
    obtain ⟨k, rfl, _⟩ := succ_of (show 29 < k by omega)
    simp only [spec_l2Unit.l0]
    rw [if_neg (by omega)]
  | n + 1, p, u, hp, hp', hu, h1, hs => by
    obtain ⟨s, hn, hm⟩ := spec_l1Name_f l hl p hp (by omega)
    obtain ⟨x, q, hx, hq, hsm⟩ := spec_l2Fun_f l hl (p + 1) (by omega) (by omega) s (names6_size hm)
    have q0 := hq.1
    have q1 := hq.2
    have hw : wrap64 (((n + 1 : Nat) : Int) - 1) = (n : Int) := by rw [wrap_id (by omega) (by omega)]; push_cast; omega
    have step : ∀ k, n + 30 ≤ k → spec_l2Unit.l0 (k + 1) u ((n + 1 : Nat) : Int) l p = if findI u s < 0 then spec_l2Unit.l0 k (u ++ [x]) (n : Int) l q else spec_l2Unit.l0 k u (n : Int) l (p + 1) := by
      intro k hk
      simp only [spec_l2Unit.l0]
      rw [if_pos (by push_cast; omega), hn k (by omega)]
      simp only [Option.bind_some]
      rw [spec_l2Find_f u (by omega) s k (by omega)]
      simp only [Option.bind_some]
      rw [hw, hx k (by omega)]
      simp only [Option.bind_some]
      rw [if_pos (show u.length < 2932031007402 by omega)]
    by_cases hf : findI u s < 0
    · obtain ⟨u', q', g1, g2, g3, g4, g5⟩ := l2Unit_l0 l hl n q (u ++ [x]) (by omega) (by push_cast at hp'; omega) (by rw [List.length_append]; simp; omega) (.inl (by rw [List.length_append]; simp)) (fun y hy => by
        rcases List.mem_append.mp hy with h | h
        · exact hs y h
        · rw [List.mem_singleton.mp h]; exact hsm)
      refine ⟨u', q', fun k hk => ?_, ⟨by have := g2.1; omega, by have := g2.2; push_cast; omega⟩, g3, g4, g5⟩
      obtain ⟨k, rfl, hk'⟩ := succ_of (show n + 30 < k by omega)
      rw [step k hk', if_pos hf, g1 k hk']
    · have hne : 1 ≤ u.length := by
        cases u with
        | nil => exact absurd (show findI ([] : List S30) s < 0 from by unfold findI; simp [idxFrom]) hf
        | cons _ _ => simp
      obtain ⟨u', q', g1, g2, g3, g4, g5⟩ := l2Unit_l0 l hl n (p + 1) u (by omega) (by push_cast at hp'; omega) (by omega) (.inl hne) hs
      refine ⟨u', q', fun k hk => ?_, ⟨by have := g2.1; omega, by have := g2.2; push_cast; omega⟩, g3, g4, g5⟩
      obtain ⟨k, rfl, hk'⟩ := succ_of (show n + 30 < k by omega)
      rw [step k hk', if_neg hf, g1 k hk']
theorem spec_l2Unit_f (l : List Int) (hl : Bytes l) (p : Int) (hp : 0 ≤ p) (hp' : p < 400000000000) :
    ∃ (u : List S30) (q : Int), (∀ k, 40 ≤ k → spec_l2Unit.f k l p = some (u, q)) ∧ On p q 130 ∧ 1 ≤ u.length ∧ u.length ≤ 3 ∧ ∀ x ∈ u, SmallF 5 x := by
  obtain ⟨n, hn, n0, n1⟩ := spec_l13Rd_pick_f l hl p 3 hp (by omega) (by omega)
  obtain ⟨m, rfl⟩ : ∃ m : Nat, n = m := ⟨n.toNat, by omega⟩
  obtain ⟨u, q, h1, h2, h3, h4, h5⟩ := l2Unit_l0 l hl (m + 1) (p + 1) [] (by omega) (by push_cast; omega) (by simp; omega) (.inr (by omega)) (by simp)
  refine ⟨u, q, fun k hk => ?_, ⟨by have := h2.1; omega, by have := h2.2; push_cast at this; omega⟩, h3, h4, h5⟩
  unfold spec_l2Unit.f
  rw [hn k (by omega)]
  simp only [Option.bind_some]
  rw [show wrap64 (1 + (m : Int)) = ((m + 1 : Nat) : Int) from by rw [wrap_id (by omega) (by omega)]; push_cast; omega, h1 k (by omega)]
theorem SmallF.mono {n m : Nat} {x : S30} (h : SmallF n x) (hm : n ≤ m) : SmallF m x := ⟨h.1, Nat.le_trans h.2.1 hm, h.2.2⟩
theorem set_small {u : List S30} (hs : ∀ x ∈ u, SmallF 5 x) (i : Nat) (y : S30) (hy : SmallF 6 y) : ∀ x ∈ u.set i y, SmallF 6 x := fun x hx => by
  rcases List.mem_or_eq_of_mem_set hx with h | h
  · exact (hs x h).mono (by omega)
  · rw [h]; exact hy
theorem spec_l2Bent_f (l : List Int) (hl : Bytes l) (p : Int) (hp : 0 ≤ p) (hp' : p < 300000000000) :
    ∃ (u : List S30) (q : Int), (∀ k, 50 ≤ k → spec_l2Bent.f k l p = some (u, q)) ∧ On p q 150 ∧ SmallU u := by
  obtain ⟨u, q1, hu, hq1, hn1, hn2, hs⟩ := spec_l2Unit_f l hl p hp (by omega)
  have o0 := hq1.1
  have o1 := hq1.2
  obtain ⟨ix, hix, i0, i1⟩ := spec_l13Rd_pick_f l hl q1 (u.length : Int) (by omega) (by omega) (by omega)
  obtain ⟨c, hc, c0, c1⟩ := spec_l13Rd_pick_f l hl (q1 + 1) 40 (by omega) (by omega) (by omega)
  obtain ⟨s, hS, hm⟩ := spec_l13Rd_of_f l hl (q1 + 1 + 1) (by omega) (by omega) ([(⟨#[]⟩ : ByteArray), (⟨#[65]⟩ : ByteArray), (⟨#[109, 97, 105, 110]⟩ : ByteArray)] : List ByteArray) (by decide)
  have hz : s.size ≤ 7 := by
    simp only [List.mem_cons, List.not_mem_nil, or_false] at hm
    rcases hm with rfl | rfl | rfl <;> decide
  obtain ⟨b0, b1, b2, q2, hb, hq2, hbz⟩ := spec_l1Bent_f l hl (q1 + 1 + 1) (by omega) (by omega)
  have o2 := hq2.1
  have o3 := hq2.2
  have hx : SmallF 5 (rd_T30 u ix) := hs _ (getD_mem (by omega))
  have base : ∀ k, 50 ≤ k → spec_l2Bent.f k l p = if c = 0 then some (u.set ix.toNat ⟨s, (rd_T30 u ix).f1, (rd_T30 u ix).f2⟩, q1 + 1 + 1 + 1) else if c = 1 then some (u.set ix.toNat ⟨(rd_T30 u ix).f0, (rd_T30 u ix).f1, []⟩, q1 + 1 + 1) else if c = 2 then some (u.set ix.toNat ⟨(rd_T30 u ix).f0, (rd_T30 u ix).f1, (rd_T30 u ix).f2 ++ [⟨b0, b1, b2⟩]⟩, q2) else if c = 3 then some (u ++ [rd_T30 u ix], q1 + 1 + 1) else some (u, q1 + 1 + 1) := by
    intro k hk
    unfold spec_l2Bent.f
    rw [hu k (by omega)]
    simp only [Option.bind_some]
    rw [hix k (by omega)]
    simp only [Option.bind_some]
    rw [hc k (by omega)]
    simp only [Option.bind_some]
    rw [if_pos ⟨i0, i1, by omega, by have := hx.2.1; omega⟩, hS k (by omega), hb k (by omega)]
    simp only [Option.bind_some]
  by_cases e0 : c = 0
  · refine ⟨u.set ix.toNat ⟨s, (rd_T30 u ix).f1, (rd_T30 u ix).f2⟩, q1 + 1 + 1 + 1, fun k hk => by rw [base k hk, if_pos e0], ⟨by omega, by omega⟩, by rw [List.length_set]; omega, by rw [List.length_set]; omega, set_small hs _ _ ⟨hz, Nat.le_trans hx.2.1 (by omega), hx.2.2⟩⟩
  by_cases e1 : c = 1
  · refine ⟨u.set ix.toNat ⟨(rd_T30 u ix).f0, (rd_T30 u ix).f1, []⟩, q1 + 1 + 1, fun k hk => by rw [base k hk, if_neg e0, if_pos e1], ⟨by omega, by omega⟩, by rw [List.length_set]; omega, by rw [List.length_set]; omega, set_small hs _ _ ⟨hx.1, Nat.zero_le _, fun y hy => absurd hy (by simp)⟩⟩
  by_cases e2 : c = 2
  · refine ⟨u.set ix.toNat ⟨(rd_T30 u ix).f0, (rd_T30 u ix).f1, (rd_T30 u ix).f2 ++ [⟨b0, b1, b2⟩]⟩, q2, fun k hk => by rw [base k hk, if_neg e0, if_neg e1, if_pos e2], ⟨by omega, by omega⟩, by rw [List.length_set]; omega, by rw [List.length_set]; omega, set_small hs _ _ ⟨hx.1, by have := hx.2.1; rw [List.length_append]; simp; omega, fun y hy => ?_⟩⟩
    rcases List.mem_append.mp hy with h | h
    · exact hx.2.2 y h
    · rw [List.mem_singleton.mp h]; exact hbz
  by_cases e3 : c = 3
  · refine ⟨u ++ [rd_T30 u ix], q1 + 1 + 1, fun k hk => by rw [base k hk, if_neg e0, if_neg e1, if_neg e2, if_pos e3], ⟨by omega, by omega⟩, by rw [List.length_append]; simp, by rw [List.length_append]; simp; omega, fun x hx2 => ?_⟩
    rcases List.mem_append.mp hx2 with h | h
    · exact (hs x h).mono (by omega)
    · rw [List.mem_singleton.mp h]; exact hx.mono (by omega)
  · exact ⟨u, q1 + 1 + 1, fun k hk => by rw [base k hk, if_neg e0, if_neg e1, if_neg e2, if_neg e3], ⟨by omega, by omega⟩, by omega, by omega, fun x hx2 => (hs x hx2).mono (by omega)⟩
end Go.Proofs.Ytpckkkcaffhhnaa.L

-- made by printx.py (own driver over the kit's print); Lean checks it
namespace Go.Proofs.Ytpckkkcaffhhnaa.P
open Go.RowKit Go.Proofs.YtpckkkcaffhhnaaW.PrintWords Go.Proofs.YtpckkkcaffhhnaaW.PrintLast Go.Proofs.YtpckkkcaffhhnaaW.PrintMore
attribute [local go_sem] max2_int min2_int max_two min_two max_three min_three max_four min_four   -- for this text's walks alone
set_option linter.unusedVariables false
set_option linter.unusedSimpArgs false

/-! ### impl_FunRefs: function 20 -/
def impl_FunRefs.f (k : Nat) (a0_0 : ByteArray) (a0_1 : Bool) (l0_2 : List (S38)) : Option (List ByteArray) := (impl_FunOk.f a0_0 a0_1 l0_2).bind fun t297 => (if t297 = true then ((impl_Fun_refs.f k a0_0 a0_1 l0_2).bind fun t298 => (some t298)) else (some ([] : List ByteArray)))
end Go.Proofs.Ytpckkkcaffhhnaa.P

-- made by printx.py (own driver over the kit's print); Lean checks it
namespace Go.Proofs.Ytpckkkcaffhhnaa.P
open Go.RowKit Go.Proofs.YtpckkkcaffhhnaaW.PrintWords Go.Proofs.YtpckkkcaffhhnaaW.PrintLast Go.Proofs.YtpckkkcaffhhnaaW.PrintMore
attribute [local go_sem] max2_int min2_int max_two min_two max_three min_three max_four min_four   -- for this text's walks alone
set_option linter.unusedVariables false
set_option linter.unusedSimpArgs false

/-! ### spec_FunRefs: function 21 -/
def spec_FunRefs.f (k : Nat) (a0_0 : ByteArray) (a0_1 : Bool) (l0_2 : List (S38)) : Option (List ByteArray) := (spec_FunOk.f k a0_0 a0_1 l0_2).bind fun t315 => (if t315 = true then ((spec_l2Refs.f k l0_2).bind fun t316 => (some t316)) else (some (([] : List ByteArray))))
end Go.Proofs.Ytpckkkcaffhhnaa.P

/- Loops over a list with a state, told once. -/
namespace Go.Proofs.Ytpckkkcaffhhnaa.L
open Go.RowKit Go.Proofs.YtpckkkcaffhhnaaW.PrintWords Go.Proofs.YtpckkkcaffhhnaaW.PrintLast Go.Proofs.YtpckkkcaffhhnaaW.PrintMore Go.Proofs.Ytpckkkcaffhhnaa.P
set_option linter.unusedVariables false
set_option linter.unusedSimpArgs false
/-- A walk over a list with a state, that may end early. -/
def runS {α σ β : Type} (f : Nat → α → σ → σ ⊕ β) (E : σ → β) : List α → Nat → σ → β
  | [], _, s => E s
  | x :: l, i, s => match f i x s with
    | .inl s' => runS f E l (i + 1) s'
    | .inr r => r
theorem loop_run {α σ β : Type} (f : Nat → α → σ → σ ⊕ β) (E : Nat → σ → β) (I : Nat → σ → Prop) (d : α) (l : List α) (hn : l.length ≤ 9223372036854775806) (L : Nat → σ → Int → β) (K : Nat)
    (hS : ∀ (k i : Nat) (s : σ), K ≤ k → i < l.length → I i s → L (k + 1) s (i : Int) = match f i (l.getD i d) s with | .inl s' => L k s' (wrap64 ((i : Int) + 1)) | .inr r => r)
    (hI : ∀ (i : Nat) (s s' : σ), i < l.length → I i s → f i (l.getD i d) s = .inl s' → I (i + 1) s')
    (hE : ∀ (k : Nat) (s : σ), K ≤ k → I l.length s → L (k + 1) s (l.length : Int) = E k s) (k : Nat) (hk : K + l.length < k) (s : σ) (h0 : I 0 s) : L k s 0 = runS f (E (k - l.length - 1)) l 0 s := by
  have key : ∀ (n k i : Nat) (s : σ), i + n = l.length → K + n < k → I i s → L k s (i : Int) = runS f (E (k - n - 1)) (l.drop i) i s := by
    intro n
    induction n with
    | zero =>
      intro k i s hi hk hs
      obtain ⟨k, rfl, _⟩ := succ_of hk
      have : i = l.length := by omega
      subst this
      rw [hE k s (by omega) hs, List.drop_length]
      rfl
    | succ n ih =>
      intro k i s hi hk hs
      obtain ⟨k, rfl, _⟩ := succ_of hk
      rw [hS k i s (by omega) (by omega) hs, drop_getD l d i (by omega)]
      simp only [runS]
      cases hf : f i (l.getD i d) s with
      | inr r => rfl
      | inl s' =>
        simp only
        rw [wrap_id (by omega) (by omega)]
        have h2 := ih k (i + 1) s' (by omega) (by omega) (hI i s s' (by omega) hs hf)
        rw [show k + 1 - (n + 1) - 1 = k - n - 1 by omega, ← h2]
        rfl
  have h := key l.length k 0 s (by omega) hk h0
  simpa using h
end Go.Proofs.Ytpckkkcaffhhnaa.L

/- The names in a function; marks in texts. -/
namespace Go.Proofs.Ytpckkkcaffhhnaa.L
open Go.RowKit Go.Proofs.YtpckkkcaffhhnaaW.PrintWords Go.Proofs.YtpckkkcaffhhnaaW.PrintLast Go.Proofs.YtpckkkcaffhhnaaW.PrintMore Go.Proofs.Ytpckkkcaffhhnaa.P
set_option linter.unusedVariables false
set_option linter.unusedSimpArgs false
def hasB (l : List ByteArray) (a : ByteArray) : Bool := l.any fun x => x.toList == a.toList
def refsAdd (x : S38) (s : List ByteArray) : List ByteArray := if refersB x.f0 && !hasB s x.f2 then s ++ [x.f2] else s
def refsV (l : List S38) : List ByteArray := l.foldl (fun s x => refsAdd x s) []
theorem spec_l2Has_f (l : List ByteArray) (hn : l.length ≤ 9223372036854775806) (a : ByteArray) (k : Nat) (hk : l.length < k) : spec_l2Has.f k l a = some (hasB l a) := by
  have e : ∀ (l' : List ByteArray) (i : Nat), runS (fun _ x (_ : Unit) => if x.toList = a.toList then (.inr (some true) : Unit ⊕ Option Bool) else .inl ()) (fun _ => some false) l' i () = some (hasB l' a) := by
    intro l'
    induction l' with
    | nil => intro i; rfl
    | cons x l' ih =>
      intro i
      simp only [runS, hasB, List.any_cons]
      by_cases h : x.toList = a.toList
      · rw [if_pos h, beq_iff_eq.mpr h]; rfl
      · rw [if_neg h, beq_eq_false_iff_ne.mpr h]
        exact ih (i + 1)
  unfold spec_l2Has.f
  refine (loop_run (fun _ x (_ : Unit) => if x.toList = a.toList then (.inr (some true) : Unit ⊕ Option Bool) else .inl ()) (fun _ _ => some false) (fun _ _ => True) ByteArray.empty l hn (fun k _ i => spec_l2Has.l0 k l a i) 0 ?_ (fun _ _ _ _ _ _ => trivial) ?_ k (by omega) () trivial).trans (e l 0)
  · intro k i s _ hi _
    simp only [spec_l2Has.l0]
    rw [if_pos (by omega), if_pos (by omega)]
    show (if (l.getD i ByteArray.empty).toList = a.toList then _ else _) = _
    split <;> rfl
  · intro k s _ _
    simp only [spec_l2Has.l0]
    rw [if_neg (by omega)]
def funRefsV (x : S30) : List ByteArray := if funOkB x.f0 x.f2 = true then refsV x.f2 else []
end Go.Proofs.Ytpckkkcaffhhnaa.L

/- What the drawing functions of several units draw: some units, small. -/
namespace Go.Proofs.Ytpckkkcaffhhnaa.L
open Go.RowKit Go.Proofs.YtpckkkcaffhhnaaW.PrintWords Go.Proofs.YtpckkkcaffhhnaaW.PrintLast Go.Proofs.YtpckkkcaffhhnaaW.PrintMore Go.Proofs.Ytpckkkcaffhhnaa.P
set_option linter.unusedVariables false
set_option linter.unusedSimpArgs false
def SmallV (u : List S30) : Prop := u.length ≤ 4 ∧ ∀ x ∈ u, SmallF 6 x
def Small3 (u : List S30) : Prop := u.length ≤ 3 ∧ ∀ x ∈ u, SmallF 5 x
theorem Small3.v {u : List S30} (h : Small3 u) : SmallV u := ⟨by have := h.1; omega, fun x hx => (h.2 x hx).mono (by omega)⟩
theorem all_snoc {α : Type} {P : α → Prop} {l : List α} {a : α} (h : ∀ x ∈ l, P x) (ha : P a) : ∀ x ∈ l ++ [a], P x := fun x hx => by
  rcases List.mem_append.mp hx with h1 | h1
  · exact h x h1
  · rw [List.mem_singleton.mp h1]; exact ha
theorem l3Units_l0 (l : List Int) (hl : Bytes l) : ∀ (n : Nat) (p : Int) (us : List (List S30)), 0 ≤ p → p + 200 * n < 300000000000 → us.length + n ≤ 8 → (∀ u ∈ us, Small3 u) →
    ∃ (us' : List (List S30)) (q : Int), (∀ k, n + 50 ≤ k → spec_l3Units.l0 k us (n : Int) l p = some (us', q)) ∧ On p q (200 * n) ∧ us'.length = us.length + n ∧ ∀ u ∈ us', Small3 u
  | 0, p, us, hp, hp', hu, hs => by
    refine ⟨us, p, fun k hk => ?_, ⟨by omega, by omega⟩, by omega, hs⟩
    obtain ⟨k, rfl, _⟩ := succ_of (show 1 < k by omega)
    simp only [spec_l3Units.l0]
    rw [if_neg (by omega)]
  | n + 1, p, us, hp, hp', hu, hs => by
    obtain ⟨u, q, h, hq, h1, h2, h3⟩ := spec_l2Unit_f l hl p hp (by omega)
    have q0 := hq.1
    have q1 := hq.2
    have hw : wrap64 (((n + 1 : Nat) : Int) - 1) = (n : Int) := by rw [wrap_id (by omega) (by omega)]; push_cast; omega
    obtain ⟨us', q', g1, g2, g3, g4⟩ := l3Units_l0 l hl n q (us ++ [u]) (by omega) (by push_cast at hp'; omega) (by rw [List.length_append]; simp; omega) (all_snoc hs ⟨h2, h3⟩)
    refine ⟨us', q', fun k hk => ?_, ⟨by have := g2.1; omega, by have := g2.2; push_cast; omega⟩, by rw [g3, List.length_append]; simp; omega, g4⟩
    obtain ⟨k, rfl, hk'⟩ := succ_of (show n + 50 < k by omega)
    simp only [spec_l3Units.l0]
    rw [if_pos (by push_cast; omega), h k (by omega)]
    simp only [Option.bind_some]
    rw [if_pos (show us.length < 5864062014805 by omega), hw, g1 k hk']
theorem spec_l3Units_f (l : List Int) (hl : Bytes l) (p : Int) (hp : 0 ≤ p) (hp' : p < 200000000000) (a : Nat) (ha : a ≤ 6) :
    ∃ (us : List (List S30)) (q : Int), (∀ k, 70 ≤ k → spec_l3Units.f k l p (a : Int) = some (us, q)) ∧ On p q 2000 ∧ us.length ≤ a ∧ ∀ u ∈ us, Small3 u := by
  obtain ⟨n, hn, n0, n1⟩ := spec_l13Rd_pick_f l hl p ((a : Int) + 1) hp (by omega) (by omega)
  obtain ⟨m, rfl⟩ : ∃ m : Nat, n = m := ⟨n.toNat, by omega⟩
  obtain ⟨us, q, h1, h2, h3, h4⟩ := l3Units_l0 l hl m (p + 1) [] (by omega) (by omega) (by simp; omega) (by simp)
  refine ⟨us, q, fun k hk => ?_, ⟨by have := h2.1; omega, by have := h2.2; omega⟩, by rw [h3]; simp; omega, h4⟩
  unfold spec_l3Units.f
  rw [show wrap64 ((a : Int) + 1) = (a : Int) + 1 from wrap_id (by omega) (by omega), hn k (by omega)]
  simp only [Option.bind_some]
  rw [h1 k (by omega)]
theorem l3Thin_l1 (us : List (List S30)) (hus : ∀ u ∈ us, Small3 u) (i : Nat) (hi : i < us.length) (out : List (List S30)) (hout : out.length ≤ 8) : ∀ (m j : Nat) (acc : List S30) (names : List ByteArray), j + m = (us.getD i []).length → acc.length ≤ j → (∀ x ∈ acc, SmallF 5 x) → names.length + m ≤ 500 →
    ∃ (acc' : List S30) (names' : List ByteArray), (∀ k, 600 + m ≤ k → spec_l3Thin.l1 k us out names (i : Int) acc (j : Int) = spec_l3Thin.l0 (k - m - 1) us (out ++ [acc']) names' (wrap64 ((i : Int) + 1))) ∧ Small3 acc' ∧ names'.length ≤ names.length + m
  | 0, j, acc, names, hj, ha, hs, hn => by
    have hu := hus _ (getD_mem (d := []) hi)
    refine ⟨acc, names, fun k hk => ?_, ⟨by have := hu.1; omega, hs⟩, by omega⟩
    obtain ⟨k, rfl, _⟩ := succ_of (show 1 < k by omega)
    simp only [spec_l3Thin.l1]
    rw [show rd_L13 us (i : Int) = us.getD i [] from rfl, if_pos (by omega), if_pos (by omega), if_neg (by omega), if_pos (show out.length < 5864062014805 by omega)]
    rfl
  | m + 1, j, acc, names, hj, ha, hs, hn => by
    have hu := hus _ (getD_mem (d := []) hi)
    have hx : SmallF 5 ((us.getD i []).getD j z30) := hu.2 _ (getD_mem (by omega))
    have hw : wrap64 ((j : Int) + 1) = ((j + 1 : Nat) : Int) := by have := hu.1; rw [wrap_id (by omega) (by omega)]; push_cast; rfl
    have step : ∀ k, 600 ≤ k → spec_l3Thin.l1 (k + 1) us out names (i : Int) acc (j : Int) = if ((us.getD i []).getD j z30).f1 = true ∨ hasB names ((us.getD i []).getD j z30).f0 = false then spec_l3Thin.l1 k us out (names ++ [((us.getD i []).getD j z30).f0]) (i : Int) (acc ++ [(us.getD i []).getD j z30]) ((j + 1 : Nat) : Int) else spec_l3Thin.l1 k us out names (i : Int) acc ((j + 1 : Nat) : Int) := by
      intro k hk
      simp only [spec_l3Thin.l1]
      rw [show rd_L13 us (i : Int) = us.getD i [] from rfl, show rd_T30 (us.getD i []) (j : Int) = (us.getD i []).getD j z30 from rfl]
      rw [if_pos (by omega), if_pos (by omega), if_pos (by omega), if_pos (by omega), if_pos (show acc.length < 2932031007402 by have := hu.1; omega), if_pos (show names.length < 8796093022208 by omega), spec_l2Has_f names (by omega) _ k (by omega), hw]
      simp only [Option.bind_some]
      cases h1 : ((us.getD i []).getD j z30).f1 with
      | true => rw [if_pos rfl, if_pos (.inl rfl), ← h1]
      | false =>
        rw [if_neg (by decide)]
        cases h2 : hasB names ((us.getD i []).getD j z30).f0 with
        | true => rw [if_pos rfl, if_neg (by simp)]
        | false => rw [if_neg (by decide), if_pos (.inr rfl), ← h1]
    by_cases hc : ((us.getD i []).getD j z30).f1 = true ∨ hasB names ((us.getD i []).getD j z30).f0 = false
    · obtain ⟨acc', names', g1, g2, g3⟩ := l3Thin_l1 us hus i hi out hout m (j + 1) (acc ++ [(us.getD i []).getD j z30]) (names ++ [((us.getD i []).getD j z30).f0]) (by omega) (by rw [List.length_append]; simp; omega) (all_snoc hs hx) (by rw [List.length_append]; simp; omega)
      refine ⟨acc', names', fun k hk => ?_, g2, by rw [List.length_append] at g3; simp at g3; omega⟩
      obtain ⟨k, rfl, hk'⟩ := succ_of (show 600 + m < k by omega)
      rw [step k (by omega), if_pos hc, g1 k hk', show k + 1 - (m + 1) - 1 = k - m - 1 by omega]
    · obtain ⟨acc', names', g1, g2, g3⟩ := l3Thin_l1 us hus i hi out hout m (j + 1) acc names (by omega) (by omega) hs (by omega)
      refine ⟨acc', names', fun k hk => ?_, g2, by omega⟩
      obtain ⟨k, rfl, hk'⟩ := succ_of (show 600 + m < k by omega)
      rw [step k (by omega), if_neg hc, g1 k hk', show k + 1 - (m + 1) - 1 = k - m - 1 by omega]
theorem l3Thin_l0 (us : List (List S30)) (hus : ∀ u ∈ us, Small3 u) (hl : us.length ≤ 8) : ∀ (m i : Nat) (out : List (List S30)) (names : List ByteArray), i + m = us.length → out.length = i → (∀ u ∈ out, Small3 u) → names.length + 3 * m ≤ 400 →
    ∃ us' : List (List S30), (∀ k, 700 + 10 * m ≤ k → spec_l3Thin.l0 k us out names (i : Int) = some us') ∧ us'.length = us.length ∧ ∀ u ∈ us', Small3 u
  | 0, i, out, names, hi, ho, hs, hn => by
    refine ⟨out, fun k hk => ?_, by omega, hs⟩
    obtain ⟨k, rfl, _⟩ := succ_of (show 1 < k by omega)
    simp only [spec_l3Thin.l0]
    rw [if_neg (by omega)]
  | m + 1, i, out, names, hi, ho, hs, hn => by
    have hu := hus _ (getD_mem (d := []) (show i < us.length by omega))
    have hu1 := hu.1
    obtain ⟨acc, names', g1, g2, g3⟩ := l3Thin_l1 us hus i (by omega) out (by omega) (us.getD i []).length 0 [] names (by omega) (by simp) (by simp) (by omega)
    obtain ⟨us', f1, f2, f3⟩ := l3Thin_l0 us hus hl m (i + 1) (out ++ [acc]) names' (by omega) (by rw [List.length_append]; simp; omega) (all_snoc hs g2) (by omega)
    refine ⟨us', fun k hk => ?_, f2, f3⟩
    obtain ⟨k, rfl, hk'⟩ := succ_of (show 700 + 10 * m + 9 < k by omega)
    simp only [spec_l3Thin.l0]
    rw [if_pos (by omega)]
    have e := g1 k (by omega)
    rw [show ((0 : Nat) : Int) = 0 from rfl] at e
    rw [e, show wrap64 ((i : Int) + 1) = ((i + 1 : Nat) : Int) from by rw [wrap_id (by omega) (by omega)]; push_cast; rfl]
    exact f1 _ (by omega)
theorem spec_l3Thin_f (us : List (List S30)) (hus : ∀ u ∈ us, Small3 u) (hl : us.length ≤ 8) : ∃ us' : List (List S30), (∀ k, 1000 ≤ k → spec_l3Thin.f k us = some us') ∧ us'.length = us.length ∧ ∀ u ∈ us', Small3 u := by
  obtain ⟨us', h1, h2, h3⟩ := l3Thin_l0 us hus hl us.length 0 [] [] (by omega) rfl (by simp) (by simp; omega)
  exact ⟨us', fun k hk => h1 k (by omega), h2, h3⟩
theorem l3Bent_l0 (l : List Int) (p : Int) : ∀ (m : Nat) (us : List (List S30)), us.length + m = 9 → (∀ u ∈ us, SmallV u) → ∃ us' : List (List S30), (∀ k, m + 2 ≤ k → spec_l3Bent.l0 k us l p = some (us', p)) ∧ us'.length ≤ 9 ∧ ∀ u ∈ us', SmallV u
  | 0, us, h, hs => by
    refine ⟨us, fun k hk => ?_, by omega, hs⟩
    obtain ⟨k, rfl, _⟩ := succ_of (show 1 < k by omega)
    simp only [spec_l3Bent.l0]
    rw [if_neg (by omega)]
  | m + 1, us, h, hs => by
    obtain ⟨us', g1, g2, g3⟩ := l3Bent_l0 l p m (us ++ [[]]) (by rw [List.length_append]; simp; omega) (all_snoc hs ⟨by simp, by simp⟩)
    refine ⟨us', fun k hk => ?_, g2, g3⟩
    obtain ⟨k, rfl, hk'⟩ := succ_of (show m + 2 < k by omega)
    simp only [spec_l3Bent.l0]
    rw [if_pos (by omega), if_pos (by omega), g1 k hk']
theorem l3Bent_j0 (l : List Int) (hl : Bytes l) (us : List (List S30)) (hn : us.length ≤ 8) (hs : ∀ u ∈ us, SmallV u) (p : Int) (hp : 0 ≤ p) (hp' : p < 200000000000) :
    ∃ (us' : List (List S30)) (q : Int), (∀ k, 100 ≤ k → spec_l3Bent.j0 k us l p = some (us', q)) ∧ On p q 300 ∧ us'.length ≤ 9 ∧ ∀ u ∈ us', SmallV u := by
  obtain ⟨c, hc, c0, c1⟩ := spec_l13Rd_pick_f l hl p 30 hp (by omega) (by omega)
  obtain ⟨u, q, hu, hq, hsu⟩ := spec_l2Bent_f l hl (p + 1) (by omega) (by omega)
  have q0 := hq.1
  have q1 := hq.2
  obtain ⟨us', g1, g2, g3⟩ := l3Bent_l0 l (p + 1) (9 - us.length) us (by omega) hs
  by_cases e0 : c = 0
  · refine ⟨us ++ [u], q, fun k hk => ?_, ⟨by omega, by omega⟩, by rw [List.length_append]; simp; omega, all_snoc hs ⟨hsu.2.1, hsu.2.2⟩⟩
    obtain ⟨k, rfl, _⟩ := succ_of (show 90 < k by omega)
    simp only [spec_l3Bent.j0]
    rw [hc k (by omega)]
    simp only [Option.bind_some]
    rw [if_pos e0, hu k (by omega)]
    simp only [Option.bind_some]
    rw [if_pos (show us.length < 5864062014805 by omega)]
  · by_cases e1 : c = 1
    · refine ⟨us', p + 1, fun k hk => ?_, ⟨by omega, by omega⟩, g2, g3⟩
      obtain ⟨k, rfl, _⟩ := succ_of (show 90 < k by omega)
      simp only [spec_l3Bent.j0]
      rw [hc k (by omega)]
      simp only [Option.bind_some]
      rw [if_neg e0, if_pos e1, g1 k (by omega)]
    · refine ⟨us, p + 1, fun k hk => ?_, ⟨by omega, by omega⟩, by omega, hs⟩
      obtain ⟨k, rfl, _⟩ := succ_of (show 90 < k by omega)
      simp only [spec_l3Bent.j0]
      rw [hc k (by omega)]
      simp only [Option.bind_some]
      rw [if_neg e0, if_neg e1]
theorem spec_l3Bent_f (l : List Int) (hl : Bytes l) (p : Int) (hp : 0 ≤ p) (hp' : p < 100000000000) (a : Nat) (ha : a ≤ 6) :
    ∃ (us : List (List S30)) (q : Int), (∀ k, 2000 ≤ k → spec_l3Bent.f k l p (a : Int) = some (us, q)) ∧ On p q 3000 ∧ us.length ≤ 9 ∧ ∀ u ∈ us, SmallV u := by
  obtain ⟨us, q, h, hq, hn, hs⟩ := spec_l3Units_f l hl p hp (by omega) a ha
  have q0 := hq.1
  have q1 := hq.2
  obtain ⟨c, hc, c0, c1⟩ := spec_l13Rd_pick_f l hl q 3 (by omega) (by omega) (by omega)
  obtain ⟨ut, ht, htn, hts⟩ := spec_l3Thin_f us hs (by omega)
  obtain ⟨r1, p1, g1, g2, g3, g4⟩ := l3Bent_j0 l hl ut (by omega) (fun u hu => (hts u hu).v) (q + 1) (by omega) (by omega)
  obtain ⟨r2, p2, f1, f2, f3, f4⟩ := l3Bent_j0 l hl us (by omega) (fun u hu => (hs u hu).v) (q + 1) (by omega) (by omega)
  by_cases e : c > 0
  · refine ⟨r1, p1, fun k hk => ?_, ⟨by have := g2.1; omega, by have := g2.2; omega⟩, g3, g4⟩
    unfold spec_l3Bent.f
    rw [h k (by omega)]
    simp only [Option.bind_some]
    rw [hc k (by omega)]
    simp only [Option.bind_some]
    rw [if_pos e, ht k (by omega)]
    simp only [Option.bind_some]
    rw [g1 k (by omega)]
  · refine ⟨r2, p2, fun k hk => ?_, ⟨by have := f2.1; omega, by have := f2.2; omega⟩, f3, f4⟩
    unfold spec_l3Bent.f
    rw [h k (by omega)]
    simp only [Option.bind_some]
    rw [hc k (by omega)]
    simp only [Option.bind_some]
    rw [if_neg e, f1 k (by omega)]
end Go.Proofs.Ytpckkkcaffhhnaa.L

/- What is taken for a name. -/
namespace Go.Proofs.Ytpckkkcaffhhnaa.L
open Go.RowKit Go.Proofs.YtpckkkcaffhhnaaW.PrintWords Go.Proofs.YtpckkkcaffhhnaaW.PrintLast Go.Proofs.YtpckkkcaffhhnaaW.PrintMore Go.Proofs.Ytpckkkcaffhhnaa.P
set_option linter.unusedVariables false
set_option linter.unusedSimpArgs false
abbrev UnitV := List S30
def weakAt (u : UnitV) (a : ByteArray) : Bool := (u.getD (findI u a).toNat z30).f1
theorem findI_lo (u : UnitV) (a : ByteArray) : -1 ≤ findI u a ∧ findI u a < u.length := by
  have := idxFrom_lo (named a) u 0 (by omega)
  unfold findI
  omega
/-- The first unit that has a function of that name, weak or not. -/
def hitS (b : Bool) (a : ByteArray) : List UnitV → Nat → Option (Nat × Int)
  | [], _ => none
  | u :: l, i => if 0 ≤ findI u a ∧ weakAt u a = b then some (i, findI u a) else hitS b a l (i + 1)
def pickV (l : List UnitV) (a : ByteArray) : Int × Int × Bool :=
  match hitS false a l 0 with
  | some p => ((p.1 : Int), p.2, true)
  | none => match hitS true a l 0 with
    | some p => ((p.1 : Int), p.2, true)
    | none => (0, 0, false)
theorem impl_pick_l1 (b : Bool) (l : List UnitV) (hn : l.length ≤ 9223372036854775806) (hl : ∀ u ∈ l, u.length ≤ 9223372036854775806) (a : ByteArray) (y : List Bool) (c j : Int) (k : Nat) (hk : l.length < k) : impl_pick.l1 k l a b y c j l (l.length : Int) 0
    = match hitS b a l 0 with | some p => some ((p.1 : Int), p.2, true) | none => impl_pick.l0 (k - l.length - 1) l a y c (wrap64 (j + 1)) := by
  have h := loop_run (fun i u (_ : Unit) => if 0 ≤ findI u a ∧ weakAt u a = b then .inr (some ((i : Int), findI u a, true)) else .inl ()) (fun k (_ : Unit) => impl_pick.l0 k l a y c (wrap64 (j + 1))) (fun _ _ => True) [] l hn (fun k _ i => impl_pick.l1 k l a b y c j l (l.length : Int) i) 0 ?_ ?_ ?_ k (by omega) () trivial
  · refine h.trans ?_
    have key : ∀ (l' : List UnitV) (i : Nat), runS (fun i u (_ : Unit) => if 0 ≤ findI u a ∧ weakAt u a = b then .inr (some ((i : Int), findI u a, true)) else .inl ()) (fun (_ : Unit) => impl_pick.l0 (k - l.length - 1) l a y c (wrap64 (j + 1))) l' i () = match hitS b a l' i with | some p => some ((p.1 : Int), p.2, true) | none => impl_pick.l0 (k - l.length - 1) l a y c (wrap64 (j + 1)) := by
      intro l'
      induction l' with
      | nil => intro i; rfl
      | cons u l' ih =>
        intro i
        simp only [runS, hitS]
        by_cases hc : 0 ≤ findI u a ∧ weakAt u a = b
        · rw [if_pos hc, if_pos hc]
        · rw [if_neg hc, if_neg hc]
          exact ih (i + 1)
    exact key l 0
  · intro k i s _ hi _
    have hb := findI_lo (l.getD i []) a
    simp only [impl_pick.l1, impl_find.f]
    rw [if_pos (by omega), if_pos (by omega), if_pos (by omega)]
    simp only [Option.bind_some]
    show (if findI (l.getD i []) a ≥ 0 then (if 0 ≤ findI (l.getD i []) a then (if findI (l.getD i []) a < ((l.getD i []).length : Int) then (if (weakAt (l.getD i []) a == b) = true then _ else _) else none) else none) else _) = _
    by_cases h0 : 0 ≤ findI (l.getD i []) a
    · rw [if_pos h0, if_pos h0, if_pos (by omega)]
      by_cases hw : weakAt (l.getD i []) a = b
      · rw [if_pos (beq_iff_eq.mpr hw), if_pos ⟨h0, hw⟩]
        rfl
      · rw [if_neg (by rw [beq_eq_false_iff_ne.mpr hw]; decide), if_neg (fun h => hw h.2)]
    · rw [if_neg h0, if_neg (fun h => h0 h.1)]
  · intro _ _ _ _ _ _; trivial
  · intro k s _ _
    simp only [impl_pick.l1]
    rw [if_neg (by omega)]
theorem impl_pick_f (l : List UnitV) (hn : l.length ≤ 9223372036854775806) (hl : ∀ u ∈ l, u.length ≤ 9223372036854775806) (a : ByteArray) (k : Nat) (hk : 2 * l.length + 10 < k) : impl_pick.f k l a = some (pickV l a) := by
  obtain ⟨k, rfl, _⟩ := succ_of hk
  unfold impl_pick.f pickV
  simp only [Option.bind_some, impl_pick.l0, List.length_cons, List.length_nil]
  rw [if_pos (by decide), if_pos (by decide), if_pos (by decide)]
  rw [show rdOf false [false, true] (0 : Int) = false from rfl, impl_pick_l1 false l hn hl a _ _ _ k (by omega)]
  cases hitS false a l 0 with
  | some p => rfl
  | none =>
    obtain ⟨m, hm⟩ : ∃ m, k - l.length - 1 = m + 1 := ⟨k - l.length - 2, by omega⟩
    simp only [hm]
    simp only [impl_pick.l0]
    rw [show wrap64 ((0 : Int) + 1) = 1 from (by rw [wrap_id (by omega) (by omega)]; rfl), if_pos (by decide), if_pos (by decide), if_pos (by decide), show rdOf false [false, true] (1 : Int) = true from rfl, impl_pick_l1 true l hn hl a _ _ _ m (by omega)]
    cases hitS true a l 0 with
    | some p => rfl
    | none =>
      obtain ⟨q, hq⟩ : ∃ q, m - l.length - 1 = q + 1 := ⟨m - l.length - 2, by omega⟩
      simp only [hq]
      simp only [impl_pick.l0]
      rw [wrap_id (by omega) (by omega), if_neg (by decide)]
theorem spec_l3At_f (l : List UnitV) (hn : l.length ≤ 9223372036854775806) (B : Nat) (hl : ∀ u ∈ l, u.length ≤ B) (hB : B ≤ 9223372036854775806) (a : ByteArray) (k : Nat) (hk : B + 1 + l.length < k) : spec_l3At.f k l a = some (pickV l a) := by
  unfold spec_l3At.f
  let f : Nat → UnitV → Int × Int → (Int × Int) ⊕ (Option (Int × Int × Bool)) := fun i u s =>
    if findI u a < 0 then .inl s else if weakAt u a = true then (if s.1 < 0 then .inl ((i : Int), findI u a) else .inl s) else .inr (some ((i : Int), findI u a, true))
  let E : Int × Int → Option (Int × Int × Bool) := fun s => if s.1 < 0 then some (0, 0, false) else some (s.1, s.2, true)
  have h := loop_run f (fun _ => E) (fun _ _ => True) [] l hn (fun k s i => spec_l3At.l0 k l a s.1 s.2 i) (B + 1) ?_ ?_ ?_ k (by omega) (-1, -1) trivial
  · refine h.trans ?_
    have key : ∀ (l' : List UnitV) (i : Nat) (s : Int × Int), runS f E l' i s = match hitS false a l' i with | some p => some ((p.1 : Int), p.2, true) | none => if s.1 < 0 then (match hitS true a l' i with | some p => some ((p.1 : Int), p.2, true) | none => some (0, 0, false)) else some (s.1, s.2, true) := by
      intro l'
      induction l' with
      | nil => intro i s; rfl
      | cons u l' ih =>
        intro i s
        simp only [runS, hitS, f]
        by_cases h0 : findI u a < 0
        · rw [if_pos h0, if_neg (show ¬ (0 ≤ findI u a ∧ weakAt u a = false) from fun h => by omega), if_neg (show ¬ (0 ≤ findI u a ∧ weakAt u a = true) from fun h => by omega)]
          exact ih (i + 1) s
        · rw [if_neg h0]
          cases hw : weakAt u a with
          | false =>
            rw [if_neg (show ¬ (false = true) by decide), if_pos (show 0 ≤ findI u a ∧ false = false from ⟨by omega, rfl⟩)]
          | true =>
            rw [if_pos (show true = true from rfl), if_neg (show ¬ (0 ≤ findI u a ∧ true = false) from fun h => absurd h.2 (by decide)), if_pos (show 0 ≤ findI u a ∧ true = true from ⟨by omega, rfl⟩)]
            by_cases hs : s.1 < 0
            · rw [if_pos hs, if_pos hs]
              simp only
              rw [ih (i + 1) _, if_neg (by simp only; omega)]
            · rw [if_neg hs, if_neg hs]
              simp only
              rw [ih (i + 1) s, if_neg hs]
    rw [key l 0 (-1, -1), if_pos (by decide)]
    unfold pickV
    cases hitS false a l 0 with
    | some p => rfl
    | none => cases hitS true a l 0 <;> rfl
  · intro k i s hK hi _
    have hb := findI_lo (l.getD i []) a
    have hu := hl _ (getD_mem (d := []) hi)
    simp only [spec_l3At.l0]
    rw [if_pos (by omega), if_pos (by omega), spec_l2Find_f (rd_L13 l (i : Int)) (Nat.le_trans hu (by omega)) a k (Nat.lt_of_le_of_lt hu (by omega))]
    simp only [Option.bind_some]
    show (if findI (l.getD i []) a < 0 then _ else (if 0 ≤ findI (l.getD i []) a then (if findI (l.getD i []) a < ((l.getD i []).length : Int) then (if weakAt (l.getD i []) a = true then _ else _) else none) else none)) = _
    simp only [f]
    by_cases h0 : findI (l.getD i []) a < 0
    · rw [if_pos h0, if_pos h0]
    · rw [if_neg h0, if_neg h0, if_pos (by omega), if_pos (by omega)]
      cases hw : weakAt (l.getD i []) a with
      | false => rw [if_neg (by decide), if_neg (by decide)]; rfl
      | true =>
        rw [if_pos rfl, if_pos rfl]
        by_cases hs : s.1 < 0
        · rw [if_pos hs, if_pos hs]; rfl
        · rw [if_neg hs, if_neg hs]
  · intro _ _ _ _ _ _; trivial
  · intro k s _ _
    simp only [spec_l3At.l0, E]
    rw [if_neg (by omega)]
def FitU (u : UnitV) : Prop := u.length ≤ 140737488351232 ∧ ∀ x ∈ u, FitF x
def unitsOkB (l : List UnitV) (n : Int) : Bool := decide ((l.length : Int) ≤ n) && !(l.any fun u => !unitOkB u)
theorem spec_l3Ok_f (l : List UnitV) (hn : l.length ≤ 9223372036854775806) (hl : ∀ u ∈ l, FitU u) (n : Int) (k : Nat) (hk : 500000000000000 + l.length < k) : spec_l3Ok.f k l n = some (unitsOkB l n) := by
  have e : unitsOkB l n = (allFrom (fun _ u => unitOkB u) l 0 && decide ((l.length : Int) ≤ n)) := by
    rw [allFrom_all, all_not_any]
    unfold unitsOkB
    rw [Bool.and_comm]
  rw [e]
  unfold spec_l3Ok.f
  refine loop_all (fun _ u => unitOkB u) [] l _ (by omega) (fun k i => spec_l3Ok.l0 k l n i) 500000000000000 ?_ ?_ ?_ k (by omega)
  · intro k i hK hi hq
    have hu := hl _ (getD_mem (d := []) hi)
    simp only [spec_l3Ok.l0]
    rw [if_pos (by omega), if_pos (by omega), spec_UnitOk_f (rd_L13 l (i : Int)) hu.1 hu.2 k hK]
    simp only [Option.bind_some]
    rw [show unitOkB (rd_L13 l (i : Int)) = true from hq, if_pos rfl]
  · intro k i hK hi hq
    have hu := hl _ (getD_mem (d := []) hi)
    simp only [spec_l3Ok.l0]
    rw [if_pos (by omega), if_pos (by omega), spec_UnitOk_f (rd_L13 l (i : Int)) hu.1 hu.2 k hK]
    simp only [Option.bind_some]
    rw [show unitOkB (rd_L13 l (i : Int)) = false from hq, if_neg (by decide)]
  · intro k _
    simp only [spec_l3Ok.l0]
    rw [if_neg (by omega)]
theorem impl_unitsOk_f (l : List UnitV) (hl : ∀ u ∈ l, FitU u) (n : Int) : impl_unitsOk.f l n = some (unitsOkB l n) := by
  unfold impl_unitsOk.f
  rw [if_pos (fun u hu => ⟨(hl u hu).1, fun x hx => (hl u hu).2 x hx⟩)]
  rfl
theorem unitsOkB_len {l : List UnitV} {n : Int} (h : unitsOkB l n = true) : (l.length : Int) ≤ n := by
  unfold unitsOkB at h
  simp only [Bool.and_eq_true, decide_eq_true_eq] at h
  exact h.1
def pickAtV (l : List UnitV) (a : ByteArray) : Int × Int × Bool := if unitsOkB l 8 = true then pickV l a else (0, 0, false)
theorem spec_PickAt_f (l : List UnitV) (hn : l.length ≤ 9223372036854775806) (hl : ∀ u ∈ l, FitU u) (a : ByteArray) (k : Nat) (hk : 500000000000000 + l.length < k) : spec_PickAt.f k l a = some (pickAtV l a) := by
  unfold spec_PickAt.f pickAtV
  rw [spec_l3Ok_f l hn hl 8 k hk, spec_l3At_f l hn 140737488351232 (fun u hu => (hl u hu).1) (by decide) a k (by omega)]
  simp only [Option.bind_some]
  split <;> rfl
theorem impl_PickAt_f (l : List UnitV) (hl : ∀ u ∈ l, FitU u) (a : ByteArray) (k : Nat) (hk : 100 < k) : impl_PickAt.f k l a = some (pickAtV l a) := by
  unfold impl_PickAt.f pickAtV
  rw [impl_unitsOk_f l hl 8]
  simp only [Option.bind_some]
  by_cases h : unitsOkB l 8 = true
  · have := unitsOkB_len h
    rw [if_pos h, if_pos h, impl_pick_f l (by omega) (fun u hu => by have := (hl u hu).1; omega) a k (by omega)]
    rfl
  · rw [if_neg h, if_neg h]
end Go.Proofs.Ytpckkkcaffhhnaa.L

/- What is found in ok units: places and names. -/
namespace Go.Proofs.Ytpckkkcaffhhnaa.L
open Go.RowKit Go.Proofs.YtpckkkcaffhhnaaW.PrintWords Go.Proofs.YtpckkkcaffhhnaaW.PrintLast Go.Proofs.YtpckkkcaffhhnaaW.PrintMore Go.Proofs.Ytpckkkcaffhhnaa.P
set_option linter.unusedVariables false
theorem SmallV.fit {u : UnitV} (h : SmallV u) : FitU u := ⟨by have := h.1; omega, fun x hx => (h.2 x hx).fit (by omega)⟩
/-- Where a unit is ok, a function's place is found by its name. -/
theorem good_at (u : UnitV) (h : unitOkB u = true) (i : Nat) (hi : i < u.length) : findI u (u.getD i z30).f0 = (i : Int) := by
  have key : ∀ (l : List S30) (j : Nat), allFrom (fun i x => funOkB x.f0 x.f2 && (findI u x.f0 == (i : Int))) l j = true → ∀ i, i < l.length → findI u (l.getD i z30).f0 = ((j + i : Nat) : Int) := by
    intro l
    induction l with
    | nil => intro j _ i hi; simp at hi
    | cons x l ih =>
      intro j h i hi
      simp only [allFrom, Bool.and_eq_true, beq_iff_eq] at h
      cases i with
      | zero => simpa using h.1.2
      | succ i =>
        have := ih (j + 1) h.2 i (by simpa using hi)
        simp only [List.getD_cons_succ]
        rw [this]
        congr 1
        omega
  unfold unitOkB at h
  simp only [Bool.and_eq_true] at h
  have := key u 0 h.1 i hi
  simpa using this
theorem find_hit (u : UnitV) (a : ByteArray) (h : 0 ≤ findI u a) : (u.getD (findI u a).toNat z30).f0.toList = a.toList := by
  have key : ∀ (l : List S30) (j : Int), 0 ≤ j → 0 ≤ idxFrom (named a) l j → (l.getD (idxFrom (named a) l j - j).toNat z30).f0.toList = a.toList := by
    intro l
    induction l with
    | nil => intro j hj h; simp [idxFrom] at h
    | cons x l ih =>
      intro j hj h
      by_cases hq : named a x = true
      · have e : idxFrom (named a) (x :: l) j = j := by simp [idxFrom, hq]
        rw [e]
        simp only [Int.sub_self, Int.toNat_zero, List.getD_cons_zero]
        exact beq_iff_eq.mp hq
      · have e : idxFrom (named a) (x :: l) j = idxFrom (named a) l (j + 1) := by simp [idxFrom, hq]
        rw [e] at h ⊢
        have hlo := idxFrom_lo (named a) l (j + 1) (by omega)
        have := ih (j + 1) (by omega) h
        have h2 := hlo.2.2 h
        rw [show (idxFrom (named a) l (j + 1) - j).toNat = (idxFrom (named a) l (j + 1) - (j + 1)).toNat + 1 by omega]
        simpa using this
  have := key u 0 (by omega) h
  unfold findI
  simpa using this
theorem findI_of {u : UnitV} {a b : ByteArray} (h : a.toList = b.toList) : findI u a = findI u b := by
  unfold findI named
  rw [h]
/-- In an ok unit: a function of that name stands where the name is found. -/
theorem named_at {u : UnitV} (h : unitOkB u = true) {i : Nat} (hi : i < u.length) {a : ByteArray} (hn : (u.getD i z30).f0.toList = a.toList) : findI u a = (i : Int) := by
  rw [← findI_of hn]; exact good_at u h i hi
theorem unitsOk_at {l : List UnitV} {n : Int} (h : unitsOkB l n = true) : ∀ u ∈ l, unitOkB u = true := by
  intro u hu
  unfold unitsOkB at h
  simp only [Bool.and_eq_true, decide_eq_true_eq, Bool.not_eq_true', List.any_eq_false] at h
  have h3 := h.2 u hu
  revert h3
  cases unitOkB u <;> simp
def hit (u : UnitV) (a : ByteArray) (b : Bool) : Prop := 0 ≤ findI u a ∧ weakAt u a = b
theorem hitS_some (b : Bool) (a : ByteArray) : ∀ (l : List UnitV) (i : Nat) (p : Nat × Int), hitS b a l i = some p → ∃ n, p = (i + n, findI (l.getD n []) a) ∧ n < l.length ∧ hit (l.getD n []) a b ∧ ∀ m, m < n → ¬ hit (l.getD m []) a b
  | [], i, p, h => by simp [hitS] at h
  | u :: l, i, p, h => by
    simp only [hitS] at h
    by_cases hc : 0 ≤ findI u a ∧ weakAt u a = b
    · rw [if_pos hc] at h
      exact ⟨0, by simpa using (Option.some.inj h).symm, by simp, hc, fun m hm => absurd hm (by omega)⟩
    · rw [if_neg hc] at h
      obtain ⟨n, h1, h2, h3, h4⟩ := hitS_some b a l (i + 1) p h
      refine ⟨n + 1, by rw [h1]; simp; omega, by simpa using h2, by simpa using h3, fun m hm => ?_⟩
      cases m with
      | zero => exact hc
      | succ m => simpa using h4 m (by omega)
theorem hitS_none (b : Bool) (a : ByteArray) : ∀ (l : List UnitV) (i : Nat), hitS b a l i = none → ∀ m, m < l.length → ¬ hit (l.getD m []) a b
  | [], i, h, m, hm => by simp at hm
  | u :: l, i, h, m, hm => by
    simp only [hitS] at h
    by_cases hc : 0 ≤ findI u a ∧ weakAt u a = b
    · rw [if_pos hc] at h; exact absurd h (by simp)
    · rw [if_neg hc] at h
      cases m with
      | zero => exact hc
      | succ m => simpa using hitS_none b a l (i + 1) h m (by simpa using hm)
theorem pickAt_spec (us : List UnitV) (s : ByteArray) (hlen : ∀ u ∈ us, u.length ≤ 4) : match pickAtV us s with
    | (i, j, false) => i = 0 ∧ j = 0
    | (i, j, true) => ∃ n : Nat, i = (n : Int) ∧ n < us.length ∧ 0 ≤ j ∧ j < (us.getD n []).length ∧ ((us.getD n []).getD j.toNat z30).f0.toList = s.toList
      ∧ (((us.getD n []).getD j.toNat z30).f1 = true → ∀ x y, x < us.length → y < (us.getD x []).length → ((us.getD x []).getD y z30).f0.toList = s.toList → ((us.getD x []).getD y z30).f1 = true ∧ ¬ x < n)
      ∧ (((us.getD n []).getD j.toNat z30).f1 = false → ∀ x y, x < us.length → y < (us.getD x []).length → ((us.getD x []).getD y z30).f0.toList = s.toList → ((us.getD x []).getD y z30).f1 = false → ¬ x < n) := by
  unfold pickAtV
  by_cases hok : unitsOkB us 8 = true
  · rw [if_pos hok]
    have hok2 := unitsOk_at hok
    have at_ : ∀ x y, x < us.length → y < (us.getD x []).length → ((us.getD x []).getD y z30).f0.toList = s.toList → hit (us.getD x []) s ((us.getD x []).getD y z30).f1 := by
      intro x y hx hy hn
      have e := named_at (hok2 _ (getD_mem (d := []) hx)) hy hn
      refine ⟨by rw [e]; omega, ?_⟩
      unfold weakAt
      rw [e]
      rfl
    unfold pickV
    cases h1 : hitS false s us 0 with
    | some p =>
      obtain ⟨n, rfl, hn, hh, hb⟩ := hitS_some false s us 0 p h1
      refine ⟨n, by simp, hn, hh.1, (findI_lo _ _).2, find_hit _ _ hh.1, fun h => ?_, fun _ x y hx hy hnm hf hlt => hb x hlt ?_⟩
      · exact absurd (h.symm.trans hh.2) (by decide)
      · have := at_ x y hx hy hnm
        rw [hf] at this
        exact this
    | none =>
      have hno := hitS_none false s us 0 h1
      cases h2 : hitS true s us 0 with
      | some p =>
        obtain ⟨n, rfl, hn, hh, hb⟩ := hitS_some true s us 0 p h2
        refine ⟨n, by simp, hn, hh.1, (findI_lo _ _).2, find_hit _ _ hh.1, fun _ x y hx hy hnm => ?_, fun h => ?_⟩
        · have := at_ x y hx hy hnm
          cases hf : ((us.getD x []).getD y z30).f1 with
          | true => rw [hf] at this; exact ⟨rfl, fun hlt => hb x hlt this⟩
          | false => rw [hf] at this; exact absurd this (hno x hx)
        · exact absurd (hh.2.symm.trans h) (by decide)
      | none => exact ⟨rfl, rfl⟩
  · rw [if_neg hok]; exact ⟨rfl, rfl⟩
end Go.Proofs.Ytpckkkcaffhhnaa.L

/- What is taken for a name: for every code, the law on PickAt answers true. -/
namespace Go.Proofs.Ytpckkkcaffhhnaa.Pure
open Go.RowKit Go.Proofs.Ytpckkkcaffhhnaa.P Go.Proofs.Ytpckkkcaffhhnaa.L Go.Proofs.YtpckkkcaffhhnaaW.PrintWords
set_option linter.unusedVariables false
theorem draw_at (l : List Int) (hl : Bytes l) : ∃ us s, (∀ k, 2000 ≤ k → spec_DrawPickAt.f k l = some (us, s)) ∧ us.length ≤ 9 ∧ ∀ u ∈ us, SmallV u := by
  obtain ⟨l', e, hl', _⟩ := spec_l13Open_f l hl
  obtain ⟨us, q, h, hq, hn, hu⟩ := spec_l3Bent_f l' hl' 0 (by decide) (by decide) 4 (by decide)
  obtain ⟨s, hs, _⟩ := spec_l1Name_f l' hl' q (by have := hq.1; omega) (by have := hq.2; omega)
  refine ⟨us, s, fun k hk => ?_, hn, hu⟩
  unfold spec_DrawPickAt.f
  rw [e]; simp only [Option.bind_some]
  rw [show (4 : Int) = ((4 : Nat) : Int) from rfl, h k (by omega)]; simp only [Option.bind_some]
  rw [hs k (by omega)]; rfl
theorem at_l1 (us : List UnitV) (s : ByteArray) (n : Nat) (j : Int) (hl : us.length ≤ 9) (hu : ∀ u ∈ us, u.length ≤ 4) (hn : n < us.length) (hj0 : 0 ≤ j) (hj1 : j < (us.getD n []).length)
    (hW1 : ((us.getD n []).getD j.toNat z30).f1 = true → ∀ x y, x < us.length → y < (us.getD x []).length → ((us.getD x []).getD y z30).f0.toList = s.toList → ((us.getD x []).getD y z30).f1 = true ∧ ¬ x < n)
    (hW0 : ((us.getD n []).getD j.toNat z30).f1 = false → ∀ x y, x < us.length → y < (us.getD x []).length → ((us.getD x []).getD y z30).f0.toList = s.toList → ((us.getD x []).getD y z30).f1 = false → ¬ x < n)
    (x : Nat) (hx : x < us.length) : ∀ m y k, y + m = (us.getD x []).length → 3 * m + 1 ≤ k → laws_FnPickAt.l1 k us s (n : Int) j (x : Int) (y : Int) = laws_FnPickAt.l0 (k - 3 * m - 1) us s (n : Int) j (wrap64 ((x : Int) + 1)) := by
  have hux := hu _ (getD_mem (d := []) hx)
  intro m
  induction m with
  | zero =>
    intro y k hy hk
    obtain ⟨k, rfl, _⟩ := succ_of (show 0 < k by omega)
    simp only [laws_FnPickAt.l1]
    rw [show rd_L13 us (x : Int) = us.getD x [] from rfl, if_pos (by omega), if_pos (by omega), if_neg (by omega)]
    rfl
  | succ m ih =>
    intro y k hy hk
    obtain ⟨k, rfl⟩ : ∃ q, k = q + 3 := ⟨k - 3, by omega⟩
    have next : laws_FnPickAt.j9 (k + 1) us s (n : Int) j (x : Int) (y : Int) false = laws_FnPickAt.l0 (k + 3 - 3 * (m + 1) - 1) us s (n : Int) j (wrap64 ((x : Int) + 1)) := by
      simp only [laws_FnPickAt.j9]
      rw [if_neg (by decide), show wrap64 ((y : Int) + 1) = ((y + 1 : Nat) : Int) from by rw [wrap_id (by omega) (by omega)]; push_cast; rfl, ih (y + 1) k (by omega) (by omega)]
      congr 1
      omega
    simp only [laws_FnPickAt.l1]
    rw [show rd_L13 us (x : Int) = us.getD x [] from rfl, if_pos (by omega), if_pos (by omega), if_pos (by omega)]
    simp only [laws_FnPickAt.j8]
    rw [show rd_L13 us (x : Int) = us.getD x [] from rfl, show rd_L13 us (n : Int) = us.getD n [] from rfl, show rd_T30 (us.getD x []) (y : Int) = (us.getD x []).getD y z30 from rfl, show rd_T30 (us.getD n []) j = (us.getD n []).getD j.toNat z30 from rfl]
    rw [if_pos (by omega), if_pos (by omega), if_pos (by omega), if_pos (by omega)]
    by_cases hname : ((us.getD x []).getD y z30).f0.toList = s.toList
    · rw [if_pos hname, if_pos (by omega), if_pos (by omega), if_pos (by omega), if_pos (by omega)]
      cases hW : ((us.getD n []).getD j.toNat z30).f1 with
      | true =>
        obtain ⟨h1, h2⟩ := hW1 hW x y hx (by omega) hname
        rw [if_pos rfl, if_pos h1, if_neg (by omega), if_pos rfl]
        exact next
      | false =>
        rw [if_neg (by decide), if_neg (by decide)]
        cases hf : ((us.getD x []).getD y z30).f1 with
        | true => rw [if_pos rfl]; exact next
        | false =>
          rw [if_neg (by decide), decide_eq_false (show ¬ ((x : Int) < (n : Int)) by have := hW0 hW x y hx (by omega) hname hf; omega)]
          exact next
    · rw [if_neg hname]
      exact next
theorem FnPickAt : laws_FnPickAt.Pure := by
  intro l _ _ hw
  unfold laws_FnPickAt.f
  by_cases h : (l.length : Int) > 1048576
  · exact ⟨1, by rw [if_pos h]⟩
  obtain ⟨us, s, hd, hl, hsm⟩ := draw_at l ⟨by omega, hw⟩
  have hf : ∀ u ∈ us, FitU u := fun u hu => (hsm u hu).fit
  have hlen : ∀ u ∈ us, u.length ≤ 4 := fun u hu => (hsm u hu).1
  obtain ⟨K, hK⟩ : ∃ K : Nat, 1000000000000000 ≤ K := ⟨_, Nat.le_refl _⟩
  refine ⟨K + 5, ?_⟩
  rw [if_neg h]
  simp only [laws_FnPickAt.j0]
  rw [hd _ (by omega)]
  simp only [Option.bind_some]
  rw [impl_PickAt_f us hf s _ (by omega), spec_PickAt_f us (by omega) hf s _ (by omega)]
  simp only [Option.bind_some, if_true, bne_self_eq_false, laws_FnPickAt.j1]
  rw [if_neg (by decide)]
  simp only [laws_FnPickAt.j2]
  have hs := pickAt_spec us s hlen
  revert hs
  generalize pickAtV us s = r
  obtain ⟨i, j, b⟩ := r
  intro hs
  cases b with
  | false =>
    obtain ⟨rfl, rfl⟩ := hs
    rfl
  | true =>
    obtain ⟨n, rfl, hn, hj0, hj1, hnm, hW1, hW0⟩ := hs
    dsimp only
    rw [if_pos rfl]
    simp only [laws_FnPickAt.j3]
    rw [show rd_L13 us (n : Int) = us.getD n [] from rfl, show rd_T30 (us.getD n []) j = (us.getD n []).getD j.toNat z30 from rfl]
    rw [if_pos (by omega), if_pos (by omega), if_pos hj0, if_pos hj1, if_pos hnm]
    simp only [laws_FnPickAt.j4]
    have key : ∀ (m x k : Nat), x + m = us.length → 40 * m + 10 ≤ k → laws_FnPickAt.l0 k us s (n : Int) j (x : Int) = some true := by
      intro m
      induction m with
      | zero =>
        intro x k hx hk
        obtain ⟨k, rfl, _⟩ := succ_of (show 0 < k by omega)
        simp only [laws_FnPickAt.l0]
        rw [if_neg (by omega)]
      | succ m ih =>
        intro x k hx hk
        obtain ⟨k, rfl⟩ : ∃ q, k = q + 2 := ⟨k - 2, by omega⟩
        have hux := hlen _ (getD_mem (d := []) (show x < us.length by omega))
        simp only [laws_FnPickAt.l0]
        rw [if_pos (by omega)]
        simp only [laws_FnPickAt.j6]
        rw [show (0 : Int) = ((0 : Nat) : Int) from rfl, at_l1 us s n j hl hlen hn hj0 hj1 hW1 hW0 x (by omega) (us.getD x []).length 0 k (by omega) (by omega), show wrap64 ((x : Int) + 1) = ((x + 1 : Nat) : Int) from by rw [wrap_id (by omega) (by omega)]; push_cast; rfl]
        exact ih (x + 1) _ (by omega) (by omega)
    exact key us.length 0 _ (by omega) (by omega)
end Go.Proofs.Ytpckkkcaffhhnaa.Pure
