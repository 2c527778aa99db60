-- LDraw, LDrawU, PureFnUnitBent: put together by squash.py
import Derived.Test.YtajhjdhkeahlpaaDoorSqFnUnitBent4
import Derived.Test.YtajhjdhkeahlpaaDoorSqFnUnitBent5
import Derived.Test.YtajhjdhkeahlpaaDoorSqFnUnitBent7
import Derived.Test.YtajhjdhkeahlpaaDoorSqFnUnitBent3
import Derived.Test.YtajhjdhkeahlpaaDoorSqFnUnitBent6
import Derived.Test.YtajhjdhkeahlpaaDoorSqFnUnitBent8
import Derived.Test.YtajhjdhkeahlpaaDoorSqFnUnitBent9
import Derived.Lib.Strings

/- What the drawing functions compute: a code is read byte by byte; each pick is within its range. -/
namespace Go.Proofs.YtajhjdhkeahlpaaDoor.L
open Go.RowKit Go.Proofs.YtajhjdhkeahlpaaDoorW.PrintWords Go.Proofs.YtajhjdhkeahlpaaDoorW.PrintLast Go.Proofs.YtajhjdhkeahlpaaDoorW.PrintMore Go.Proofs.YtajhjdhkeahlpaaDoor.P
set_option linter.unusedVariables false
set_option linter.unusedSimpArgs false

/-- The bytes of a code. -/
def Bytes (l : List Int) : Prop := l.length ≤ 1048576 ∧ ∀ x ∈ l, (Lit.int .u8 x).wf = true
theorem Bytes.take {l : List Int} (h : Bytes l) (n : Nat) : Bytes (l.take n) :=
  ⟨Nat.le_trans (by rw [List.length_take]; omega) h.1, fun x hx => h.2 x (List.mem_of_mem_take hx)⟩

theorem spec_l13Open_f (l : List Int) (h : Bytes l) : ∃ l', spec_l13Open.f l = some (l', 0) ∧ Bytes l' ∧ l'.length ≤ 2000 := by
  unfold spec_l13Open.f
  by_cases c : (l.length : Int) > 2000
  · rw [if_pos c, if_pos (by omega)]
    exact ⟨_, rfl, h.take 2000, by rw [List.length_take]; omega⟩
  · rw [if_neg c]
    exact ⟨l, rfl, h, by omega⟩
/-- The number that is made past the end of a code: some number, not negative. -/
theorem mixed (l : List Int) (hl : Bytes l) (h0 : 0 < l.length) (p : Int) (hp : 0 ≤ p) (hp' : p < 1000000000000) (x y q : Int) (hx : 0 ≤ x ∧ x ≤ 255) (hy : 0 ≤ y ∧ y ≤ 255) (hq : 0 ≤ q ∧ q ≤ p) :
    ∃ z, wrap64 ((wrap64 ((wrap64 ((wrap64 (x * 131)) + (wrap64 (y * 1117)))) + (wrap64 (p * 29)))) + (wrap64 (q * 53))) = z ∧ 0 ≤ z ∧ z < 1000000000000000 := by
  refine ⟨x * 131 + y * 1117 + p * 29 + q * 53, ?_, by omega, by omega⟩
  rw [wrap_id (n := x * 131) (by omega) (by omega), wrap_id (n := y * 1117) (by omega) (by omega), wrap_id (n := p * 29) (by omega) (by omega), wrap_id (n := q * 53) (by omega) (by omega),
    wrap_id (n := x * 131 + y * 1117) (by omega) (by omega), wrap_id (n := x * 131 + y * 1117 + p * 29) (by omega) (by omega), wrap_id (n := x * 131 + y * 1117 + p * 29 + q * 53) (by omega) (by omega)]
theorem spec_l13Rd_pick_f (l : List Int) (hl : Bytes l) (p n : Int) (hp : 0 ≤ p) (hp' : p < 1000000000000) (hn : 1 ≤ n) :
    ∃ r, (∀ k, 1 ≤ k → spec_l13Rd_pick.f k l p n = some (r, p + 1)) ∧ 0 ≤ r ∧ r < n := by
  have e1 : wrap64 (p + 1) = p + 1 := wrap_id (by omega) (by omega)
  have e2 : wrap64 (p + 1 - 1) = p := by rw [show p + 1 - 1 = p by omega]; exact wrap_id (by omega) (by omega)
  by_cases h0 : l.length = 0
  · refine ⟨0, fun k hk => ?_, by omega, by omega⟩
    obtain ⟨m, rfl, _⟩ := succ_of hk
    unfold spec_l13Rd_pick.f
    rw [if_neg (by omega), e1]
    simp only [spec_l13Rd_pick.j0]
    rw [if_pos (by rw [h0]; rfl)]
  · have hb : ((l.length : Int) == 0) = false := beq_eq_false_iff_ne.mpr (by omega)
    by_cases c : p < (l.length : Int)
    · have hb2 := rd_byte hl.2 p
      refine ⟨Int.tmod (rd l p) n, fun k hk => ?_, tmod_small hb2.1 hn⟩
      obtain ⟨m, rfl, _⟩ := succ_of hk
      unfold spec_l13Rd_pick.f
      rw [if_neg (by omega), e1, hb]
      simp only [spec_l13Rd_pick.j0]
      rw [if_neg (by decide), e2, if_pos c, if_pos hp, if_neg (by omega), wrap_id (n := rd l p) (by omega) (by omega)]
    · have hL : (1 : Int) ≤ l.length := by omega
      have t1 := tmod_small hp hL
      have h7 : wrap64 (p * 7) = p * 7 := wrap_id (by omega) (by omega)
      have h73 : wrap64 (p * 7 + 3) = p * 7 + 3 := wrap_id (by omega) (by omega)
      have t2 := tmod_small (a := p * 7 + 3) (by omega) hL
      have b1 := rd_byte hl.2 (Int.tmod p l.length)
      have b2 := rd_byte hl.2 (Int.tmod (p * 7 + 3) l.length)
      have q1 := tdiv_small hp hL
      have w1 := wrap_id (n := rd l (Int.tmod p l.length)) (by omega) (by omega)
      have w2 := wrap_id (n := rd l (Int.tmod (p * 7 + 3) l.length)) (by omega) (by omega)
      have w3 := wrap_id (n := Int.tdiv p l.length) (by omega) (by omega)
      obtain ⟨z, hz, z0, z1⟩ := mixed l hl (by omega) p hp hp' _ _ _ b1 b2 q1
      have q2 := tdiv_small (a := z) (n := 64) z0 (by omega)
      have w4 := wrap_id (n := Int.tdiv z 64) (by omega) (by omega)
      have x1 := xor_nonneg z (Int.tdiv z 64) z0 (by omega) q2.1 (by omega)
      refine ⟨Int.tmod (Go.bits .xor .i64 z (Int.tdiv z 64)) n, fun k hk => ?_, tmod_small x1.1 hn⟩
      obtain ⟨m, rfl, _⟩ := succ_of hk
      unfold spec_l13Rd_pick.f
      rw [if_neg (by omega), e1, hb]
      simp only [spec_l13Rd_pick.j0]
      rw [if_neg (by decide), e2, if_neg c, if_neg (by omega), if_pos t1.1, if_pos t1.2, h7, h73, if_pos t2.1, if_pos t2.2, if_neg (by omega), w1, w2, w3, hz, w4]
theorem spec_l13Rd_num_f (l : List Int) (hl : Bytes l) (p : Int) (hp : 0 ≤ p) (hp' : p < 1000000000000) (xs : List Int) (hx : 0 < xs.length) :
    ∃ r, (∀ k, 1 ≤ k → spec_l13Rd_num.f k l p xs = some (r, p + 1)) ∧ r ∈ xs := by
  obtain ⟨r, hr, r0, r1⟩ := spec_l13Rd_pick_f l hl p xs.length hp hp' (by omega)
  refine ⟨rd xs r, fun k hk => ?_, ?_⟩
  · unfold spec_l13Rd_num.f
    rw [hr k hk]
    simp only [Option.bind_some]
    rw [if_pos r0, if_pos r1]
  · unfold rd
    rw [List.getD_eq_getElem?_getD, List.getElem?_eq_getElem (by omega)]
    exact List.getElem_mem _
theorem spec_l13Rd_of_f (l : List Int) (hl : Bytes l) (p : Int) (hp : 0 ≤ p) (hp' : p < 1000000000000) (xs : List ByteArray) (hx : 0 < xs.length) :
    ∃ r, (∀ k, 1 ≤ k → spec_l13Rd_of.f k l p xs = some (r, p + 1)) ∧ r ∈ xs := by
  obtain ⟨r, hr, r0, r1⟩ := spec_l13Rd_pick_f l hl p xs.length hp hp' (by omega)
  refine ⟨rdOf ByteArray.empty xs r, fun k hk => ?_, ?_⟩
  · unfold spec_l13Rd_of.f
    rw [hr k hk]
    simp only [Option.bind_some]
    rw [if_pos r0, if_pos r1]
  · unfold rdOf
    rw [List.getD_eq_getElem?_getD, List.getElem?_eq_getElem (by omega)]
    exact List.getElem_mem _
def names6 : List ByteArray := [(⟨#[97]⟩ : ByteArray), (⟨#[98]⟩ : ByteArray), (⟨#[99]⟩ : ByteArray), (⟨#[100]⟩ : ByteArray), (⟨#[109, 97, 105, 110]⟩ : ByteArray), (⟨#[101]⟩ : ByteArray)]
theorem spec_l1Name_f (l : List Int) (hl : Bytes l) (p : Int) (hp : 0 ≤ p) (hp' : p < 1000000000000) :
    ∃ r, (∀ k, 1 ≤ k → spec_l1Name.f k l p = some (r, p + 1)) ∧ r ∈ names6 := by
  obtain ⟨r, hr, hm⟩ := spec_l13Rd_of_f l hl p hp hp' names6 (by decide)
  refine ⟨r, fun k hk => ?_, hm⟩
  unfold spec_l1Name.f
  have e := hr k hk
  unfold names6 at e
  rw [e]
  rfl
/-- A place further on, at most n places. -/
def On (p q : Int) (n : Int) : Prop := p ≤ q ∧ q ≤ p + n
theorem spec_l1Ins_f (l : List Int) (hl : Bytes l) (p : Int) (hp : 0 ≤ p) (hp' : p < 900000000000) :
    ∃ a b s q, (∀ k, 4 ≤ k → spec_l1Ins.f k l p = some (a, b, s, q)) ∧ On p q 2 ∧ s.size ≤ 4 := by
  obtain ⟨r, hr, r0, r1⟩ := spec_l13Rd_pick_f l hl p 8 hp (by omega) (by omega)
  obtain ⟨n1, hn1, _⟩ := spec_l13Rd_num_f l hl (p + 1) (by omega) (by omega) [1, (-1), 2, 5, (-3)] (by decide)
  obtain ⟨n2, hn2, _⟩ := spec_l13Rd_num_f l hl (p + 1) (by omega) (by omega) [6, 6, 7, 4] (by decide)
  obtain ⟨s1, hs1, hm1⟩ := spec_l1Name_f l hl (p + 1) (by omega) (by omega)
  have hz1 : s1.size ≤ 4 := by
    simp only [names6, List.mem_cons, List.not_mem_nil, or_false] at hm1
    rcases hm1 with rfl | rfl | rfl | rfl | rfl | rfl <;> decide
  have j2 : ∀ k, 1 ≤ k → ∀ b, ∃ a' b' s' q', (spec_l1Ins.j2 (k + 1) r b l (p + 1) = some (a', b', s', q')) ∧ On p q' 2 ∧ s'.size ≤ 4 ∧ ((b = true ∧ a' = 3 ∧ b' = 0 ∧ s' = s1 ∧ q' = p + 1 + 1) ∨ (b = false ∧ r = 6 ∧ a' = 5 ∧ b' = 0 ∧ s' = s1 ∧ q' = p + 1 + 1) ∨ (b = false ∧ r ≠ 6 ∧ a' = n2 ∧ b' = 0 ∧ s' = ⟨#[]⟩ ∧ q' = p + 1 + 1)) := by
    intro k hk b
    simp only [spec_l1Ins.j2]
    rw [hs1 k hk, hn2 k hk]
    cases b with
    | true => exact ⟨3, 0, s1, p + 1 + 1, rfl, ⟨by omega, by omega⟩, hz1, .inl ⟨rfl, rfl, rfl, rfl, rfl⟩⟩
    | false =>
      by_cases h6 : r = 6
      · exact ⟨5, 0, s1, p + 1 + 1, by rw [if_neg (by decide), if_pos h6]; rfl, ⟨by omega, by omega⟩, hz1, .inr (.inl ⟨rfl, h6, rfl, rfl, rfl, rfl⟩)⟩
      · exact ⟨n2, 0, ⟨#[]⟩, p + 1 + 1, by rw [if_neg (by decide), if_neg h6]; rfl, ⟨by omega, by omega⟩, by decide, .inr (.inr ⟨rfl, h6, rfl, rfl, rfl, rfl⟩)⟩
  -- which of the ways it goes hangs on r alone
  by_cases h01 : r = 0 ∨ r = 1
  · refine ⟨1, 0, ⟨#[]⟩, p + 1, fun k hk => ?_, ⟨by omega, by omega⟩, by decide⟩
    obtain ⟨m, rfl, _⟩ := succ_of (d := 3) hk
    unfold spec_l1Ins.f
    rw [hr _ (by omega)]
    simp only [Option.bind_some, spec_l1Ins.j0]
    rcases h01 with rfl | rfl <;> rfl
  · by_cases h23 : r = 2 ∨ r = 3
    · refine ⟨2, n1, ⟨#[]⟩, p + 1 + 1, fun k hk => ?_, ⟨by omega, by omega⟩, by decide⟩
      obtain ⟨m, rfl, hm⟩ := succ_of (d := 3) hk
      obtain ⟨m, rfl, hm2⟩ := succ_of (d := 2) hm
      unfold spec_l1Ins.f
      rw [hr _ (by omega)]
      simp only [Option.bind_some, spec_l1Ins.j0, spec_l1Ins.j1]
      rw [hn1 m (by omega)]
      rcases h23 with rfl | rfl <;> rfl
    · by_cases h45 : r = 4 ∨ r = 5
      · refine ⟨3, 0, s1, p + 1 + 1, fun k hk => ?_, ⟨by omega, by omega⟩, hz1⟩
        obtain ⟨m, rfl, hm⟩ := succ_of (d := 3) hk
        obtain ⟨m, rfl, hm2⟩ := succ_of (d := 2) hm
        obtain ⟨m, rfl, hm3⟩ := succ_of (d := 1) hm2
        unfold spec_l1Ins.f
        rw [hr _ (by omega)]
        simp only [Option.bind_some, spec_l1Ins.j0, spec_l1Ins.j1, spec_l1Ins.j2]
        rw [hs1 m (by omega)]
        rcases h45 with rfl | rfl <;> rfl
      · obtain ⟨a', b', s', q', _, hon, hsz, hwhat⟩ := j2 1 (Nat.le_refl _) false
        refine ⟨a', b', s', q', fun k hk => ?_, hon, hsz⟩
        obtain ⟨m, rfl, hm⟩ := succ_of (d := 3) hk
        obtain ⟨m, rfl, hm2⟩ := succ_of (d := 2) hm
        obtain ⟨m, rfl, hm3⟩ := succ_of (d := 1) hm2
        unfold spec_l1Ins.f
        rw [hr _ (by omega)]
        have e1 : (r == 1) = false := beq_eq_false_iff_ne.mpr (by omega)
        have e3 : (r == 3) = false := beq_eq_false_iff_ne.mpr (by omega)
        have e5 : (r == 5) = false := beq_eq_false_iff_ne.mpr (by omega)
        simp only [Option.bind_some]
        rw [if_neg (by omega), e1]
        simp only [spec_l1Ins.j0]
        rw [if_neg (by decide), if_neg (by omega), e3]
        simp only [spec_l1Ins.j1]
        rw [if_neg (by decide), if_neg (by omega), e5]
        simp only [spec_l1Ins.j2]
        rw [if_neg (by decide), hs1 m (by omega), hn2 m (by omega)]
        rcases hwhat with ⟨h, _⟩ | ⟨_, h6, rfl, rfl, rfl, rfl⟩ | ⟨_, h6, rfl, rfl, rfl, rfl⟩
        · exact absurd h (by decide)
        · rw [if_pos h6]; rfl
        · rw [if_neg h6]; rfl
theorem spec_l1Right_f (l : List Int) (hl : Bytes l) (p : Int) (hp : 0 ≤ p) (hp' : p < 900000000000) :
    ∃ a b s q, (∀ k, 4 ≤ k → spec_l1Right.f k l p = some (a, b, s, q)) ∧ On p q 3 ∧ s.size ≤ 4 := by
  obtain ⟨a, b, s, q, h, hq, hs⟩ := spec_l1Ins_f l hl p hp hp'
  by_cases c : a = 4
  · obtain ⟨s2, h2, hm⟩ := spec_l1Name_f l hl q (by have := hq.1; omega) (by have := hq.2; omega)
    refine ⟨a, b, s2, q + 1, fun k hk => ?_, ⟨by have := hq.1; omega, by have := hq.2; omega⟩, ?_⟩
    · unfold spec_l1Right.f
      rw [h k hk]
      simp only [Option.bind_some]
      rw [if_pos c, h2 k (by omega)]
      rfl
    · simp only [names6, List.mem_cons, List.not_mem_nil, or_false] at hm
      rcases hm with rfl | rfl | rfl | rfl | rfl | rfl <;> decide
  · refine ⟨a, b, s, q, fun k hk => ?_, ⟨hq.1, by have := hq.2; omega⟩, hs⟩
    unfold spec_l1Right.f
    rw [h k hk]
    simp only [Option.bind_some]
    rw [if_neg c]
theorem spec_l1Bent_f (l : List Int) (hl : Bytes l) (p : Int) (hp : 0 ≤ p) (hp' : p < 900000000000) :
    ∃ a b s q, (∀ k, 4 ≤ k → spec_l1Bent.f k l p = some (a, b, s, q)) ∧ On p q 5 ∧ s.size ≤ 7 := by
  obtain ⟨a, b, s, q, h, hq, hs⟩ := spec_l1Right_f l hl p hp hp'
  have q0 := hq.1
  have q1 := hq.2
  obtain ⟨r, hr, r0, r1⟩ := spec_l13Rd_pick_f l hl q 30 (by omega) (by omega) (by omega)
  obtain ⟨n1, hn1, _⟩ := spec_l13Rd_num_f l hl (q + 1) (by omega) (by omega) [0, 8, (-1), 1] (by decide)
  obtain ⟨n2, hn2, _⟩ := spec_l13Rd_num_f l hl (q + 1) (by omega) (by omega) [1, 1000, 1001] (by decide)
  obtain ⟨s1, hs1, hm1⟩ := spec_l13Rd_of_f l hl (q + 1) (by omega) (by omega) [(⟨#[65]⟩ : ByteArray), (⟨#[97, 98, 99, 100, 101, 102, 103]⟩ : ByteArray), (⟨#[97, 32, 98]⟩ : ByteArray), (⟨#[120]⟩ : ByteArray)] (by decide)
  have hz1 : s1.size ≤ 7 := by
    simp only [List.mem_cons, List.not_mem_nil, or_false] at hm1
    rcases hm1 with rfl | rfl | rfl | rfl <;> decide
  by_cases c0 : r = 0
  · refine ⟨n1, b, s, q + 1 + 1, fun k hk => ?_, ⟨by omega, by omega⟩, by omega⟩
    unfold spec_l1Bent.f
    rw [h k hk]; simp only [Option.bind_some]
    rw [hr k (by omega)]; simp only [Option.bind_some]
    rw [if_pos c0, hn1 k (by omega)]; rfl
  · by_cases c1 : r = 1
    · refine ⟨a, n2, s, q + 1 + 1, fun k hk => ?_, ⟨by omega, by omega⟩, by omega⟩
      unfold spec_l1Bent.f
      rw [h k hk]; simp only [Option.bind_some]
      rw [hr k (by omega)]; simp only [Option.bind_some]
      rw [if_neg c0, if_pos c1, hn2 k (by omega)]; rfl
    · by_cases c2 : r = 2
      · refine ⟨a, b, s1, q + 1 + 1, fun k hk => ?_, ⟨by omega, by omega⟩, hz1⟩
        unfold spec_l1Bent.f
        rw [h k hk]; simp only [Option.bind_some]
        rw [hr k (by omega)]; simp only [Option.bind_some]
        rw [if_neg c0, if_neg c1, if_pos c2, hs1 k (by omega)]; rfl
      · refine ⟨a, b, s, q + 1, fun k hk => ?_, ⟨by omega, by omega⟩, by omega⟩
        unfold spec_l1Bent.f
        rw [h k hk]; simp only [Option.bind_some]
        rw [hr k (by omega)]; simp only [Option.bind_some]
        rw [if_neg c0, if_neg c1, if_neg c2]
end Go.Proofs.YtajhjdhkeahlpaaDoor.L

/- What the drawing functions of units draw: some unit, small. -/
namespace Go.Proofs.YtajhjdhkeahlpaaDoor.L
open Go.RowKit Go.Proofs.YtajhjdhkeahlpaaDoorW.PrintWords Go.Proofs.YtajhjdhkeahlpaaDoorW.PrintLast Go.Proofs.YtajhjdhkeahlpaaDoorW.PrintMore Go.Proofs.YtajhjdhkeahlpaaDoor.P
set_option linter.unusedVariables false
set_option linter.unusedSimpArgs false
/-- A function with a small name, at most n instructions, all with small names. -/
def SmallF (n : Nat) (x : S41) : Prop := x.f0.size ≤ 7 ∧ x.f2.length ≤ n ∧ ∀ y ∈ x.f2, y.f2.size ≤ 7
def SmallU (u : List S41) : Prop := 1 ≤ u.length ∧ u.length ≤ 4 ∧ ∀ x ∈ u, SmallF 6 x
theorem SmallF.fit {n : Nat} {x : S41} (h : SmallF n x) (hn : n ≤ 1000) : FitF x := ⟨by have := h.1; omega, by have := h.2.1; omega, fun y hy => by have := h.2.2 y hy; omega⟩
theorem SmallU.fit {u : List S41} (h : SmallU u) : ∀ x ∈ u, FitF x := fun x hx => (h.2.2 x hx).fit (by omega)
theorem names6_size {s : ByteArray} (h : s ∈ names6) : s.size ≤ 7 := by
  simp only [names6, List.mem_cons, List.not_mem_nil, or_false] at h
  rcases h with rfl | rfl | rfl | rfl | rfl | rfl <;> decide
theorem l2Fun_end (l : List Int) (hl : Bytes l) (a : ByteArray) (w : Bool) (p : Int) (body : List S26) (hp : 0 ≤ p) (hp' : p < 800000000000) (hb : body.length ≤ 4) (hs : ∀ y ∈ body, y.f2.size ≤ 7) :
    ∃ (body' : List S26) (q : Int), (∀ k, 2 ≤ k → spec_l2Fun.l0 k 0 l p a w body = some (a, w, body', q)) ∧ On p q 2 ∧ body'.length ≤ 5 ∧ ∀ y ∈ body', y.f2.size ≤ 7 := by
  obtain ⟨r, hr, r0, r1⟩ := spec_l13Rd_pick_f l hl p 6 hp (by omega) (by omega)
  obtain ⟨s, hn, hm⟩ := spec_l1Name_f l hl (p + 1) (by omega) (by omega)
  have hz := names6_size hm
  have app : ∀ i : S26, i.f2.size ≤ 7 → ∀ y ∈ body ++ [i], y.f2.size ≤ 7 := fun i hi y hy => by
    rcases List.mem_append.mp hy with h | h
    · exact hs y h
    · rw [List.mem_singleton.mp h]; exact hi
  by_cases h0 : r = 0
  · refine ⟨body ++ [⟨4, 0, s⟩], p + 1 + 1, fun k hk => ?_, ⟨by omega, by omega⟩, by rw [List.length_append]; simp; omega, app _ hz⟩
    obtain ⟨k, rfl, _⟩ := succ_of (d := 1) hk
    simp only [spec_l2Fun.l0]
    rw [if_neg (by omega), hr k (by omega)]
    simp only [Option.bind_some]
    rw [if_pos h0, hn k (by omega)]
    simp only [Option.bind_some]
    rw [if_pos (by omega)]
  · by_cases h1 : r = 1
    · refine ⟨body ++ [⟨7, 0, ⟨#[]⟩⟩], p + 1, fun k hk => ?_, ⟨by omega, by omega⟩, by rw [List.length_append]; simp; omega, app _ (by decide)⟩
      obtain ⟨k, rfl, _⟩ := succ_of (d := 1) hk
      simp only [spec_l2Fun.l0]
      rw [if_neg (by omega), hr k (by omega)]
      simp only [Option.bind_some]
      rw [if_neg h0, if_pos h1, if_pos (by omega)]
    · refine ⟨body ++ [⟨6, 0, ⟨#[]⟩⟩], p + 1, fun k hk => ?_, ⟨by omega, by omega⟩, by rw [List.length_append]; simp; omega, app _ (by decide)⟩
      obtain ⟨k, rfl, _⟩ := succ_of (d := 1) hk
      simp only [spec_l2Fun.l0]
      rw [if_neg (by omega), hr k (by omega)]
      simp only [Option.bind_some]
      rw [if_neg h0, if_neg h1, if_pos (by omega)]
theorem l2Fun_l0 (l : List Int) (hl : Bytes l) (a : ByteArray) (w : Bool) : ∀ (n : Nat) (p : Int) (body : List S26), 0 ≤ p → p + 4 * n < 700000000000 → body.length + n ≤ 4 → (∀ y ∈ body, y.f2.size ≤ 7) →
    ∃ (body' : List S26) (q : Int), (∀ k, n + 6 ≤ k → spec_l2Fun.l0 k (n : Int) l p a w body = some (a, w, body', q)) ∧ On p q (4 * n + 2) ∧ body'.length ≤ 5 ∧ ∀ y ∈ body', y.f2.size ≤ 7
  | 0, p, body, hp, hp', hb, hs => by
    obtain ⟨b, q, h1, h2, h3, h4⟩ := l2Fun_end l hl a w p body hp (by omega) (by omega) hs
    exact ⟨b, q, fun k hk => h1 k (by omega), ⟨h2.1, by have := h2.2; omega⟩, h3, h4⟩
  | n + 1, p, body, hp, hp', hb, hs => by
    obtain ⟨i, j, s, q, h, hq, hz⟩ := spec_l1Right_f l hl p hp (by omega)
    have q0 := hq.1
    have q1 := hq.2
    have hw : wrap64 (((n + 1 : Nat) : Int) - 1) = (n : Int) := by rw [wrap_id (by omega) (by omega)]; push_cast; omega
    have step : ∀ k, n + 6 ≤ k → spec_l2Fun.l0 (k + 1) ((n + 1 : Nat) : Int) l p a w body = if lastB i = true then spec_l2Fun.l0 k (n : Int) l q a w body else spec_l2Fun.l0 k (n : Int) l q a w (body ++ [⟨i, j, s⟩]) := by
      intro k hk
      simp only [spec_l2Fun.l0]
      rw [if_pos (by push_cast; omega), h k (by omega)]
      simp only [Option.bind_some]
      rw [spec_InsLast_f]
      simp only [Option.bind_some]
      rw [hw, if_pos (show body.length < 4398046511104 by omega)]
    cases hlast : lastB i with
    | true =>
      obtain ⟨b, q', h1, h2, h3, h4⟩ := l2Fun_l0 l hl a w n q body (by omega) (by push_cast at hp'; omega) (by omega) hs
      refine ⟨b, q', fun k hk => ?_, ⟨by have := h2.1; omega, by have := h2.2; push_cast; omega⟩, h3, h4⟩
      obtain ⟨k, rfl, hk'⟩ := succ_of (show n + 6 < k by omega)
      rw [step k hk', hlast, if_pos rfl, h1 k hk']
    | false =>
      obtain ⟨b, q', h1, h2, h3, h4⟩ := l2Fun_l0 l hl a w n q (body ++ [⟨i, j, s⟩]) (by omega) (by push_cast at hp'; omega) (by rw [List.length_append]; simp; omega) (fun y hy => by
        rcases List.mem_append.mp hy with h | h
        · exact hs y h
        · rw [List.mem_singleton.mp h]; show s.size ≤ 7; omega)
      refine ⟨b, q', fun k hk => ?_, ⟨by have := h2.1; omega, by have := h2.2; push_cast; omega⟩, h3, h4⟩
      obtain ⟨k, rfl, hk'⟩ := succ_of (show n + 6 < k by omega)
      rw [step k hk', hlast, if_neg (by decide), h1 k hk']
theorem spec_l2Fun_f (l : List Int) (hl : Bytes l) (p : Int) (hp : 0 ≤ p) (hp' : p < 600000000000) (a : ByteArray) (ha : a.size ≤ 7) :
    ∃ (x : S41) (q : Int), (∀ k, 20 ≤ k → spec_l2Fun.f k l p a = some (x.f0, x.f1, x.f2, q)) ∧ On p q 30 ∧ SmallF 5 x := by
  obtain ⟨r, hr, _, _⟩ := spec_l13Rd_pick_f l hl p 5 hp (by omega) (by omega)
  obtain ⟨n, hn, n0, n1⟩ := spec_l13Rd_pick_f l hl (p + 1) 5 (by omega) (by omega) (by omega)
  obtain ⟨m, rfl⟩ : ∃ m : Nat, n = m := ⟨n.toNat, by omega⟩
  obtain ⟨b, q, h1, h2, h3, h4⟩ := l2Fun_l0 l hl a (r == 0) m (p + 1 + 1) [] (by omega) (by omega) (by simp; omega) (by simp)
  refine ⟨⟨a, (r == 0), b⟩, q, fun k hk => ?_, ⟨by have := h2.1; omega, by have := h2.2; omega⟩, ha, h3, h4⟩
  unfold spec_l2Fun.f
  rw [hr k (by omega)]
  simp only [Option.bind_some]
  rw [hn k (by omega)]
  simp only [Option.bind_some]
  rw [h1 k (by omega)]
theorem l2Unit_l0 (l : List Int) (hl : Bytes l) : ∀ (n : Nat) (p : Int) (u : List S41), 0 ≤ p → p + 40 * n < 500000000000 → u.length + n ≤ 3 → (1 ≤ u.length ∨ 1 ≤ n) → (∀ x ∈ u, SmallF 5 x) →
    ∃ (u' : List S41) (q : Int), (∀ k, n + 30 ≤ k → spec_l2Unit.l0 k u (n : Int) l p = some (u', q)) ∧ On p q (40 * n) ∧ 1 ≤ u'.length ∧ u'.length ≤ 3 ∧ ∀ x ∈ u', SmallF 5 x
  | 0, p, u, hp, hp', hu, h1, hs => by
    refine ⟨u, p, fun k hk => ?_, ⟨by omega, by omega⟩, by omega, by omega, hs⟩
    obtain ⟨k, rfl, _⟩ := succ_of (show 29 < k by omega)
    simp only [spec_l2Unit.l0]
    rw [if_neg (by omega)]
  | n + 1, p, u, hp, hp', hu, h1, hs => by
    obtain ⟨s, hn, hm⟩ := spec_l1Name_f l hl p hp (by omega)
    obtain ⟨x, q, hx, hq, hsm⟩ := spec_l2Fun_f l hl (p + 1) (by omega) (by omega) s (names6_size hm)
    have q0 := hq.1
    have q1 := hq.2
    have hw : wrap64 (((n + 1 : Nat) : Int) - 1) = (n : Int) := by rw [wrap_id (by omega) (by omega)]; push_cast; omega
    have step : ∀ k, n + 30 ≤ k → spec_l2Unit.l0 (k + 1) u ((n + 1 : Nat) : Int) l p = if findI u s < 0 then spec_l2Unit.l0 k (u ++ [x]) (n : Int) l q else spec_l2Unit.l0 k u (n : Int) l (p + 1) := by
      intro k hk
      simp only [spec_l2Unit.l0]
      rw [if_pos (by push_cast; omega), hn k (by omega)]
      simp only [Option.bind_some]
      rw [spec_l2Find_f u (by omega) s k (by omega)]
      simp only [Option.bind_some]
      rw [hw, hx k (by omega)]
      simp only [Option.bind_some]
      rw [if_pos (show u.length < 2932031007402 by omega)]
    by_cases hf : findI u s < 0
    · obtain ⟨u', q', g1, g2, g3, g4, g5⟩ := l2Unit_l0 l hl n q (u ++ [x]) (by omega) (by push_cast at hp'; omega) (by rw [List.length_append]; simp; omega) (.inl (by rw [List.length_append]; simp)) (fun y hy => by
        rcases List.mem_append.mp hy with h | h
        · exact hs y h
        · rw [List.mem_singleton.mp h]; exact hsm)
      refine ⟨u', q', fun k hk => ?_, ⟨by have := g2.1; omega, by have := g2.2; push_cast; omega⟩, g3, g4, g5⟩
      obtain ⟨k, rfl, hk'⟩ := succ_of (show n + 30 < k by omega)
      rw [step k hk', if_pos hf, g1 k hk']
    · have hne : 1 ≤ u.length := by
        cases u with
        | nil => exact absurd (show findI ([] : List S41) s < 0 from by unfold findI; simp [idxFrom]) hf
        | cons _ _ => simp
      obtain ⟨u', q', g1, g2, g3, g4, g5⟩ := l2Unit_l0 l hl n (p + 1) u (by omega) (by push_cast at hp'; omega) (by omega) (.inl hne) hs
      refine ⟨u', q', fun k hk => ?_, ⟨by have := g2.1; omega, by have := g2.2; push_cast; omega⟩, g3, g4, g5⟩
      obtain ⟨k, rfl, hk'⟩ := succ_of (show n + 30 < k by omega)
      rw [step k hk', if_neg hf, g1 k hk']
theorem spec_l2Unit_f (l : List Int) (hl : Bytes l) (p : Int) (hp : 0 ≤ p) (hp' : p < 400000000000) :
    ∃ (u : List S41) (q : Int), (∀ k, 40 ≤ k → spec_l2Unit.f k l p = some (u, q)) ∧ On p q 130 ∧ 1 ≤ u.length ∧ u.length ≤ 3 ∧ ∀ x ∈ u, SmallF 5 x := by
  obtain ⟨n, hn, n0, n1⟩ := spec_l13Rd_pick_f l hl p 3 hp (by omega) (by omega)
  obtain ⟨m, rfl⟩ : ∃ m : Nat, n = m := ⟨n.toNat, by omega⟩
  obtain ⟨u, q, h1, h2, h3, h4, h5⟩ := l2Unit_l0 l hl (m + 1) (p + 1) [] (by omega) (by push_cast; omega) (by simp; omega) (.inr (by omega)) (by simp)
  refine ⟨u, q, fun k hk => ?_, ⟨by have := h2.1; omega, by have := h2.2; push_cast at this; omega⟩, h3, h4, h5⟩
  unfold spec_l2Unit.f
  rw [hn k (by omega)]
  simp only [Option.bind_some]
  rw [show wrap64 (1 + (m : Int)) = ((m + 1 : Nat) : Int) from by rw [wrap_id (by omega) (by omega)]; push_cast; omega, h1 k (by omega)]
theorem SmallF.mono {n m : Nat} {x : S41} (h : SmallF n x) (hm : n ≤ m) : SmallF m x := ⟨h.1, Nat.le_trans h.2.1 hm, h.2.2⟩
theorem set_small {u : List S41} (hs : ∀ x ∈ u, SmallF 5 x) (i : Nat) (y : S41) (hy : SmallF 6 y) : ∀ x ∈ u.set i y, SmallF 6 x := fun x hx => by
  rcases List.mem_or_eq_of_mem_set hx with h | h
  · exact (hs x h).mono (by omega)
  · rw [h]; exact hy
theorem spec_l2Bent_f (l : List Int) (hl : Bytes l) (p : Int) (hp : 0 ≤ p) (hp' : p < 300000000000) :
    ∃ (u : List S41) (q : Int), (∀ k, 50 ≤ k → spec_l2Bent.f k l p = some (u, q)) ∧ On p q 150 ∧ SmallU u := by
  obtain ⟨u, q1, hu, hq1, hn1, hn2, hs⟩ := spec_l2Unit_f l hl p hp (by omega)
  have o0 := hq1.1
  have o1 := hq1.2
  obtain ⟨ix, hix, i0, i1⟩ := spec_l13Rd_pick_f l hl q1 (u.length : Int) (by omega) (by omega) (by omega)
  obtain ⟨c, hc, c0, c1⟩ := spec_l13Rd_pick_f l hl (q1 + 1) 40 (by omega) (by omega) (by omega)
  obtain ⟨s, hS, hm⟩ := spec_l13Rd_of_f l hl (q1 + 1 + 1) (by omega) (by omega) ([(⟨#[]⟩ : ByteArray), (⟨#[65]⟩ : ByteArray), (⟨#[109, 97, 105, 110]⟩ : ByteArray)] : List ByteArray) (by decide)
  have hz : s.size ≤ 7 := by
    simp only [List.mem_cons, List.not_mem_nil, or_false] at hm
    rcases hm with rfl | rfl | rfl <;> decide
  obtain ⟨b0, b1, b2, q2, hb, hq2, hbz⟩ := spec_l1Bent_f l hl (q1 + 1 + 1) (by omega) (by omega)
  have o2 := hq2.1
  have o3 := hq2.2
  have hx : SmallF 5 (rd_T41 u ix) := hs _ (getD_mem (by omega))
  have base : ∀ k, 50 ≤ k → spec_l2Bent.f k l p = if c = 0 then some (u.set ix.toNat ⟨s, (rd_T41 u ix).f1, (rd_T41 u ix).f2⟩, q1 + 1 + 1 + 1) else if c = 1 then some (u.set ix.toNat ⟨(rd_T41 u ix).f0, (rd_T41 u ix).f1, []⟩, q1 + 1 + 1) else if c = 2 then some (u.set ix.toNat ⟨(rd_T41 u ix).f0, (rd_T41 u ix).f1, (rd_T41 u ix).f2 ++ [⟨b0, b1, b2⟩]⟩, q2) else if c = 3 then some (u ++ [rd_T41 u ix], q1 + 1 + 1) else some (u, q1 + 1 + 1) := by
    intro k hk
    unfold spec_l2Bent.f
    rw [hu k (by omega)]
    simp only [Option.bind_some]
    rw [hix k (by omega)]
    simp only [Option.bind_some]
    rw [hc k (by omega)]
    simp only [Option.bind_some]
    rw [if_pos ⟨i0, i1, by omega, by have := hx.2.1; omega⟩, hS k (by omega), hb k (by omega)]
    simp only [Option.bind_some]
  by_cases e0 : c = 0
  · refine ⟨u.set ix.toNat ⟨s, (rd_T41 u ix).f1, (rd_T41 u ix).f2⟩, q1 + 1 + 1 + 1, fun k hk => by rw [base k hk, if_pos e0], ⟨by omega, by omega⟩, by rw [List.length_set]; omega, by rw [List.length_set]; omega, set_small hs _ _ ⟨hz, Nat.le_trans hx.2.1 (by omega), hx.2.2⟩⟩
  by_cases e1 : c = 1
  · refine ⟨u.set ix.toNat ⟨(rd_T41 u ix).f0, (rd_T41 u ix).f1, []⟩, q1 + 1 + 1, fun k hk => by rw [base k hk, if_neg e0, if_pos e1], ⟨by omega, by omega⟩, by rw [List.length_set]; omega, by rw [List.length_set]; omega, set_small hs _ _ ⟨hx.1, Nat.zero_le _, fun y hy => absurd hy (by simp)⟩⟩
  by_cases e2 : c = 2
  · refine ⟨u.set ix.toNat ⟨(rd_T41 u ix).f0, (rd_T41 u ix).f1, (rd_T41 u ix).f2 ++ [⟨b0, b1, b2⟩]⟩, q2, fun k hk => by rw [base k hk, if_neg e0, if_neg e1, if_pos e2], ⟨by omega, by omega⟩, by rw [List.length_set]; omega, by rw [List.length_set]; omega, set_small hs _ _ ⟨hx.1, by have := hx.2.1; rw [List.length_append]; simp; omega, fun y hy => ?_⟩⟩
    rcases List.mem_append.mp hy with h | h
    · exact hx.2.2 y h
    · rw [List.mem_singleton.mp h]; exact hbz
  by_cases e3 : c = 3
  · refine ⟨u ++ [rd_T41 u ix], q1 + 1 + 1, fun k hk => by rw [base k hk, if_neg e0, if_neg e1, if_neg e2, if_pos e3], ⟨by omega, by omega⟩, by rw [List.length_append]; simp, by rw [List.length_append]; simp; omega, fun x hx2 => ?_⟩
    rcases List.mem_append.mp hx2 with h | h
    · exact (hs x h).mono (by omega)
    · rw [List.mem_singleton.mp h]; exact hx.mono (by omega)
  · exact ⟨u, q1 + 1 + 1, fun k hk => by rw [base k hk, if_neg e0, if_neg e1, if_neg e2, if_neg e3], ⟨by omega, by omega⟩, by omega, by omega, fun x hx2 => (hs x hx2).mono (by omega)⟩
end Go.Proofs.YtajhjdhkeahlpaaDoor.L

/- Malformed units are never accepted: for every code, the law on units answers true. -/
namespace Go.Proofs.YtajhjdhkeahlpaaDoor.Pure
open Go.RowKit Go.Proofs.YtajhjdhkeahlpaaDoor.P Go.Proofs.YtajhjdhkeahlpaaDoor.L Go.Proofs.YtajhjdhkeahlpaaDoorW.PrintWords
set_option linter.unusedVariables false
theorem draw_unit (l : List Int) (hl : Bytes l) : ∃ u, (∀ k, 60 ≤ k → spec_DrawUnitOk.f k l = some u) ∧ SmallU u := by
  obtain ⟨l', e, hl', _⟩ := spec_l13Open_f l hl
  obtain ⟨u, q, h, hq, hu⟩ := spec_l2Bent_f l' hl' 0 (by decide) (by decide)
  refine ⟨u, fun k hk => ?_, hu⟩
  unfold spec_DrawUnitOk.f
  rw [e]; simp only [Option.bind_some]
  rw [h k (by omega)]; rfl
theorem allFrom_at {α : Type} (q : Nat → α → Bool) (d : α) : ∀ (l : List α) (j : Nat), allFrom q l j = true → ∀ i, i < l.length → q (j + i) (l.getD i d) = true := by
  intro l
  induction l with
  | nil => intro j _ i hi; simp at hi
  | cons x l ih =>
    intro j h i hi
    simp only [allFrom, Bool.and_eq_true] at h
    cases i with
    | zero => simpa using h.1
    | succ i =>
      have := ih (j + 1) h.2 i (by simpa using hi)
      rw [show j + (i + 1) = j + 1 + i by omega]
      exact this
theorem bad_at (l : List S41) (i : Nat) (hi : i < l.length) (h : (funOkB (l.getD i z41).f0 (l.getD i z41).f2 && (findI l (l.getD i z41).f0 == (i : Int))) = false) : unitOkB l = false := by
  cases hu : unitOkB l with
  | false => rfl
  | true =>
    unfold unitOkB at hu
    rw [Bool.and_eq_true] at hu
    have h2 := allFrom_at _ z41 l 0 hu.1 i hi
    rw [Nat.zero_add] at h2
    have h3 : (funOkB (l.getD i z41).f0 (l.getD i z41).f2 && (findI l (l.getD i z41).f0 == (i : Int))) = true := h2
    rw [h] at h3
    exact absurd h3 (by decide)
theorem bad_last (u : List S41) (x : S41) (h : funOkB x.f0 x.f2 = false) : unitOkB (u ++ [x]) = false := by
  refine bad_at (u ++ [x]) u.length (by simp) ?_
  have e : (u ++ [x]).getD u.length z41 = x := by simp
  rw [e, h, Bool.false_and]
theorem bad_twice (u : List S41) (h : 1 ≤ u.length) : unitOkB (u ++ u) = false := by
  refine bad_at (u ++ u) u.length (by simp; omega) ?_
  cases u with
  | nil => simp at h
  | cons x l =>
    have e : ((x :: l) ++ (x :: l)).getD (x :: l).length z41 = x := by
      rw [List.getD_eq_getElem?_getD, List.getElem?_append_right (Nat.le_refl _), Nat.sub_self]; rfl
    have e2 : findI ((x :: l) ++ (x :: l)) x.f0 = 0 := by
      unfold findI
      simp [idxFrom, named]
    have e3 : ((0 : Int) == (((x :: l).length : Nat) : Int)) = false := by
      rw [beq_eq_false_iff_ne]
      simp only [List.length_cons]
      omega
    rw [e, e2, e3, Bool.and_false]
theorem zz_say : funOkB (⟨#[122, 122]⟩ : ByteArray) [(⟨1, 0, (⟨#[]⟩ : ByteArray)⟩ : S26)] = false := by
  unfold funOkB
  rw [show lastB (([(⟨1, 0, (⟨#[]⟩ : ByteArray)⟩ : S26)].getD ([(⟨1, 0, (⟨#[]⟩ : ByteArray)⟩ : S26)].length - 1) z26).f0) = false from rfl, Bool.and_false, Bool.and_false, Bool.and_false]
theorem zz_none : funOkB (⟨#[122, 122]⟩ : ByteArray) ([] : List S26) = false := by
  unfold funOkB
  rw [show decide (1 ≤ ((([] : List S26).length : Nat) : Int)) = false from rfl, Bool.false_and, Bool.false_and, Bool.and_false]
theorem FnUnitBent : laws_FnUnitBent.Pure := by
  intro l _ _ hw
  unfold laws_FnUnitBent.f
  by_cases h : (l.length : Int) > 1048576
  · exact ⟨1, by rw [if_pos h]⟩
  obtain ⟨u, hd, hu⟩ := draw_unit l ⟨by omega, hw⟩
  have hf := hu.fit
  have hn := hu.2.1
  have hn1 := hu.1
  obtain ⟨K, hK⟩ : ∃ K : Nat, 1000000000000000 ≤ K := ⟨_, Nat.le_refl _⟩
  refine ⟨K + 3, ?_⟩
  rw [if_neg h]
  simp only [laws_FnUnitBent.j0]
  rw [hd _ (by omega)]
  simp only [Option.bind_some]
  rw [impl_UnitOk_f u (by omega) hf _ (by omega), spec_UnitOk_f u (by omega) hf _ (by omega)]
  simp only [Option.bind_some, bne_self_eq_false, Bool.false_eq_true, if_false]
  simp only [laws_FnUnitBent.j1]
  rw [impl_UnitOk_f u (by omega) hf _ (by omega), spec_UnitOk_f u (by omega) hf _ (by omega)]
  simp only [Option.bind_some, BEq.rfl, if_true]
  cases hok : unitOkB u with
  | false =>
    rw [if_pos (by decide), if_neg (by decide)]
    unfold impl_UnitText.f
    rw [if_pos ⟨by omega, hf, hok⟩]
    simp only [Option.bind_some]
    rw [Lib.toList_data]
    rfl
  | true =>
    rw [if_neg (by decide)]
    simp only [laws_FnUnitBent.j2, Option.bind_some, List.nil_append, List.length_nil, Nat.zero_add]
    rw [if_pos (by omega), if_pos (by omega), if_pos (by omega), if_pos (by omega), if_pos (by omega), if_pos (by omega)]
    have f1 : ∀ x ∈ u ++ u, FitF x := fun x hx => (List.mem_append.mp hx).elim (hf x) (hf x)
    have f2 : ∀ b, ∀ x ∈ u ++ [(⟨(⟨#[122, 122]⟩ : ByteArray), false, b⟩ : S41)], b.length ≤ 1 → (∀ y ∈ b, y.f2.size = 0) → FitF x := fun b x hx hb hy => (List.mem_append.mp hx).elim (hf x) (fun h => by
      rw [List.mem_singleton] at h
      subst h
      exact ⟨by show (⟨#[122, 122]⟩ : ByteArray).size ≤ 140737488351232; decide, by show b.length ≤ _; omega, fun y h => by have := hy y h; omega⟩)
    rw [impl_UnitOk_f (u ++ u) (by rw [List.length_append]; omega) f1 _ (by rw [List.length_append]; omega), bad_twice u hn1]
    simp only [Option.bind_some]
    rw [if_pos (by
      have : ((u.length : Int) == 0) = false := by rw [beq_eq_false_iff_ne]; omega
      rw [this]; rfl)]
    rw [impl_UnitOk_f _ (by rw [List.length_append]; simp; omega) (fun x hx => f2 _ x hx (by decide) (fun y hy => by rw [List.mem_singleton] at hy; subst hy; rfl)) _ (by rw [List.length_append]; simp; omega), bad_last u _ zz_say]
    simp only [Option.bind_some, Bool.false_eq_true, if_false]
    rw [impl_UnitOk_f _ (by rw [List.length_append]; simp; omega) (fun x hx => f2 _ x hx (by decide) (fun y hy => by cases hy)) _ (by rw [List.length_append]; simp; omega), bad_last u _ zz_none]
    simp only [Option.bind_some, Bool.false_eq_true, if_false]
    rw [if_pos (by omega), List.take_zero, impl_UnitOk_f [] (by simp) (fun x hx => by cases hx) _ (by simp; omega)]
    simp only [Option.bind_some]
    rfl
end Go.Proofs.YtajhjdhkeahlpaaDoor.Pure
