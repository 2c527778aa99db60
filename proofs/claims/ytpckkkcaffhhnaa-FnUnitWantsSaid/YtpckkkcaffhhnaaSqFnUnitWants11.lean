-- LDraw, PxspecUnitFind, LUnit, LDrawU, LOrd, LRun, LPut, PxspecFunRefs, LRefs, LLack, LWants, LUWants, PureFnUnitWants: put together by squash.py
import Derived.Test.YtpckkkcaffhhnaaSqFnUnitWants6
import Derived.Test.YtpckkkcaffhhnaaSqFnUnitWants8
import Derived.Test.YtpckkkcaffhhnaaSqFnUnitWants7
import Derived.Test.YtpckkkcaffhhnaaSqFnUnitWants3
import Derived.Test.YtpckkkcaffhhnaaSqFnUnitWants4
import Derived.Test.YtpckkkcaffhhnaaSqFnUnitWants9
import Derived.Test.YtpckkkcaffhhnaaSqFnUnitWants5
import Derived.Lib.RowBridge
import Derived.Sort.Walk0
import Derived.Test.YtpckkkcaffhhnaaSqFnUnitWants10

/- What the drawing functions compute: a code is read byte by byte; each pick is within its range. -/
namespace Go.Proofs.Ytpckkkcaffhhnaa.L
open Go.RowKit Go.Proofs.YtpckkkcaffhhnaaW.PrintWords Go.Proofs.YtpckkkcaffhhnaaW.PrintLast Go.Proofs.YtpckkkcaffhhnaaW.PrintMore Go.Proofs.Ytpckkkcaffhhnaa.P
set_option linter.unusedVariables false
set_option linter.unusedSimpArgs false

/-- The bytes of a code. -/
def Bytes (l : List Int) : Prop := l.length ≤ 1048576 ∧ ∀ x ∈ l, (Lit.int .u8 x).wf = true
/-- A place to read on from: nowhere near an overflow. -/
def Place (p : Int) : Prop := 0 ≤ p ∧ p < 1000000000000
theorem Bytes.take {l : List Int} (h : Bytes l) (n : Nat) : Bytes (l.take n) :=
  ⟨Nat.le_trans (by rw [List.length_take]; omega) h.1, fun x hx => h.2 x (List.mem_of_mem_take hx)⟩

theorem spec_l13Open_f (l : List Int) (h : Bytes l) : ∃ l', spec_l13Open.f l = some (l', 0) ∧ Bytes l' ∧ l'.length ≤ 2000 := by
  unfold spec_l13Open.f
  by_cases c : (l.length : Int) > 2000
  · rw [if_pos c, if_pos (by omega)]
    exact ⟨_, rfl, h.take 2000, by rw [List.length_take]; omega⟩
  · rw [if_neg c]
    exact ⟨l, rfl, h, by omega⟩
/-- The number that is made past the end of a code: some number, not negative. -/
theorem mixed (l : List Int) (hl : Bytes l) (h0 : 0 < l.length) (p : Int) (hp : 0 ≤ p) (hp' : p < 1000000000000) (x y q : Int) (hx : 0 ≤ x ∧ x ≤ 255) (hy : 0 ≤ y ∧ y ≤ 255) (hq : 0 ≤ q ∧ q ≤ p) :
    ∃ z, wrap64 ((wrap64 ((wrap64 ((wrap64 (x * 131)) + (wrap64 (y * 1117)))) + (wrap64 (p * 29)))) + (wrap64 (q * 53))) = z ∧ 0 ≤ z ∧ z < 1000000000000000 := by
  refine ⟨x * 131 + y * 1117 + p * 29 + q * 53, ?_, by omega, by omega⟩
  rw [wrap_id (n := x * 131) (by omega) (by omega), wrap_id (n := y * 1117) (by omega) (by omega), wrap_id (n := p * 29) (by omega) (by omega), wrap_id (n := q * 53) (by omega) (by omega),
    wrap_id (n := x * 131 + y * 1117) (by omega) (by omega), wrap_id (n := x * 131 + y * 1117 + p * 29) (by omega) (by omega), wrap_id (n := x * 131 + y * 1117 + p * 29 + q * 53) (by omega) (by omega)]
theorem spec_l13Rd_pick_f (l : List Int) (hl : Bytes l) (p n : Int) (hp : 0 ≤ p) (hp' : p < 1000000000000) (hn : 1 ≤ n) :
    ∃ r, (∀ k, 1 ≤ k → spec_l13Rd_pick.f k l p n = some (r, p + 1)) ∧ 0 ≤ r ∧ r < n := by
  have e1 : wrap64 (p + 1) = p + 1 := wrap_id (by omega) (by omega)
  have e2 : wrap64 (p + 1 - 1) = p := by rw [show p + 1 - 1 = p by omega]; exact wrap_id (by omega) (by omega)
  by_cases h0 : l.length = 0
  · refine ⟨0, fun k hk => ?_, by omega, by omega⟩
    obtain ⟨m, rfl, _⟩ := succ_of hk
    unfold spec_l13Rd_pick.f
    rw [if_neg (by omega), e1]
    simp only [spec_l13Rd_pick.j0]
    rw [if_pos (by rw [h0]; rfl)]
  · have hb : ((l.length : Int) == 0) = false := beq_eq_false_iff_ne.mpr (by omega)
    by_cases c : p < (l.length : Int)
    · have hb2 := rd_byte hl.2 p
      refine ⟨Int.tmod (rd l p) n, fun k hk => ?_, tmod_small hb2.1 hn⟩
      obtain ⟨m, rfl, _⟩ := succ_of hk
      unfold spec_l13Rd_pick.f
      rw [if_neg (by omega), e1, hb]
      simp only [spec_l13Rd_pick.j0]
      rw [if_neg (by decide), e2, if_pos c, if_pos hp, if_neg (by omega), wrap_id (n := rd l p) (by omega) (by omega)]
    · have hL : (1 : Int) ≤ l.length := by omega
      have t1 := tmod_small hp hL
      have h7 : wrap64 (p * 7) = p * 7 := wrap_id (by omega) (by omega)
      have h73 : wrap64 (p * 7 + 3) = p * 7 + 3 := wrap_id (by omega) (by omega)
      have t2 := tmod_small (a := p * 7 + 3) (by omega) hL
      have b1 := rd_byte hl.2 (Int.tmod p l.length)
      have b2 := rd_byte hl.2 (Int.tmod (p * 7 + 3) l.length)
      have q1 := tdiv_small hp hL
      have w1 := wrap_id (n := rd l (Int.tmod p l.length)) (by omega) (by omega)
      have w2 := wrap_id (n := rd l (Int.tmod (p * 7 + 3) l.length)) (by omega) (by omega)
      have w3 := wrap_id (n := Int.tdiv p l.length) (by omega) (by omega)
      obtain ⟨z, hz, z0, z1⟩ := mixed l hl (by omega) p hp hp' _ _ _ b1 b2 q1
      have q2 := tdiv_small (a := z) (n := 64) z0 (by omega)
      have w4 := wrap_id (n := Int.tdiv z 64) (by omega) (by omega)
      have x1 := xor_nonneg z (Int.tdiv z 64) z0 (by omega) q2.1 (by omega)
      refine ⟨Int.tmod (Go.bits .xor .i64 z (Int.tdiv z 64)) n, fun k hk => ?_, tmod_small x1.1 hn⟩
      obtain ⟨m, rfl, _⟩ := succ_of hk
      unfold spec_l13Rd_pick.f
      rw [if_neg (by omega), e1, hb]
      simp only [spec_l13Rd_pick.j0]
      rw [if_neg (by decide), e2, if_neg c, if_neg (by omega), if_pos t1.1, if_pos t1.2, h7, h73, if_pos t2.1, if_pos t2.2, if_neg (by omega), w1, w2, w3, hz, w4]
theorem spec_l13Rd_num_f (l : List Int) (hl : Bytes l) (p : Int) (hp : 0 ≤ p) (hp' : p < 1000000000000) (xs : List Int) (hx : 0 < xs.length) :
    ∃ r, (∀ k, 1 ≤ k → spec_l13Rd_num.f k l p xs = some (r, p + 1)) ∧ r ∈ xs := by
  obtain ⟨r, hr, r0, r1⟩ := spec_l13Rd_pick_f l hl p xs.length hp hp' (by omega)
  refine ⟨rd xs r, fun k hk => ?_, ?_⟩
  · unfold spec_l13Rd_num.f
    rw [hr k hk]
    simp only [Option.bind_some]
    rw [if_pos r0, if_pos r1]
  · unfold rd
    rw [List.getD_eq_getElem?_getD, List.getElem?_eq_getElem (by omega)]
    exact List.getElem_mem _
theorem spec_l13Rd_of_f (l : List Int) (hl : Bytes l) (p : Int) (hp : 0 ≤ p) (hp' : p < 1000000000000) (xs : List ByteArray) (hx : 0 < xs.length) :
    ∃ r, (∀ k, 1 ≤ k → spec_l13Rd_of.f k l p xs = some (r, p + 1)) ∧ r ∈ xs := by
  obtain ⟨r, hr, r0, r1⟩ := spec_l13Rd_pick_f l hl p xs.length hp hp' (by omega)
  refine ⟨rdOf ByteArray.empty xs r, fun k hk => ?_, ?_⟩
  · unfold spec_l13Rd_of.f
    rw [hr k hk]
    simp only [Option.bind_some]
    rw [if_pos r0, if_pos r1]
  · unfold rdOf
    rw [List.getD_eq_getElem?_getD, List.getElem?_eq_getElem (by omega)]
    exact List.getElem_mem _
def names6 : List ByteArray := [(⟨#[97]⟩ : ByteArray), (⟨#[98]⟩ : ByteArray), (⟨#[99]⟩ : ByteArray), (⟨#[100]⟩ : ByteArray), (⟨#[109, 97, 105, 110]⟩ : ByteArray), (⟨#[101]⟩ : ByteArray)]
theorem spec_l1Name_f (l : List Int) (hl : Bytes l) (p : Int) (hp : 0 ≤ p) (hp' : p < 1000000000000) :
    ∃ r, (∀ k, 1 ≤ k → spec_l1Name.f k l p = some (r, p + 1)) ∧ r ∈ names6 := by
  obtain ⟨r, hr, hm⟩ := spec_l13Rd_of_f l hl p hp hp' names6 (by decide)
  refine ⟨r, fun k hk => ?_, hm⟩
  unfold spec_l1Name.f
  have e := hr k hk
  unfold names6 at e
  rw [e]
  rfl
/-- A place further on, at most n places. -/
def On (p q : Int) (n : Int) : Prop := p ≤ q ∧ q ≤ p + n
theorem spec_l1Ins_f (l : List Int) (hl : Bytes l) (p : Int) (hp : 0 ≤ p) (hp' : p < 900000000000) :
    ∃ a b s q, (∀ k, 4 ≤ k → spec_l1Ins.f k l p = some (a, b, s, q)) ∧ On p q 2 ∧ s.size ≤ 4 := by
  obtain ⟨r, hr, r0, r1⟩ := spec_l13Rd_pick_f l hl p 8 hp (by omega) (by omega)
  obtain ⟨n1, hn1, _⟩ := spec_l13Rd_num_f l hl (p + 1) (by omega) (by omega) [1, (-1), 2, 5, (-3)] (by decide)
  obtain ⟨n2, hn2, _⟩ := spec_l13Rd_num_f l hl (p + 1) (by omega) (by omega) [6, 6, 7, 4] (by decide)
  obtain ⟨s1, hs1, hm1⟩ := spec_l1Name_f l hl (p + 1) (by omega) (by omega)
  have hz1 : s1.size ≤ 4 := by
    simp only [names6, List.mem_cons, List.not_mem_nil, or_false] at hm1
    rcases hm1 with rfl | rfl | rfl | rfl | rfl | rfl <;> decide
  have j2 : ∀ k, 1 ≤ k → ∀ b, ∃ a' b' s' q', (spec_l1Ins.j2 (k + 1) r b l (p + 1) = some (a', b', s', q')) ∧ On p q' 2 ∧ s'.size ≤ 4 ∧ ((b = true ∧ a' = 3 ∧ b' = 0 ∧ s' = s1 ∧ q' = p + 1 + 1) ∨ (b = false ∧ r = 6 ∧ a' = 5 ∧ b' = 0 ∧ s' = s1 ∧ q' = p + 1 + 1) ∨ (b = false ∧ r ≠ 6 ∧ a' = n2 ∧ b' = 0 ∧ s' = ⟨#[]⟩ ∧ q' = p + 1 + 1)) := by
    intro k hk b
    simp only [spec_l1Ins.j2]
    rw [hs1 k hk, hn2 k hk]
    cases b with
    | true => exact ⟨3, 0, s1, p + 1 + 1, rfl, ⟨by omega, by omega⟩, hz1, .inl ⟨rfl, rfl, rfl, rfl, rfl⟩⟩
    | false =>
      by_cases h6 : r = 6
      · exact ⟨5, 0, s1, p + 1 + 1, by rw [if_neg (by decide), if_pos h6]; rfl, ⟨by omega, by omega⟩, hz1, .inr (.inl ⟨rfl, h6, rfl, rfl, rfl, rfl⟩)⟩
      · exact ⟨n2, 0, ⟨#[]⟩, p + 1 + 1, by rw [if_neg (by decide), if_neg h6]; rfl, ⟨by omega, by omega⟩, by decide, .inr (.inr ⟨rfl, h6, rfl, rfl, rfl, rfl⟩)⟩
  -- which of the ways it goes hangs on r alone
  by_cases h01 : r = 0 ∨ r = 1
  · refine ⟨1, 0, ⟨#[]⟩, p + 1, fun k hk => ?_, ⟨by omega, by omega⟩, by decide⟩
    obtain ⟨m, rfl, _⟩ := succ_of (d := 3) hk
    unfold spec_l1Ins.f
    rw [hr _ (by omega)]
    simp only [Option.bind_some, spec_l1Ins.j0]
    rcases h01 with rfl | rfl <;> rfl
  · by_cases h23 : r = 2 ∨ r = 3
    · refine ⟨2, n1, ⟨#[]⟩, p + 1 + 1, fun k hk => ?_, ⟨by omega, by omega⟩, by decide⟩
      obtain ⟨m, rfl, hm⟩ := succ_of (d := 3) hk
      obtain ⟨m, rfl, hm2⟩ := succ_of (d := 2) hm
      unfold spec_l1Ins.f
      rw [hr _ (by omega)]
      simp only [Option.bind_some, spec_l1Ins.j0, spec_l1Ins.j1]
      rw [hn1 m (by omega)]
      rcases h23 with rfl | rfl <;> rfl
    · by_cases h45 : r = 4 ∨ r = 5
      · refine ⟨3, 0, s1, p + 1 + 1, fun k hk => ?_, ⟨by omega, by omega⟩, hz1⟩
        obtain ⟨m, rfl, hm⟩ := succ_of (d := 3) hk
        obtain ⟨m, rfl, hm2⟩ := succ_of (d := 2) hm
        obtain ⟨m, rfl, hm3⟩ := succ_of (d := 1) hm2
        unfold spec_l1Ins.f
        rw [hr _ (by omega)]
        simp only [Option.bind_some, spec_l1Ins.j0, spec_l1Ins.j1, spec_l1Ins.j2]
        rw [hs1 m (by omega)]
        rcases h45 with rfl | rfl <;> rfl
      · obtain ⟨a', b', s', q', _, hon, hsz, hwhat⟩ := j2 1 (Nat.le_refl _) false
        refine ⟨a', b', s', q', fun k hk => ?_, hon, hsz⟩
        obtain ⟨m, rfl, hm⟩ := succ_of (d := 3) hk
        obtain ⟨m, rfl, hm2⟩ := succ_of (d := 2) hm
        obtain ⟨m, rfl, hm3⟩ := succ_of (d := 1) hm2
        unfold spec_l1Ins.f
        rw [hr _ (by omega)]
        have e1 : (r == 1) = false := beq_eq_false_iff_ne.mpr (by omega)
        have e3 : (r == 3) = false := beq_eq_false_iff_ne.mpr (by omega)
        have e5 : (r == 5) = false := beq_eq_false_iff_ne.mpr (by omega)
        simp only [Option.bind_some]
        rw [if_neg (by omega), e1]
        simp only [spec_l1Ins.j0]
        rw [if_neg (by decide), if_neg (by omega), e3]
        simp only [spec_l1Ins.j1]
        rw [if_neg (by decide), if_neg (by omega), e5]
        simp only [spec_l1Ins.j2]
        rw [if_neg (by decide), hs1 m (by omega), hn2 m (by omega)]
        rcases hwhat with ⟨h, _⟩ | ⟨_, h6, rfl, rfl, rfl, rfl⟩ | ⟨_, h6, rfl, rfl, rfl, rfl⟩
        · exact absurd h (by decide)
        · rw [if_pos h6]; rfl
        · rw [if_neg h6]; rfl
theorem spec_l1Right_f (l : List Int) (hl : Bytes l) (p : Int) (hp : 0 ≤ p) (hp' : p < 900000000000) :
    ∃ a b s q, (∀ k, 4 ≤ k → spec_l1Right.f k l p = some (a, b, s, q)) ∧ On p q 3 ∧ s.size ≤ 4 := by
  obtain ⟨a, b, s, q, h, hq, hs⟩ := spec_l1Ins_f l hl p hp hp'
  by_cases c : a = 4
  · obtain ⟨s2, h2, hm⟩ := spec_l1Name_f l hl q (by have := hq.1; omega) (by have := hq.2; omega)
    refine ⟨a, b, s2, q + 1, fun k hk => ?_, ⟨by have := hq.1; omega, by have := hq.2; omega⟩, ?_⟩
    · unfold spec_l1Right.f
      rw [h k hk]
      simp only [Option.bind_some]
      rw [if_pos c, h2 k (by omega)]
      rfl
    · simp only [names6, List.mem_cons, List.not_mem_nil, or_false] at hm
      rcases hm with rfl | rfl | rfl | rfl | rfl | rfl <;> decide
  · refine ⟨a, b, s, q, fun k hk => ?_, ⟨hq.1, by have := hq.2; omega⟩, hs⟩
    unfold spec_l1Right.f
    rw [h k hk]
    simp only [Option.bind_some]
    rw [if_neg c]
theorem spec_l1Bent_f (l : List Int) (hl : Bytes l) (p : Int) (hp : 0 ≤ p) (hp' : p < 900000000000) :
    ∃ a b s q, (∀ k, 4 ≤ k → spec_l1Bent.f k l p = some (a, b, s, q)) ∧ On p q 5 ∧ s.size ≤ 7 := by
  obtain ⟨a, b, s, q, h, hq, hs⟩ := spec_l1Right_f l hl p hp hp'
  have q0 := hq.1
  have q1 := hq.2
  obtain ⟨r, hr, r0, r1⟩ := spec_l13Rd_pick_f l hl q 30 (by omega) (by omega) (by omega)
  obtain ⟨n1, hn1, _⟩ := spec_l13Rd_num_f l hl (q + 1) (by omega) (by omega) [0, 8, (-1), 1] (by decide)
  obtain ⟨n2, hn2, _⟩ := spec_l13Rd_num_f l hl (q + 1) (by omega) (by omega) [1, 1000, 1001] (by decide)
  obtain ⟨s1, hs1, hm1⟩ := spec_l13Rd_of_f l hl (q + 1) (by omega) (by omega) [(⟨#[65]⟩ : ByteArray), (⟨#[97, 98, 99, 100, 101, 102, 103]⟩ : ByteArray), (⟨#[97, 32, 98]⟩ : ByteArray), (⟨#[120]⟩ : ByteArray)] (by decide)
  have hz1 : s1.size ≤ 7 := by
    simp only [List.mem_cons, List.not_mem_nil, or_false] at hm1
    rcases hm1 with rfl | rfl | rfl | rfl <;> decide
  by_cases c0 : r = 0
  · refine ⟨n1, b, s, q + 1 + 1, fun k hk => ?_, ⟨by omega, by omega⟩, by omega⟩
    unfold spec_l1Bent.f
    rw [h k hk]; simp only [Option.bind_some]
    rw [hr k (by omega)]; simp only [Option.bind_some]
    rw [if_pos c0, hn1 k (by omega)]; rfl
  · by_cases c1 : r = 1
    · refine ⟨a, n2, s, q + 1 + 1, fun k hk => ?_, ⟨by omega, by omega⟩, by omega⟩
      unfold spec_l1Bent.f
      rw [h k hk]; simp only [Option.bind_some]
      rw [hr k (by omega)]; simp only [Option.bind_some]
      rw [if_neg c0, if_pos c1, hn2 k (by omega)]; rfl
    · by_cases c2 : r = 2
      · refine ⟨a, b, s1, q + 1 + 1, fun k hk => ?_, ⟨by omega, by omega⟩, hz1⟩
        unfold spec_l1Bent.f
        rw [h k hk]; simp only [Option.bind_some]
        rw [hr k (by omega)]; simp only [Option.bind_some]
        rw [if_neg c0, if_neg c1, if_pos c2, hs1 k (by omega)]; rfl
      · refine ⟨a, b, s, q + 1, fun k hk => ?_, ⟨by omega, by omega⟩, by omega⟩
        unfold spec_l1Bent.f
        rw [h k hk]; simp only [Option.bind_some]
        rw [hr k (by omega)]; simp only [Option.bind_some]
        rw [if_neg c0, if_neg c1, if_neg c2]
end Go.Proofs.Ytpckkkcaffhhnaa.L

-- made by printx.py (own driver over the kit's print); Lean checks it
namespace Go.Proofs.Ytpckkkcaffhhnaa.P
open Go.RowKit Go.Proofs.YtpckkkcaffhhnaaW.PrintWords Go.Proofs.YtpckkkcaffhhnaaW.PrintLast Go.Proofs.YtpckkkcaffhhnaaW.PrintMore
attribute [local go_sem] max2_int min2_int max_two min_two max_three min_three max_four min_four   -- for this text's walks alone
set_option linter.unusedVariables false
set_option linter.unusedSimpArgs false

/-! ### spec_UnitFind: function 17 -/
def spec_UnitFind.f (k : Nat) (l0 : List (S30)) (a1 : ByteArray) : Option (Int) := (spec_UnitOk.f k l0).bind fun t255 => (if t255 = true then ((spec_l2Find.f k l0 a1).bind fun t256 => (some t256)) else (some (-1)))
end Go.Proofs.Ytpckkkcaffhhnaa.P

/- When a unit is ok, and where its functions are: what the printed functions of both sides compute. -/
namespace Go.Proofs.Ytpckkkcaffhhnaa.L
open Go.RowKit Go.Proofs.YtpckkkcaffhhnaaW.PrintWords Go.Proofs.YtpckkkcaffhhnaaW.PrintLast Go.Proofs.YtpckkkcaffhhnaaW.PrintMore Go.Proofs.Ytpckkkcaffhhnaa.P
set_option linter.unusedVariables false
set_option linter.unusedSimpArgs false
/-- No text of the function is too long for an argument. -/
def FitI (x : S38) : Prop := x.f2.size ≤ 140737488351232
def FitF (x : S30) : Prop := x.f0.size ≤ 140737488351232 ∧ x.f2.length ≤ 140737488351232 ∧ ∀ y ∈ x.f2, y.f2.size ≤ 140737488351232
def named (a : ByteArray) (x : S30) : Bool := x.f0.toList == a.toList
def findI (l : List S30) (a : ByteArray) : Int := idxFrom (named a) l 0
def unitGood (l : List S30) : Bool := allFrom (fun i x => funOkB x.f0 x.f2 && (findI l x.f0 == (i : Int))) l 0
def unitOkB (l : List S30) : Bool := unitGood l && decide (l.length ≤ 5)
theorem impl_FunOk_f (x : S30) (h : FitF x) : impl_FunOk.f x.f0 x.f1 x.f2 = some (funOkB x.f0 x.f2) := by
  unfold impl_FunOk.f
  rw [if_pos ⟨h.1, h.2.2⟩]
theorem spec_FunOk_l0 (x : S30) (h : FitF x) (k : Nat) (hk : 140737488351236 + x.f2.length < k) : spec_FunOk.l0 k (x.f2.length : Int) 0 x.f0 x.f1 x.f2 = some (!(x.f2.any fun y => !insOkB y.f0 y.f1 y.f2)) := by
  have e := loop_all (fun _ (y : S38) => insOkB y.f0 y.f1 y.f2) z38 x.f2 true (by have := h.2.1; omega) (fun k i => spec_FunOk.l0 k (x.f2.length : Int) i x.f0 x.f1 x.f2) 140737488351236 ?_ ?_ ?_ k hk
  · rw [e, allFrom_all, Bool.and_true, all_not_any]
  · intro k i hK hi hq
    simp only [spec_FunOk.l0]
    have e := spec_InsOk_f (rd_T38 x.f2 (i : Int)).f0 (rd_T38 x.f2 (i : Int)).f1 (rd_T38 x.f2 (i : Int)).f2 (h.2.2 _ (getD_mem hi)) k (by have : (rd_T38 x.f2 (i : Int)).f2.size ≤ 140737488351232 := h.2.2 _ (getD_mem hi); omega)
    rw [show insOkB (rd_T38 x.f2 (i : Int)).f0 (rd_T38 x.f2 (i : Int)).f1 (rd_T38 x.f2 (i : Int)).f2 = true from hq] at e
    rw [if_pos (by omega), if_pos (by omega), if_pos (by omega), e]
    rfl
  · intro k i hK hi hq
    simp only [spec_FunOk.l0]
    have e := spec_InsOk_f (rd_T38 x.f2 (i : Int)).f0 (rd_T38 x.f2 (i : Int)).f1 (rd_T38 x.f2 (i : Int)).f2 (h.2.2 _ (getD_mem hi)) k (by have : (rd_T38 x.f2 (i : Int)).f2.size ≤ 140737488351232 := h.2.2 _ (getD_mem hi); omega)
    rw [show insOkB (rd_T38 x.f2 (i : Int)).f0 (rd_T38 x.f2 (i : Int)).f1 (rd_T38 x.f2 (i : Int)).f2 = false from hq] at e
    rw [if_pos (by omega), if_pos (by omega), if_pos (by omega), e]
    rfl
  · intro k hK
    simp only [spec_FunOk.l0]
    rw [if_neg (by omega)]
theorem spec_FunOk_f (x : S30) (h : FitF x) (k : Nat) (hk : 140737488351240 + x.f2.length < k) : spec_FunOk.f k x.f0 x.f1 x.f2 = some (funOkB x.f0 x.f2) := by
  obtain ⟨m, rfl⟩ : ∃ m, k = m + 1 := ⟨k - 1, by omega⟩
  have hs := h.1
  have hl := h.2.1
  unfold spec_FunOk.f funOkB
  rw [spec_NameOk_f x.f0 h.1 _ (by omega)]
  simp only [Option.bind_some]
  have j (b : Bool) : spec_FunOk.j0 (m + 1) (x.f2.length : Int) b x.f0 x.f1 x.f2 = some (!b && !(x.f2.any fun y => !insOkB y.f0 y.f1 y.f2)) := by
    simp only [spec_FunOk.j0]
    cases b with
    | true => rfl
    | false => rw [if_neg (by decide), spec_FunOk_l0 x h m (by omega)]; rfl
  cases nameOk x.f0 with
  | false => rw [if_neg (by decide), j]; rfl
  | true =>
    rw [if_pos rfl]
    by_cases h1 : (x.f2.length : Int) < 1
    · have e1 : decide (1 ≤ (x.f2.length : Int)) = false := decide_eq_false (by omega)
      rw [if_pos h1, j, e1]; rfl
    · rw [if_neg h1]
      have e1 : decide (1 ≤ (x.f2.length : Int)) = true := decide_eq_true (by omega)
      by_cases h2 : (x.f2.length : Int) > 10
      · have e2 : decide ((x.f2.length : Int) ≤ 10) = false := decide_eq_false (by omega)
        rw [if_pos h2, j, e1, e2]; rfl
      · rw [if_neg h2]
        have e2 : decide ((x.f2.length : Int) ≤ 10) = true := decide_eq_true (by omega)
        have w : wrap64 ((x.f2.length : Int) - 1) = (x.f2.length : Int) - 1 := wrap_id (by omega) (by omega)
        rw [w, if_pos (by omega), if_pos (by omega), spec_InsLast_f]
        simp only [Option.bind_some]
        rw [j, e1, e2]
        have e3 : (rd_T38 x.f2 ((x.f2.length : Int) - 1)) = x.f2.getD (x.f2.length - 1) z38 := by
          unfold rd_T38
          rw [show ((x.f2.length : Int) - 1).toNat = x.f2.length - 1 by omega]
        rw [e3]
        simp [Bool.and_comm]
theorem spec_l2Find_f (l : List S30) (hn : l.length ≤ 9223372036854775807) (a : ByteArray) (k : Nat) (hk : l.length < k) : spec_l2Find.f k l a = some (findI l a) := by
  unfold spec_l2Find.f findI
  refine loop_idx (named a) z30 l hn (fun k i => spec_l2Find.l0 k l a i) 0 ?_ ?_ ?_ k (by omega)
  · intro k i _ hi hq
    simp only [spec_l2Find.l0]
    rw [if_pos (by omega), if_pos (by omega), if_pos (show (rd_T30 l (i : Int)).f0.toList = a.toList from beq_iff_eq.mp hq)]
  · intro k i _ hi hq
    simp only [spec_l2Find.l0]
    rw [if_pos (by omega), if_pos (by omega), if_neg (show ¬ (rd_T30 l (i : Int)).f0.toList = a.toList from beq_eq_false_iff_ne.mp hq)]
  · intro k _
    simp only [spec_l2Find.l0]
    rw [if_neg (by omega)]
theorem spec_UnitOk_f (l : List S30) (hn : l.length ≤ 140737488351232) (hx : ∀ x ∈ l, FitF x) (k : Nat) (hk : 500000000000000 ≤ k) : spec_UnitOk.f k l = some (unitOkB l) := by
  unfold spec_UnitOk.f unitOkB
  have ed : decide ((l.length : Int) ≤ 5) = decide (l.length ≤ 5) := by congr 1; exact propext ⟨fun h => by omega, fun h => by omega⟩
  rw [← ed]
  have step : ∀ (k i : Nat), 300000000000000 ≤ k → i < l.length → spec_UnitOk.l0 (k + 1) l (i : Int) = if (funOkB (l.getD i z30).f0 (l.getD i z30).f2 && (findI l (l.getD i z30).f0 == (i : Int))) = true then spec_UnitOk.l0 k l (wrap64 ((i : Int) + 1)) else some false := by
    intro k i hK hi
    simp only [spec_UnitOk.l0]
    have hf := hx _ (getD_mem (d := z30) hi)
    have hl2 := hf.2.1
    have e := spec_FunOk_f (rd_T30 l (i : Int)) hf k (by have e0 : rd_T30 l (i : Int) = l.getD i z30 := rfl; rw [e0]; omega)
    rw [if_pos (by omega), if_pos (by omega), e]
    simp only [Option.bind_some]
    show (if funOkB (l.getD i z30).f0 (l.getD i z30).f2 = true then _ else _) = _
    cases funOkB (l.getD i z30).f0 (l.getD i z30).f2 with
    | false => rfl
    | true =>
      rw [if_pos rfl, spec_l2Find_f l (by omega) _ k (by omega)]
      simp only [Option.bind_some, Bool.true_and]
      show (if findI l (l.getD i z30).f0 = (i : Int) then _ else _) = _
      by_cases hq : findI l (l.getD i z30).f0 = (i : Int)
      · rw [if_pos hq, if_pos (beq_iff_eq.mpr hq)]
      · rw [if_neg hq, if_neg (by rw [beq_eq_false_iff_ne.mpr hq]; decide)]
  refine loop_all (fun i x => funOkB x.f0 x.f2 && (findI l x.f0 == (i : Int))) z30 l (decide ((l.length : Int) ≤ 5)) (by omega) (fun k i => spec_UnitOk.l0 k l i) 300000000000000 ?_ ?_ ?_ k (by omega)
  · intro k i hK hi hq
    show spec_UnitOk.l0 (k + 1) l (i : Int) = _
    rw [step k i hK hi, if_pos hq]
  · intro k i hK hi hq
    show spec_UnitOk.l0 (k + 1) l (i : Int) = _
    rw [step k i hK hi, if_neg (by rw [hq]; decide)]
  · intro k _
    simp only [spec_UnitOk.l0]
    rw [if_neg (by omega)]
theorem impl_funsOk_f (l : List S30) (hn : l.length ≤ 140737488351232) (hx : ∀ x ∈ l, FitF x) (k : Nat) (hk : l.length < k) : impl_funsOk.f k l = some (unitGood l) := by
  unfold impl_funsOk.f
  have step : ∀ (k i : Nat), i < l.length → impl_funsOk.l0 (k + 1) l l (l.length : Int) (i : Int) = if (funOkB (l.getD i z30).f0 (l.getD i z30).f2 && (findI l (l.getD i z30).f0 == (i : Int))) = true then impl_funsOk.l0 k l l (l.length : Int) (wrap64 ((i : Int) + 1)) else some false := by
    intro k i hi
    simp only [impl_funsOk.l0]
    have hf := hx _ (getD_mem (d := z30) hi)
    have e := impl_FunOk_f (rd_T30 l (i : Int)) hf
    rw [if_pos (by omega), if_pos (by omega), if_pos (by omega), e]
    simp only [Option.bind_some]
    show (if funOkB (l.getD i z30).f0 (l.getD i z30).f2 = true then _ else _) = _
    cases funOkB (l.getD i z30).f0 (l.getD i z30).f2 with
    | false => rfl
    | true =>
      rw [if_pos rfl]
      simp only [impl_find.f, Option.bind_some, Bool.true_and]
      show (if findI l (l.getD i z30).f0 = (i : Int) then _ else _) = _
      by_cases hq : findI l (l.getD i z30).f0 = (i : Int)
      · rw [if_pos hq, if_pos (beq_iff_eq.mpr hq)]
      · rw [if_neg hq, if_neg (by rw [beq_eq_false_iff_ne.mpr hq]; decide)]
  have e := loop_all (fun i x => funOkB x.f0 x.f2 && (findI l x.f0 == (i : Int))) z30 l true (by omega) (fun k i => impl_funsOk.l0 k l l (l.length : Int) i) 0 ?_ ?_ ?_ k (by omega)
  · rw [e, Bool.and_true]; rfl
  · intro k i hK hi hq
    show impl_funsOk.l0 (k + 1) l l (l.length : Int) (i : Int) = _
    rw [step k i hi, if_pos hq]
  · intro k i hK hi hq
    show impl_funsOk.l0 (k + 1) l l (l.length : Int) (i : Int) = _
    rw [step k i hi, if_neg (by rw [hq]; decide)]
  · intro k _
    simp only [impl_funsOk.l0]
    rw [if_neg (by omega)]
theorem impl_UnitOk_f (l : List S30) (hn : l.length ≤ 140737488351232) (hx : ∀ x ∈ l, FitF x) (k : Nat) (hk : l.length < k) : impl_UnitOk.f k l = some (unitOkB l) := by
  unfold impl_UnitOk.f unitOkB
  by_cases h : l.length ≤ 5
  · rw [if_pos (by omega), impl_funsOk_f l hn hx k hk]
    simp [h]
  · rw [if_neg (by omega)]
    simp [h]
def unitFindI (l : List S30) (a : ByteArray) : Int := if unitOkB l = true then findI l a else -1
theorem impl_UnitFind_f (l : List S30) (hn : l.length ≤ 140737488351232) (hx : ∀ x ∈ l, FitF x) (a : ByteArray) (k : Nat) (hk : l.length < k) : impl_UnitFind.f k l a = some (unitFindI l a) := by
  unfold impl_UnitFind.f unitFindI
  rw [impl_UnitOk_f l hn hx k hk]
  simp only [Option.bind_some]
  split <;> rfl
end Go.Proofs.Ytpckkkcaffhhnaa.L

/- What the drawing functions of units draw: some unit, small. -/
namespace Go.Proofs.Ytpckkkcaffhhnaa.L
open Go.RowKit Go.Proofs.YtpckkkcaffhhnaaW.PrintWords Go.Proofs.YtpckkkcaffhhnaaW.PrintLast Go.Proofs.YtpckkkcaffhhnaaW.PrintMore Go.Proofs.Ytpckkkcaffhhnaa.P
set_option linter.unusedVariables false
set_option linter.unusedSimpArgs false
/-- A function with a small name, at most n instructions, all with small names. -/
def SmallF (n : Nat) (x : S30) : Prop := x.f0.size ≤ 7 ∧ x.f2.length ≤ n ∧ ∀ y ∈ x.f2, y.f2.size ≤ 7
def SmallU (u : List S30) : Prop := 1 ≤ u.length ∧ u.length ≤ 4 ∧ ∀ x ∈ u, SmallF 6 x
theorem SmallF.fit {n : Nat} {x : S30} (h : SmallF n x) (hn : n ≤ 1000) : FitF x := ⟨by have := h.1; omega, by have := h.2.1; omega, fun y hy => by have := h.2.2 y hy; omega⟩
theorem SmallU.fit {u : List S30} (h : SmallU u) : ∀ x ∈ u, FitF x := fun x hx => (h.2.2 x hx).fit (by omega)
theorem names6_size {s : ByteArray} (h : s ∈ names6) : s.size ≤ 7 := by
  simp only [names6, List.mem_cons, List.not_mem_nil, or_false] at h
  rcases h with rfl | rfl | rfl | rfl | rfl | rfl <;> decide
theorem l2Fun_end (l : List Int) (hl : Bytes l) (a : ByteArray) (w : Bool) (p : Int) (body : List S38) (hp : 0 ≤ p) (hp' : p < 800000000000) (hb : body.length ≤ 4) (hs : ∀ y ∈ body, y.f2.size ≤ 7) :
    ∃ (body' : List S38) (q : Int), (∀ k, 2 ≤ k → spec_l2Fun.l0 k 0 l p a w body = some (a, w, body', q)) ∧ On p q 2 ∧ body'.length ≤ 5 ∧ ∀ y ∈ body', y.f2.size ≤ 7 := by
  obtain ⟨r, hr, r0, r1⟩ := spec_l13Rd_pick_f l hl p 6 hp (by omega) (by omega)
  obtain ⟨s, hn, hm⟩ := spec_l1Name_f l hl (p + 1) (by omega) (by omega)
  have hz := names6_size hm
  have app : ∀ i : S38, i.f2.size ≤ 7 → ∀ y ∈ body ++ [i], y.f2.size ≤ 7 := fun i hi y hy => by
    rcases List.mem_append.mp hy with h | h
    · exact hs y h
    · rw [List.mem_singleton.mp h]; exact hi
  by_cases h0 : r = 0
  · refine ⟨body ++ [⟨4, 0, s⟩], p + 1 + 1, fun k hk => ?_, ⟨by omega, by omega⟩, by rw [List.length_append]; simp; omega, app _ hz⟩
    obtain ⟨k, rfl, _⟩ := succ_of (d := 1) hk
    simp only [spec_l2Fun.l0]
    rw [if_neg (by omega), hr k (by omega)]
    simp only [Option.bind_some]
    rw [if_pos h0, hn k (by omega)]
    simp only [Option.bind_some]
    rw [if_pos (by omega)]
  · by_cases h1 : r = 1
    · refine ⟨body ++ [⟨7, 0, ⟨#[]⟩⟩], p + 1, fun k hk => ?_, ⟨by omega, by omega⟩, by rw [List.length_append]; simp; omega, app _ (by decide)⟩
      obtain ⟨k, rfl, _⟩ := succ_of (d := 1) hk
      simp only [spec_l2Fun.l0]
      rw [if_neg (by omega), hr k (by omega)]
      simp only [Option.bind_some]
      rw [if_neg h0, if_pos h1, if_pos (by omega)]
    · refine ⟨body ++ [⟨6, 0, ⟨#[]⟩⟩], p + 1, fun k hk => ?_, ⟨by omega, by omega⟩, by rw [List.length_append]; simp; omega, app _ (by decide)⟩
      obtain ⟨k, rfl, _⟩ := succ_of (d := 1) hk
      simp only [spec_l2Fun.l0]
      rw [if_neg (by omega), hr k (by omega)]
      simp only [Option.bind_some]
      rw [if_neg h0, if_neg h1, if_pos (by omega)]
theorem l2Fun_l0 (l : List Int) (hl : Bytes l) (a : ByteArray) (w : Bool) : ∀ (n : Nat) (p : Int) (body : List S38), 0 ≤ p → p + 4 * n < 700000000000 → body.length + n ≤ 4 → (∀ y ∈ body, y.f2.size ≤ 7) →
    ∃ (body' : List S38) (q : Int), (∀ k, n + 6 ≤ k → spec_l2Fun.l0 k (n : Int) l p a w body = some (a, w, body', q)) ∧ On p q (4 * n + 2) ∧ body'.length ≤ 5 ∧ ∀ y ∈ body', y.f2.size ≤ 7
  | 0, p, body, hp, hp', hb, hs => by
    obtain ⟨b, q, h1, h2, h3, h4⟩ := l2Fun_end l hl a w p body hp (by omega) (by omega) hs
    exact ⟨b, q, fun k hk => h1 k (by omega), ⟨h2.1, by have := h2.2; omega⟩, h3, h4⟩
  | n + 1, p, body, hp, hp', hb, hs => by
    obtain ⟨i, j, s, q, h, hq, hz⟩ := spec_l1Right_f l hl p hp (by omega)
    have q0 := hq.1
    have q1 := hq.2
    have hw : wrap64 (((n + 1 : Nat) : Int) - 1) = (n : Int) := by rw [wrap_id (by omega) (by omega)]; push_cast; omega
    have step : ∀ k, n + 6 ≤ k → spec_l2Fun.l0 (k + 1) ((n + 1 : Nat) : Int) l p a w body = if lastB i = true then spec_l2Fun.l0 k (n : Int) l q a w body else spec_l2Fun.l0 k (n : Int) l q a w (body ++ [⟨i, j, s⟩]) := by
      intro k hk
      simp only [spec_l2Fun.l0]
      rw [if_pos (by push_cast; omega), h k (by omega)]
      simp only [Option.bind_some]
      rw [spec_InsLast_f]
      simp only [Option.bind_some]
      rw [hw, if_pos (show body.length < 4398046511104 by omega)]
    cases hlast : lastB i with
    | true =>
      obtain ⟨b, q', h1, h2, h3, h4⟩ := l2Fun_l0 l hl a w n q body (by omega) (by push_cast at hp'; omega) (by omega) hs
      refine ⟨b, q', fun k hk => ?_, ⟨by have := h2.1; omega, by have := h2.2; push_cast; omega⟩, h3, h4⟩
      obtain ⟨k, rfl, hk'⟩ := succ_of (show n + 6 < k by omega)
      rw [step k hk', hlast, if_pos rfl, h1 k hk']
    | false =>
      obtain ⟨b, q', h1, h2, h3, h4⟩ := l2Fun_l0 l hl a w n q (body ++ [⟨i, j, s⟩]) (by omega) (by push_cast at hp'; omega) (by rw [List.length_append]; simp; omega) (fun y hy => by
        rcases List.mem_append.mp hy with h | h
        · exact hs y h
        · rw [List.mem_singleton.mp h]; show s.size ≤ 7; omega)
      refine ⟨b, q', fun k hk => ?_, ⟨by have := h2.1; omega, by have := h2.2; push_cast; omega⟩, h3, h4⟩
      obtain ⟨k, rfl, hk'⟩ := succ_of (show n + 6 < k by omega)
      rw [step k hk', hlast, if_neg (by decide), h1 k hk']
theorem spec_l2Fun_f (l : List Int) (hl : Bytes l) (p : Int) (hp : 0 ≤ p) (hp' : p < 600000000000) (a : ByteArray) (ha : a.size ≤ 7) :
    ∃ (x : S30) (q : Int), (∀ k, 20 ≤ k → spec_l2Fun.f k l p a = some (x.f0, x.f1, x.f2, q)) ∧ On p q 30 ∧ SmallF 5 x := by
  obtain ⟨r, hr, _, _⟩ := spec_l13Rd_pick_f l hl p 5 hp (by omega) (by omega)
  obtain ⟨n, hn, n0, n1⟩ := spec_l13Rd_pick_f l hl (p + 1) 5 (by omega) (by omega) (by omega)
  obtain ⟨m, rfl⟩ : ∃ m : Nat, n = m := ⟨n.toNat, by omega⟩
  obtain ⟨b, q, h1, h2, h3, h4⟩ := l2Fun_l0 l hl a (r == 0) m (p + 1 + 1) [] (by omega) (by omega) (by simp; omega) (by simp)
  refine ⟨⟨a, (r == 0), b⟩, q, fun k hk => ?_, ⟨by have := h2.1; omega, by have := h2.2; omega⟩, ha, h3, h4⟩
  unfold spec_l2Fun.f
  rw [hr k (by omega)]
  simp only [Option.bind_some]
  rw [hn k (by omega)]
  simp only [Option.bind_some]
  rw [h1 k (by omega)]
theorem l2Unit_l0 (l : List Int) (hl : Bytes l) : ∀ (n : Nat) (p : Int) (u : List S30), 0 ≤ p → p + 40 * n < 500000000000 → u.length + n ≤ 3 → (1 ≤ u.length ∨ 1 ≤ n) → (∀ x ∈ u, SmallF 5 x) →
    ∃ (u' : List S30) (q : Int), (∀ k, n + 30 ≤ k → spec_l2Unit.l0 k u (n : Int) l p = some (u', q)) ∧ On p q (40 * n) ∧ 1 ≤ u'.length ∧ u'.length ≤ 3 ∧ ∀ x ∈ u', SmallF 5 x
  | 0, p, u, hp, hp', hu, h1, hs => by
    refine ⟨u, p, fun k hk => ?_, ⟨by omega, by omega⟩, by omega, by omega, hs⟩
    obtain ⟨k, rfl, _⟩ := succ_of (show 29 < k by omega)
    simp only [spec_l2Unit.l0]
    rw [if_neg (by omega)]
  | n + 1, p, u, hp, hp', hu, h1, hs => by
    obtain ⟨s, hn, hm⟩ := spec_l1Name_f l hl p hp (by omega)
    obtain ⟨x, q, hx, hq, hsm⟩ := spec_l2Fun_f l hl (p + 1) (by omega) (by omega) s (names6_size hm)
    have q0 := hq.1
    have q1 := hq.2
    have hw : wrap64 (((n + 1 : Nat) : Int) - 1) = (n : Int) := by rw [wrap_id (by omega) (by omega)]; push_cast; omega
    have step : ∀ k, n + 30 ≤ k → spec_l2Unit.l0 (k + 1) u ((n + 1 : Nat) : Int) l p = if findI u s < 0 then spec_l2Unit.l0 k (u ++ [x]) (n : Int) l q else spec_l2Unit.l0 k u (n : Int) l (p + 1) := by
      intro k hk
      simp only [spec_l2Unit.l0]
      rw [if_pos (by push_cast; omega), hn k (by omega)]
      simp only [Option.bind_some]
      rw [spec_l2Find_f u (by omega) s k (by omega)]
      simp only [Option.bind_some]
      rw [hw, hx k (by omega)]
      simp only [Option.bind_some]
      rw [if_pos (show u.length < 2932031007402 by omega)]
    by_cases hf : findI u s < 0
    · obtain ⟨u', q', g1, g2, g3, g4, g5⟩ := l2Unit_l0 l hl n q (u ++ [x]) (by omega) (by push_cast at hp'; omega) (by rw [List.length_append]; simp; omega) (.inl (by rw [List.length_append]; simp)) (fun y hy => by
        rcases List.mem_append.mp hy with h | h
        · exact hs y h
        · rw [List.mem_singleton.mp h]; exact hsm)
      refine ⟨u', q', fun k hk => ?_, ⟨by have := g2.1; omega, by have := g2.2; push_cast; omega⟩, g3, g4, g5⟩
      obtain ⟨k, rfl, hk'⟩ := succ_of (show n + 30 < k by omega)
      rw [step k hk', if_pos hf, g1 k hk']
    · have hne : 1 ≤ u.length := by
        cases u with
        | nil => exact absurd (show findI ([] : List S30) s < 0 from by unfold findI; simp [idxFrom]) hf
        | cons _ _ => simp
      obtain ⟨u', q', g1, g2, g3, g4, g5⟩ := l2Unit_l0 l hl n (p + 1) u (by omega) (by push_cast at hp'; omega) (by omega) (.inl hne) hs
      refine ⟨u', q', fun k hk => ?_, ⟨by have := g2.1; omega, by have := g2.2; push_cast; omega⟩, g3, g4, g5⟩
      obtain ⟨k, rfl, hk'⟩ := succ_of (show n + 30 < k by omega)
      rw [step k hk', if_neg hf, g1 k hk']
theorem spec_l2Unit_f (l : List Int) (hl : Bytes l) (p : Int) (hp : 0 ≤ p) (hp' : p < 400000000000) :
    ∃ (u : List S30) (q : Int), (∀ k, 40 ≤ k → spec_l2Unit.f k l p = some (u, q)) ∧ On p q 130 ∧ 1 ≤ u.length ∧ u.length ≤ 3 ∧ ∀ x ∈ u, SmallF 5 x := by
  obtain ⟨n, hn, n0, n1⟩ := spec_l13Rd_pick_f l hl p 3 hp (by omega) (by omega)
  obtain ⟨m, rfl⟩ : ∃ m : Nat, n = m := ⟨n.toNat, by omega⟩
  obtain ⟨u, q, h1, h2, h3, h4, h5⟩ := l2Unit_l0 l hl (m + 1) (p + 1) [] (by omega) (by push_cast; omega) (by simp; omega) (.inr (by omega)) (by simp)
  refine ⟨u, q, fun k hk => ?_, ⟨by have := h2.1; omega, by have := h2.2; push_cast at this; omega⟩, h3, h4, h5⟩
  unfold spec_l2Unit.f
  rw [hn k (by omega)]
  simp only [Option.bind_some]
  rw [show wrap64 (1 + (m : Int)) = ((m + 1 : Nat) : Int) from by rw [wrap_id (by omega) (by omega)]; push_cast; omega, h1 k (by omega)]
theorem SmallF.mono {n m : Nat} {x : S30} (h : SmallF n x) (hm : n ≤ m) : SmallF m x := ⟨h.1, Nat.le_trans h.2.1 hm, h.2.2⟩
theorem set_small {u : List S30} (hs : ∀ x ∈ u, SmallF 5 x) (i : Nat) (y : S30) (hy : SmallF 6 y) : ∀ x ∈ u.set i y, SmallF 6 x := fun x hx => by
  rcases List.mem_or_eq_of_mem_set hx with h | h
  · exact (hs x h).mono (by omega)
  · rw [h]; exact hy
theorem spec_l2Bent_f (l : List Int) (hl : Bytes l) (p : Int) (hp : 0 ≤ p) (hp' : p < 300000000000) :
    ∃ (u : List S30) (q : Int), (∀ k, 50 ≤ k → spec_l2Bent.f k l p = some (u, q)) ∧ On p q 150 ∧ SmallU u := by
  obtain ⟨u, q1, hu, hq1, hn1, hn2, hs⟩ := spec_l2Unit_f l hl p hp (by omega)
  have o0 := hq1.1
  have o1 := hq1.2
  obtain ⟨ix, hix, i0, i1⟩ := spec_l13Rd_pick_f l hl q1 (u.length : Int) (by omega) (by omega) (by omega)
  obtain ⟨c, hc, c0, c1⟩ := spec_l13Rd_pick_f l hl (q1 + 1) 40 (by omega) (by omega) (by omega)
  obtain ⟨s, hS, hm⟩ := spec_l13Rd_of_f l hl (q1 + 1 + 1) (by omega) (by omega) ([(⟨#[]⟩ : ByteArray), (⟨#[65]⟩ : ByteArray), (⟨#[109, 97, 105, 110]⟩ : ByteArray)] : List ByteArray) (by decide)
  have hz : s.size ≤ 7 := by
    simp only [List.mem_cons, List.not_mem_nil, or_false] at hm
    rcases hm with rfl | rfl | rfl <;> decide
  obtain ⟨b0, b1, b2, q2, hb, hq2, hbz⟩ := spec_l1Bent_f l hl (q1 + 1 + 1) (by omega) (by omega)
  have o2 := hq2.1
  have o3 := hq2.2
  have hx : SmallF 5 (rd_T30 u ix) := hs _ (getD_mem (by omega))
  have base : ∀ k, 50 ≤ k → spec_l2Bent.f k l p = if c = 0 then some (u.set ix.toNat ⟨s, (rd_T30 u ix).f1, (rd_T30 u ix).f2⟩, q1 + 1 + 1 + 1) else if c = 1 then some (u.set ix.toNat ⟨(rd_T30 u ix).f0, (rd_T30 u ix).f1, []⟩, q1 + 1 + 1) else if c = 2 then some (u.set ix.toNat ⟨(rd_T30 u ix).f0, (rd_T30 u ix).f1, (rd_T30 u ix).f2 ++ [⟨b0, b1, b2⟩]⟩, q2) else if c = 3 then some (u ++ [rd_T30 u ix], q1 + 1 + 1) else some (u, q1 + 1 + 1) := by
    intro k hk
    unfold spec_l2Bent.f
    rw [hu k (by omega)]
    simp only [Option.bind_some]
    rw [hix k (by omega)]
    simp only [Option.bind_some]
    rw [hc k (by omega)]
    simp only [Option.bind_some]
    rw [if_pos ⟨i0, i1, by omega, by have := hx.2.1; omega⟩, hS k (by omega), hb k (by omega)]
    simp only [Option.bind_some]
  by_cases e0 : c = 0
  · refine ⟨u.set ix.toNat ⟨s, (rd_T30 u ix).f1, (rd_T30 u ix).f2⟩, q1 + 1 + 1 + 1, fun k hk => by rw [base k hk, if_pos e0], ⟨by omega, by omega⟩, by rw [List.length_set]; omega, by rw [List.length_set]; omega, set_small hs _ _ ⟨hz, Nat.le_trans hx.2.1 (by omega), hx.2.2⟩⟩
  by_cases e1 : c = 1
  · refine ⟨u.set ix.toNat ⟨(rd_T30 u ix).f0, (rd_T30 u ix).f1, []⟩, q1 + 1 + 1, fun k hk => by rw [base k hk, if_neg e0, if_pos e1], ⟨by omega, by omega⟩, by rw [List.length_set]; omega, by rw [List.length_set]; omega, set_small hs _ _ ⟨hx.1, Nat.zero_le _, fun y hy => absurd hy (by simp)⟩⟩
  by_cases e2 : c = 2
  · refine ⟨u.set ix.toNat ⟨(rd_T30 u ix).f0, (rd_T30 u ix).f1, (rd_T30 u ix).f2 ++ [⟨b0, b1, b2⟩]⟩, q2, fun k hk => by rw [base k hk, if_neg e0, if_neg e1, if_pos e2], ⟨by omega, by omega⟩, by rw [List.length_set]; omega, by rw [List.length_set]; omega, set_small hs _ _ ⟨hx.1, by have := hx.2.1; rw [List.length_append]; simp; omega, fun y hy => ?_⟩⟩
    rcases List.mem_append.mp hy with h | h
    · exact hx.2.2 y h
    · rw [List.mem_singleton.mp h]; exact hbz
  by_cases e3 : c = 3
  · refine ⟨u ++ [rd_T30 u ix], q1 + 1 + 1, fun k hk => by rw [base k hk, if_neg e0, if_neg e1, if_neg e2, if_pos e3], ⟨by omega, by omega⟩, by rw [List.length_append]; simp, by rw [List.length_append]; simp; omega, fun x hx2 => ?_⟩
    rcases List.mem_append.mp hx2 with h | h
    · exact (hs x h).mono (by omega)
    · rw [List.mem_singleton.mp h]; exact hx.mono (by omega)
  · exact ⟨u, q1 + 1 + 1, fun k hk => by rw [base k hk, if_neg e0, if_neg e1, if_neg e2, if_neg e3], ⟨by omega, by omega⟩, by omega, by omega, fun x hx2 => (hs x hx2).mono (by omega)⟩
end Go.Proofs.Ytpckkkcaffhhnaa.L

/- Texts put among others one by one, and texts sorted, each once: the same. -/
namespace Go.Proofs.Ytpckkkcaffhhnaa.L
open Go Go.Sort
abbrev B := List UInt8
theorem sort_pw (l : List B) : (l.mergeSort fun x y => decide (x ≤ y)).Pairwise (fun x y => x ≤ y) := by
  have := List.pairwise_mergeSort (le := fun x y : B => decide (x ≤ y)) (fun a b c h k => by simp only [decide_eq_true_eq] at *; exact List.le_trans h k) (fun a b => by simp only [Bool.or_eq_true, decide_eq_true_eq]; exact List.le_total a b) l
  exact this.imp (fun h => by simpa using h)
theorem pw_get {d : Array B} (h : d.toList.Pairwise (fun x y => x ≤ y)) {i j : Nat} (hij : i ≤ j) (hj : j < d.size) : d[i]! ≤ d[j]! := by
  rw [getElem!_pos d i (by omega), getElem!_pos d j hj]
  by_cases e : i = j
  · subst e; exact List.le_refl _
  · have := List.pairwise_iff_getElem.mp h i j (by simpa using (by omega : i < d.size)) (by simpa using hj) (by omega)
    simpa using this
theorem comp_ok (d : Array B) (h : d.toList.Pairwise (fun x y => x ≤ y)) : ∀ m, m ≤ d.size → (Lib.compactUpTo d m).Pairwise (fun x y => x < y) ∧ ∀ x, x ∈ Lib.compactUpTo d m ↔ ∃ j, j < m ∧ d[j]! = x := by
  intro m
  induction m with
  | zero => intro _; exact ⟨by simp [Lib.compactUpTo], by simp [Lib.compactUpTo]⟩
  | succ m ih =>
    intro hm
    obtain ⟨i1, i2⟩ := ih (by omega)
    rw [Lib.compactUpTo_succ]
    by_cases hk : Lib.keeps d m = true
    · rw [if_pos hk]
      refine ⟨List.pairwise_append.mpr ⟨i1, by simp, fun x hx y hy => ?_⟩, fun x => ?_⟩
      · obtain ⟨j, hj, rfl⟩ := (i2 x).mp hx
        obtain rfl := List.mem_singleton.mp hy
        simp only [Lib.keeps, decide_eq_true_eq] at hk
        rcases hk with hk | hk
        · omega
        · have h1 : d[j]! ≤ d[m - 1]! := pw_get h (by omega) (by omega)
          have h2 : d[m - 1]! ≤ d[m]! := pw_get h (by omega) (by omega)
          rcases List.le_iff_lt_or_eq.mp h2 with h3 | h3
          · exact List.lt_of_le_of_lt h1 h3
          · exact absurd h3.symm hk
      · rw [List.mem_append, i2, List.mem_singleton]
        constructor
        · rintro (⟨j, hj, rfl⟩ | rfl)
          · exact ⟨j, by omega, rfl⟩
          · exact ⟨m, by omega, rfl⟩
        · rintro ⟨j, hj, rfl⟩
          by_cases e : j = m
          · subst e; exact .inr rfl
          · exact .inl ⟨j, by omega, rfl⟩
    · rw [if_neg hk, List.append_nil]
      refine ⟨i1, fun x => ?_⟩
      rw [i2]
      simp only [Lib.keeps, decide_eq_true_eq, not_or, Decidable.not_not] at hk
      constructor
      · rintro ⟨j, hj, rfl⟩; exact ⟨j, by omega, rfl⟩
      · rintro ⟨j, hj, rfl⟩
        by_cases e : j = m
        · subst e; exact ⟨j - 1, by omega, hk.2.symm⟩
        · exact ⟨j, by omega, rfl⟩
theorem eq_of_pw : ∀ (l m : List B), l.Pairwise (fun x y => x < y) → m.Pairwise (fun x y => x < y) → (∀ x, x ∈ l ↔ x ∈ m) → l = m
  | [], [], _, _, _ => rfl
  | [], y :: m, _, _, h => by have := (h y).mpr (List.mem_cons_self); simp at this
  | x :: l, [], _, _, h => by have := (h x).mp (List.mem_cons_self); simp at this
  | x :: l, y :: m, hl, hm, h => by
    have hl' := List.pairwise_cons.mp hl
    have hm' := List.pairwise_cons.mp hm
    have hxy : x = y := by
      rcases List.mem_cons.mp ((h x).mp List.mem_cons_self) with e | e
      · exact e
      · rcases List.mem_cons.mp ((h y).mpr List.mem_cons_self) with e2 | e2
        · exact e2.symm
        · exact absurd (List.lt_trans (hl'.1 y e2) (hm'.1 x e)) (List.lt_irrefl x)
    subst hxy
    rw [eq_of_pw l m hl'.2 hm'.2 (fun z => by
      constructor
      · intro hz
        rcases List.mem_cons.mp ((h z).mp (List.mem_cons_of_mem _ hz)) with e | e
        · subst e; exact absurd (hl'.1 z hz) (List.lt_irrefl z)
        · exact e
      · intro hz
        rcases List.mem_cons.mp ((h z).mpr (List.mem_cons_of_mem _ hz)) with e | e
        · subst e; exact absurd (hm'.1 z hz) (List.lt_irrefl z)
        · exact e)]
/-- A text put among others, in order, once. -/
def putL (l : List B) (s : B) : List B :=
  match l with
  | [] => [s]
  | x :: l => if x < s then x :: putL l s else if x = s then x :: l else s :: x :: l
theorem put_mem (s : B) : ∀ (l : List B) (x : B), x ∈ putL l s ↔ x = s ∨ x ∈ l
  | [], x => by simp [putL]
  | y :: l, x => by
    unfold putL
    split
    · rw [List.mem_cons, put_mem s l x, List.mem_cons]; constructor <;> (rintro (h | h | h) <;> simp [h])
    · split
      · rename_i h; subst h; simp
      · simp
theorem put_pw (s : B) : ∀ (l : List B), l.Pairwise (fun x y => x < y) → (putL l s).Pairwise (fun x y => x < y)
  | [], _ => by simp [putL]
  | y :: l, h => by
    have h' := List.pairwise_cons.mp h
    unfold putL
    split
    · rename_i hy
      refine List.pairwise_cons.mpr ⟨fun z hz => ?_, put_pw s l h'.2⟩
      rcases (put_mem s l z).mp hz with rfl | hz
      · exact hy
      · exact h'.1 z hz
    · split
      · exact h
      · rename_i h1 h2
        have hs : s < y := by
          rcases List.le_iff_lt_or_eq.mp (List.not_lt.mp h1) with e | e
          · exact e
          · exact absurd e.symm h2
        refine List.pairwise_cons.mpr ⟨fun z hz => ?_, h⟩
        rcases List.mem_cons.mp hz with rfl | hz
        · exact hs
        · exact List.lt_trans hs (h'.1 z hz)
/-- One by one, or sorted and each once: the same. -/
theorem put_all (ns : List B) : ns.foldl putL [] = Lib.compact (ns.mergeSort fun x y => decide (x ≤ y)) := by
  have key : ∀ (ns acc : List B), acc.Pairwise (fun x y => x < y) → (ns.foldl putL acc).Pairwise (fun x y => x < y) ∧ ∀ x, x ∈ ns.foldl putL acc ↔ x ∈ acc ∨ x ∈ ns := by
    intro ns
    induction ns with
    | nil => intro acc h; exact ⟨h, by simp⟩
    | cons a ns ih =>
      intro acc h
      obtain ⟨h1, h2⟩ := ih (putL acc a) (put_pw a acc h)
      refine ⟨h1, fun x => ?_⟩
      rw [List.foldl, h2, put_mem, List.mem_cons]
      constructor
      · rintro ((h | h) | h) <;> simp [h]
      · rintro (h | h | h) <;> simp [h]
  obtain ⟨k1, k2⟩ := key ns [] List.Pairwise.nil
  have hs := sort_pw ns
  obtain ⟨c1, c2⟩ := comp_ok (ns.mergeSort fun x y => decide (x ≤ y)).toArray (by simpa using hs) (ns.mergeSort fun x y => decide (x ≤ y)).length (by simp)
  refine eq_of_pw _ _ k1 c1 (fun x => ?_)
  rw [k2]
  unfold Lib.compact
  rw [c2, ← List.mem_mergeSort (le := fun x y : B => decide (x ≤ y)) (l := ns) (a := x)]
  constructor
  · rintro (h | h)
    · simp at h
    · obtain ⟨j, hj, rfl⟩ := List.mem_iff_getElem.mp h
      exact ⟨j, hj, by rw [getElem!_pos _ _ (by simpa using hj)]; simp⟩
  · rintro ⟨j, hj, rfl⟩
    refine .inr ?_
    rw [getElem!_pos _ _ (by simpa using hj)]
    simp
end Go.Proofs.Ytpckkkcaffhhnaa.L

/- Loops over a list with a state, told once. -/
namespace Go.Proofs.Ytpckkkcaffhhnaa.L
open Go.RowKit Go.Proofs.YtpckkkcaffhhnaaW.PrintWords Go.Proofs.YtpckkkcaffhhnaaW.PrintLast Go.Proofs.YtpckkkcaffhhnaaW.PrintMore Go.Proofs.Ytpckkkcaffhhnaa.P
set_option linter.unusedVariables false
set_option linter.unusedSimpArgs false
/-- A walk over a list with a state, that may end early. -/
def runS {α σ β : Type} (f : Nat → α → σ → σ ⊕ β) (E : σ → β) : List α → Nat → σ → β
  | [], _, s => E s
  | x :: l, i, s => match f i x s with
    | .inl s' => runS f E l (i + 1) s'
    | .inr r => r
theorem loop_run {α σ β : Type} (f : Nat → α → σ → σ ⊕ β) (E : Nat → σ → β) (I : Nat → σ → Prop) (d : α) (l : List α) (hn : l.length ≤ 9223372036854775806) (L : Nat → σ → Int → β) (K : Nat)
    (hS : ∀ (k i : Nat) (s : σ), K ≤ k → i < l.length → I i s → L (k + 1) s (i : Int) = match f i (l.getD i d) s with | .inl s' => L k s' (wrap64 ((i : Int) + 1)) | .inr r => r)
    (hI : ∀ (i : Nat) (s s' : σ), i < l.length → I i s → f i (l.getD i d) s = .inl s' → I (i + 1) s')
    (hE : ∀ (k : Nat) (s : σ), K ≤ k → I l.length s → L (k + 1) s (l.length : Int) = E k s) (k : Nat) (hk : K + l.length < k) (s : σ) (h0 : I 0 s) : L k s 0 = runS f (E (k - l.length - 1)) l 0 s := by
  have key : ∀ (n k i : Nat) (s : σ), i + n = l.length → K + n < k → I i s → L k s (i : Int) = runS f (E (k - n - 1)) (l.drop i) i s := by
    intro n
    induction n with
    | zero =>
      intro k i s hi hk hs
      obtain ⟨k, rfl, _⟩ := succ_of hk
      have : i = l.length := by omega
      subst this
      rw [hE k s (by omega) hs, List.drop_length]
      rfl
    | succ n ih =>
      intro k i s hi hk hs
      obtain ⟨k, rfl, _⟩ := succ_of hk
      rw [hS k i s (by omega) (by omega) hs, drop_getD l d i (by omega)]
      simp only [runS]
      cases hf : f i (l.getD i d) s with
      | inr r => rfl
      | inl s' =>
        simp only
        rw [wrap_id (by omega) (by omega)]
        have h2 := ih k (i + 1) s' (by omega) (by omega) (hI i s s' (by omega) hs hf)
        rw [show k + 1 - (n + 1) - 1 = k - n - 1 by omega, ← h2]
        rfl
  have h := key l.length k 0 s (by omega) hk h0
  simpa using h
/-- A loop whose rounds hold loops: each takes up to c more rounds of fuel. -/
theorem loop_var {α σ β : Type} (f : Nat → α → σ → σ ⊕ β) (E : σ → β) (I : Nat → σ → Prop) (d : α) (l : List α) (hn : l.length ≤ 9223372036854775806) (L : Nat → σ → Int → β) (K c : Nat)
    (hS : ∀ (k i : Nat) (s : σ), K ≤ k → i < l.length → I i s → match f i (l.getD i d) s with
      | .inl s' => I (i + 1) s' ∧ ∃ k', k ≤ k' + c ∧ L (k + 1) s (i : Int) = L k' s' (wrap64 ((i : Int) + 1))
      | .inr r => L (k + 1) s (i : Int) = r)
    (hE : ∀ (k : Nat) (s : σ), K ≤ k → I l.length s → L (k + 1) s (l.length : Int) = E s) (k : Nat) (hk : K + l.length * (c + 1) < k) (s : σ) (h0 : I 0 s) : L k s 0 = runS f E l 0 s := by
  have key : ∀ (n k i : Nat) (s : σ), i + n = l.length → K + n * (c + 1) < k → I i s → L k s (i : Int) = runS f E (l.drop i) i s := by
    intro n
    induction n with
    | zero =>
      intro k i s hi hk hs
      obtain ⟨k, rfl, _⟩ := succ_of hk
      have : i = l.length := by omega
      subst this
      rw [hE k s (by omega) hs, List.drop_length]
      rfl
    | succ n ih =>
      intro k i s hi hk hs
      rw [Nat.succ_mul] at hk
      obtain ⟨k, rfl, _⟩ := succ_of hk
      have h := hS k i s (by omega) (by omega) hs
      rw [drop_getD l d i (by omega)]
      simp only [runS]
      cases hf : f i (l.getD i d) s with
      | inr r => rw [hf] at h; exact h
      | inl s' =>
        rw [hf] at h
        obtain ⟨h1, k', h2, h3⟩ := h
        simp only
        rw [h3, wrap_id (by omega) (by omega)]
        have h4 := ih k' (i + 1) s' (by omega) (by omega) h1
        rw [← h4]
        rfl
  have h := key l.length k 0 s (by omega) hk h0
  simpa using h
end Go.Proofs.Ytpckkkcaffhhnaa.L

/- What the reference's insertion computes. -/
namespace Go.Proofs.Ytpckkkcaffhhnaa.L
open Go.RowKit Go.Sort Go.Proofs.YtpckkkcaffhhnaaW.PrintWords Go.Proofs.YtpckkkcaffhhnaaW.PrintLast Go.Proofs.YtpckkkcaffhhnaaW.PrintMore Go.Proofs.Ytpckkkcaffhhnaa.P
set_option linter.unusedVariables false
set_option linter.unusedSimpArgs false
def putB : List ByteArray → ByteArray → List ByteArray
  | [], a => [a]
  | x :: l, a => if Op.bytesLess x.toList a.toList = true then x :: putB l a else if x.toList = a.toList then x :: l else a :: x :: l
theorem putB_bytes (a : ByteArray) : ∀ l : List ByteArray, bytesL (putB l a) = putL (bytesL l) a.data.toList
  | [] => rfl
  | x :: l => by
    have h1 : Op.bytesLess x.toList a.toList = decide (x.data.toList < a.data.toList) := by rw [bytesLess_eq, Lib.toList_data, Lib.toList_data]
    unfold putB
    rw [h1, Lib.toList_data, Lib.toList_data]
    show _ = (if x.data.toList < a.data.toList then x.data.toList :: putL (bytesL l) a.data.toList else if x.data.toList = a.data.toList then x.data.toList :: bytesL l else a.data.toList :: x.data.toList :: bytesL l)
    by_cases h : x.data.toList < a.data.toList
    · rw [if_pos h, if_pos (decide_eq_true h), ← putB_bytes a l]; rfl
    · rw [if_neg h, if_neg (by rw [decide_eq_false h]; decide)]
      by_cases h2 : x.data.toList = a.data.toList
      · rw [if_pos h2, if_pos h2]; rfl
      · rw [if_neg h2, if_neg h2]; rfl
theorem texts_bytes (l : List ByteArray) : textsL (bytesL l) = l := by
  simp only [bytesL, textsL, List.map_map]
  exact (List.map_congr_left (fun x _ => by simp)).trans (List.map_id l)
theorem putB_len (a : ByteArray) : ∀ l : List ByteArray, (putB l a).length ≤ l.length + 1
  | [] => by simp [putB]
  | x :: l => by
    have := putB_len a l
    unfold putB
    split
    · simp only [List.length_cons]; omega
    · split
      · simp only [List.length_cons]; omega
      · simp only [List.length_cons]; omega
theorem puts_ordered (ns : List ByteArray) : ns.foldl putB [] = orderedV ns := by
  have key : ∀ (ns acc : List ByteArray), bytesL (ns.foldl putB acc) = (bytesL ns).foldl putL (bytesL acc) := by
    intro ns
    induction ns with
    | nil => intro acc; rfl
    | cons a ns ih => intro acc; rw [List.foldl, ih, putB_bytes]; rfl
  rw [← texts_bytes (ns.foldl putB []), key]
  unfold orderedV sortV
  rw [show bytesL ([] : List ByteArray) = [] from rfl, put_all]
theorem spec_l2Put_f (l : List ByteArray) (hn : l.length ≤ 1000000) (a : ByteArray) (k : Nat) (hk : l.length < k) : spec_l2Put.f k l a = some (putB l a) := by
  unfold spec_l2Put.f
  refine (loop_run (fun i x (_ : Unit) => if Op.bytesLess x.toList a.toList = true then (.inl () : Unit ⊕ Option (List ByteArray)) else if x.toList = a.toList then .inr (some l) else .inr (some (l.take i ++ [a] ++ l.drop i))) (fun _ _ => some (l ++ [a])) (fun _ _ => True) ByteArray.empty l (by omega) (fun k _ i => spec_l2Put.l0 k l a i) 0 ?_ (fun _ _ _ _ _ _ => trivial) ?_ k (by omega) () trivial).trans ?_
  · intro k i _ _ hi _
    simp only [spec_l2Put.l0, Option.bind_some]
    rw [if_pos (by omega), if_pos (by omega)]
    rw [show rdOf ByteArray.empty l (i : Int) = l.getD i ByteArray.empty from rfl]
    by_cases h : Op.bytesLess (l.getD i ByteArray.empty).toList a.toList = true
    · rw [if_pos h, if_pos h]
    · rw [if_neg h, if_neg h]
      by_cases h2 : (l.getD i ByteArray.empty).toList = a.toList
      · rw [if_pos h2, if_pos h2]
      · rw [if_neg h2, if_neg h2, if_pos (by omega), if_pos (by simp only [List.length_nil, List.length_drop]; omega), if_pos (by simp only [List.length_take]; omega), if_pos (by simp only [List.length_append, List.length_take, List.length_nil, List.length_drop, List.length_cons]; omega)]
        rfl
  · intro k _ _ _
    simp only [spec_l2Put.l0, Option.bind_some]
    rw [if_neg (by omega), if_pos (by omega)]
    simp
    omega
  · have key : ∀ (l' pre : List ByteArray), l = pre ++ l' → runS (fun i x (_ : Unit) => if Op.bytesLess x.toList a.toList = true then (.inl () : Unit ⊕ Option (List ByteArray)) else if x.toList = a.toList then .inr (some l) else .inr (some (l.take i ++ [a] ++ l.drop i))) (fun _ => some (l ++ [a])) l' pre.length () = some (pre ++ putB l' a) := by
      intro l'
      induction l' with
      | nil => intro pre e; rw [List.append_nil] at e; subst e; rfl
      | cons x l' ih =>
        intro pre e
        simp only [runS, putB]
        by_cases h : Op.bytesLess x.toList a.toList = true
        · rw [if_pos h, if_pos h]
          simp only
          have := ih (pre ++ [x]) (by rw [e]; simp)
          rw [List.length_append] at this
          rw [show pre.length + 1 = pre.length + [x].length from rfl, this]
          simp
        · rw [if_neg h, if_neg h]
          by_cases h2 : x.toList = a.toList
          · rw [if_pos h2, if_pos h2]; simp only [e]
          · rw [if_neg h2, if_neg h2]; simp [e]
    exact key l [] rfl
end Go.Proofs.Ytpckkkcaffhhnaa.L

-- made by printx.py (own driver over the kit's print); Lean checks it
namespace Go.Proofs.Ytpckkkcaffhhnaa.P
open Go.RowKit Go.Proofs.YtpckkkcaffhhnaaW.PrintWords Go.Proofs.YtpckkkcaffhhnaaW.PrintLast Go.Proofs.YtpckkkcaffhhnaaW.PrintMore
attribute [local go_sem] max2_int min2_int max_two min_two max_three min_three max_four min_four   -- for this text's walks alone
set_option linter.unusedVariables false
set_option linter.unusedSimpArgs false

/-! ### spec_FunRefs: function 21 -/
def spec_FunRefs.f (k : Nat) (a0_0 : ByteArray) (a0_1 : Bool) (l0_2 : List (S38)) : Option (List ByteArray) := (spec_FunOk.f k a0_0 a0_1 l0_2).bind fun t315 => (if t315 = true then ((spec_l2Refs.f k l0_2).bind fun t316 => (some t316)) else (some (([] : List ByteArray))))
end Go.Proofs.Ytpckkkcaffhhnaa.P

/- The names in a function; marks in texts. -/
namespace Go.Proofs.Ytpckkkcaffhhnaa.L
open Go.RowKit Go.Proofs.YtpckkkcaffhhnaaW.PrintWords Go.Proofs.YtpckkkcaffhhnaaW.PrintLast Go.Proofs.YtpckkkcaffhhnaaW.PrintMore Go.Proofs.Ytpckkkcaffhhnaa.P
set_option linter.unusedVariables false
set_option linter.unusedSimpArgs false
def hasB (l : List ByteArray) (a : ByteArray) : Bool := l.any fun x => x.toList == a.toList
def refsAdd (x : S38) (s : List ByteArray) : List ByteArray := if refersB x.f0 && !hasB s x.f2 then s ++ [x.f2] else s
def refsV (l : List S38) : List ByteArray := l.foldl (fun s x => refsAdd x s) []
theorem refsAdd_len (x : S38) (s : List ByteArray) : (refsAdd x s).length ≤ s.length + 1 := by
  unfold refsAdd
  split
  · simp
  · omega
theorem foldl_len : ∀ (l : List S38) (s : List ByteArray), (l.foldl (fun s x => refsAdd x s) s).length ≤ s.length + l.length
  | [], s => by simp
  | x :: l, s => by
    have := foldl_len l (refsAdd x s)
    have := refsAdd_len x s
    simp only [List.foldl, List.length_cons]
    omega
theorem refsV_len (l : List S38) : (refsV l).length ≤ l.length := by
  have := foldl_len l []
  simpa [refsV] using this
theorem runS_fold {β : Type} (E : List ByteArray → β) : ∀ (l : List S38) (i : Nat) (s : List ByteArray), runS (fun _ x s => (.inl (refsAdd x s) : List ByteArray ⊕ β)) E l i s = E (l.foldl (fun s x => refsAdd x s) s)
  | [], _, _ => rfl
  | x :: l, i, s => runS_fold E l (i + 1) (refsAdd x s)
theorem slices_Contains_sstring_string_f (l : List ByteArray) (hn : l.length ≤ 9223372036854775807) (a : ByteArray) (k : Nat) (hk : l.length < k) : slices_Contains_sstring_string.f k l a = some (hasB l a) := by
  unfold slices_Contains_sstring_string.f slices_Index_sstring_string.f
  have h : slices_Index_sstring_string.l0 k l a (l.length : Int) 0 = some (idxFrom (fun x => x.toList == a.toList) l 0) := by
    refine loop_idx (fun x => x.toList == a.toList) ByteArray.empty l hn (fun k i => slices_Index_sstring_string.l0 k l a (l.length : Int) i) 0 ?_ ?_ ?_ k (by omega)
    · intro k i _ hi hq
      simp only [slices_Index_sstring_string.l0]
      rw [if_pos (by omega), if_pos (by omega), if_pos (by omega), if_pos (show a.toList = (rdOf ByteArray.empty l (i : Int)).toList from (beq_iff_eq.mp hq).symm)]
    · intro k i _ hi hq
      simp only [slices_Index_sstring_string.l0]
      rw [if_pos (by omega), if_pos (by omega), if_pos (by omega), if_neg (show ¬ a.toList = (rdOf ByteArray.empty l (i : Int)).toList from fun e => beq_eq_false_iff_ne.mp hq e.symm)]
    · intro k _
      simp only [slices_Index_sstring_string.l0]
      rw [if_neg (by omega)]
  rw [h]
  simp only [Option.bind_some, hasB]
  rw [← idxFrom_any _ l 0 (by decide)]
theorem spec_l2Has_f (l : List ByteArray) (hn : l.length ≤ 9223372036854775806) (a : ByteArray) (k : Nat) (hk : l.length < k) : spec_l2Has.f k l a = some (hasB l a) := by
  have e : ∀ (l' : List ByteArray) (i : Nat), runS (fun _ x (_ : Unit) => if x.toList = a.toList then (.inr (some true) : Unit ⊕ Option Bool) else .inl ()) (fun _ => some false) l' i () = some (hasB l' a) := by
    intro l'
    induction l' with
    | nil => intro i; rfl
    | cons x l' ih =>
      intro i
      simp only [runS, hasB, List.any_cons]
      by_cases h : x.toList = a.toList
      · rw [if_pos h, beq_iff_eq.mpr h]; rfl
      · rw [if_neg h, beq_eq_false_iff_ne.mpr h]
        exact ih (i + 1)
  unfold spec_l2Has.f
  refine (loop_run (fun _ x (_ : Unit) => if x.toList = a.toList then (.inr (some true) : Unit ⊕ Option Bool) else .inl ()) (fun _ _ => some false) (fun _ _ => True) ByteArray.empty l hn (fun k _ i => spec_l2Has.l0 k l a i) 0 ?_ (fun _ _ _ _ _ _ => trivial) ?_ k (by omega) () trivial).trans (e l 0)
  · intro k i s _ hi _
    simp only [spec_l2Has.l0]
    rw [if_pos (by omega), if_pos (by omega)]
    show (if (l.getD i ByteArray.empty).toList = a.toList then _ else _) = _
    split <;> rfl
  · intro k s _ _
    simp only [spec_l2Has.l0]
    rw [if_neg (by omega)]
theorem impl_Fun_refs_f (a : ByteArray) (b : Bool) (l : List S38) (hn : l.length ≤ 8796093022207) (k : Nat) (hk : 2 * l.length + 5 < k) : impl_Fun_refs.f k a b l = some (refsV l) := by
  unfold impl_Fun_refs.f
  refine (loop_run (fun _ x s => (.inl (refsAdd x s) : List ByteArray ⊕ Option (List ByteArray))) (fun _ s => some s) (fun i s => s.length ≤ i) z38 l (by omega) (fun k s i => impl_Fun_refs.l0 k s l (l.length : Int) i) (l.length + 1) ?_ ?_ ?_ k (by omega) [] (by simp)).trans (runS_fold _ l 0 [])
  · intro k i s hK hi hs
    simp only [impl_Fun_refs.l0]
    rw [if_pos (by omega), if_pos (by omega), if_pos (by omega), impl_InsRefs_f (rd_T38 l (i : Int)).f0 _ _]
    simp only [Option.bind_some]
    rw [slices_Contains_sstring_string_f s (by omega) _ k (by omega)]
    simp only [Option.bind_some]
    show (if refersB (l.getD i z38).f0 = true then (if hasB s (l.getD i z38).f2 = true then _ else (if s.length < 8796093022208 then impl_Fun_refs.l0 k (s ++ [(l.getD i z38).f2]) l (l.length : Int) (wrap64 ((i : Int) + 1)) else none)) else _) = impl_Fun_refs.l0 k (refsAdd (l.getD i z38) s) l (l.length : Int) (wrap64 ((i : Int) + 1))
    rw [if_pos (show s.length < 8796093022208 by omega)]
    unfold refsAdd
    cases refersB (l.getD i z38).f0 <;> cases hasB s (l.getD i z38).f2 <;> rfl
  · intro i s s' hi hs he
    have := refsAdd_len (l.getD i z38) s
    cases he
    omega
  · intro k s _ _
    simp only [impl_Fun_refs.l0]
    rw [if_neg (by omega)]
theorem spec_l2Refs_f (l : List S38) (hn : l.length ≤ 8796093022207) (k : Nat) (hk : 2 * l.length + 5 < k) : spec_l2Refs.f k l = some (refsV l) := by
  unfold spec_l2Refs.f
  refine (loop_run (fun _ x s => (.inl (refsAdd x s) : List ByteArray ⊕ Option (List ByteArray))) (fun _ s => some s) (fun i s => s.length ≤ i) z38 l (by omega) (fun k s i => spec_l2Refs.l0 k l s i) (l.length + 1) ?_ ?_ ?_ k (by omega) [] (by simp)).trans (runS_fold _ l 0 [])
  · intro k i s hK hi hs
    simp only [spec_l2Refs.l0]
    rw [if_pos (by omega), if_pos (by omega), spec_InsRefs_f (rd_T38 l (i : Int)).f0 _ _]
    simp only [Option.bind_some]
    rw [spec_l2Has_f s (by omega) _ k (by omega)]
    simp only [Option.bind_some]
    show (if refersB (l.getD i z38).f0 = true then (if hasB s (l.getD i z38).f2 = true then _ else (if s.length < 8796093022208 then spec_l2Refs.l0 k l (s ++ [(l.getD i z38).f2]) (wrap64 ((i : Int) + 1)) else none)) else _) = spec_l2Refs.l0 k l (refsAdd (l.getD i z38) s) (wrap64 ((i : Int) + 1))
    rw [if_pos (show s.length < 8796093022208 by omega)]
    unfold refsAdd
    cases refersB (l.getD i z38).f0 <;> cases hasB s (l.getD i z38).f2 <;> rfl
  · intro i s s' hi hs he
    have := refsAdd_len (l.getD i z38) s
    cases he
    omega
  · intro k s _ _
    simp only [spec_l2Refs.l0]
    rw [if_neg (by omega)]
def funRefsV (x : S30) : List ByteArray := if funOkB x.f0 x.f2 = true then refsV x.f2 else []
theorem funRefsV_len (x : S30) : (funRefsV x).length ≤ 10 := by
  unfold funRefsV
  split
  · rename_i h
    have := funOkB_len h
    have := refsV_len x.f2
    omega
  · simp
theorem impl_FunRefs_f (x : S30) (hx : FitF x) (k : Nat) (hk : 100 < k) : impl_FunRefs.f k x.f0 x.f1 x.f2 = some (funRefsV x) := by
  unfold impl_FunRefs.f funRefsV
  rw [impl_FunOk_f x hx]
  simp only [Option.bind_some]
  by_cases h : funOkB x.f0 x.f2 = true
  · have := funOkB_len h
    rw [if_pos h, if_pos h, impl_Fun_refs_f x.f0 x.f1 x.f2 (by omega) k (by omega)]
    rfl
  · rw [if_neg h, if_neg h]
end Go.Proofs.Ytpckkkcaffhhnaa.L

/- The names that functions lack; when a program is ok. -/
namespace Go.Proofs.Ytpckkkcaffhhnaa.L
open Go.RowKit Go.Proofs.YtpckkkcaffhhnaaW.PrintWords Go.Proofs.YtpckkkcaffhhnaaW.PrintLast Go.Proofs.YtpckkkcaffhhnaaW.PrintMore Go.Proofs.Ytpckkkcaffhhnaa.P
set_option linter.unusedVariables false
set_option linter.unusedSimpArgs false
/-- Of some names, those that no function of p has. -/
def lackOf (p : List S30) (ns : List ByteArray) : List ByteArray := ns.filter fun a => decide (findI p a < 0)
def lackRaw (p l : List S30) : List ByteArray := l.flatMap fun x => lackOf p (refsV x.f2)
theorem lackOf_len (p : List S30) (ns : List ByteArray) : (lackOf p ns).length ≤ ns.length := List.length_filter_le _ _
def goodRaw (p : List S30) : Bool := p.all fun x => (refsV x.f2).all fun a => !decide (findI p a < 0)
theorem runS_filter {β : Type} (q : ByteArray → Bool) (E : List ByteArray → β) : ∀ (l : List ByteArray) (i : Nat) (s : List ByteArray), runS (fun _ a s => if q a then (.inl (s ++ [a]) : List ByteArray ⊕ β) else .inl s) E l i s = E (s ++ l.filter q)
  | [], _, s => by simp [runS]
  | a :: l, i, s => by
    simp only [runS, List.filter_cons]
    cases h : q a with
    | true => rw [if_pos rfl, if_pos rfl]; simp only; rw [runS_filter q E l (i + 1) (s ++ [a]), List.append_assoc]; rfl
    | false => rw [if_neg (by decide), if_neg (by decide)]; simp only; exact runS_filter q E l (i + 1) s
theorem runS_flat {β : Type} (p : List S30) (E : List ByteArray → β) : ∀ (l : List S30) (i : Nat) (s : List ByteArray), runS (fun _ x s => (.inl (s ++ lackOf p (refsV x.f2)) : List ByteArray ⊕ β)) E l i s = E (s ++ lackRaw p l)
  | [], _, s => by simp [runS, lackRaw]
  | x :: l, i, s => by
    simp only [runS]
    rw [runS_flat p E l (i + 1) _, List.append_assoc]
    rfl
theorem impl_lacking_l1 (p l : List S30) (c j : Int) (ns : List ByteArray) (hn : ns.length ≤ 1000) (s : List ByteArray) (hs : s.length ≤ 1000000) (k : Nat) (hk : ns.length < k) :
    impl_lacking.l1 k p s l c j ns (ns.length : Int) 0 = impl_lacking.l0 (k - ns.length - 1) p (s ++ lackOf p ns) l c (wrap64 (j + 1)) := by
  refine (loop_run (fun _ a s => if decide (findI p a < 0) then (.inl (s ++ [a]) : List ByteArray ⊕ Option (List ByteArray)) else .inl s) (fun k s => impl_lacking.l0 k p s l c (wrap64 (j + 1))) (fun i s => s.length ≤ 1000000 + i) ByteArray.empty ns (by omega) (fun k s i => impl_lacking.l1 k p s l c j ns (ns.length : Int) i) 0 ?_ ?_ ?_ k (by omega) s (by omega)).trans (runS_filter _ _ ns 0 s)
  · intro k i s _ hi hI
    simp only [impl_lacking.l1, impl_find.f]
    rw [if_pos (by omega), if_pos (by omega), if_pos (by omega)]
    simp only [Option.bind_some]
    show (if findI p (ns.getD i ByteArray.empty) < 0 then (if s.length < 8796093022208 then impl_lacking.l1 k p (s ++ [ns.getD i ByteArray.empty]) l c j ns (ns.length : Int) (wrap64 ((i : Int) + 1)) else none) else _) = _
    rw [if_pos (show s.length < 8796093022208 by omega)]
    by_cases h : findI p (ns.getD i ByteArray.empty) < 0
    · rw [if_pos h, if_pos (decide_eq_true h)]
    · rw [if_neg h, if_neg (by rw [decide_eq_false h]; decide)]
  · intro i s s' hi hI he
    split at he
    · cases he; simp only [List.length_append, List.length_cons, List.length_nil]; omega
    · cases he; omega
  · intro k s _ _
    simp only [impl_lacking.l1]
    rw [if_neg (by omega)]
theorem impl_lacking_f (p : List S30) (hn : p.length ≤ 100) (hx : ∀ x ∈ p, x.f2.length ≤ 100) (k : Nat) (hk : 100000 < k) : impl_lacking.f k p = some (orderedV (lackRaw p p)) := by
  unfold impl_lacking.f
  refine (loop_var (fun _ x s => (.inl (s ++ lackOf p (refsV x.f2)) : List ByteArray ⊕ Option (List ByteArray))) (fun s => some (orderedV s)) (fun i s => s.length ≤ 100 * i) z30 p (by omega) (fun k s i => impl_lacking.l0 k p s p (p.length : Int) i) 1000 200 ?_ ?_ k (by omega) [] (by simp)).trans (by rw [runS_flat]; rfl)
  · intro k i s hK hi hs
    have hr := refsV_len (p.getD i z30).f2
    have hx2 := hx _ (getD_mem (d := z30) hi)
    have hl := lackOf_len p (refsV (p.getD i z30).f2)
    simp only
    refine ⟨by rw [List.length_append]; omega, k - (refsV (p.getD i z30).f2).length - 1, by omega, ?_⟩
    simp only [impl_lacking.l0]
    rw [show rd_T30 p (i : Int) = p.getD i z30 from rfl]
    rw [if_pos (by omega), if_pos (by omega), if_pos (by omega), impl_Fun_refs_f _ _ (p.getD i z30).f2 (by omega) k (by omega)]
    simp only [Option.bind_some]
    rw [impl_lacking_l1 p p _ _ _ (by omega) s (by omega) k (by omega)]
  · intro k s _ hs
    simp only [impl_lacking.l0]
    rw [if_neg (by omega)]
    unfold impl_ordered.f
    rw [if_pos (by omega)]
    rfl
theorem unitGood_len {p : List S30} (h : unitGood p = true) : ∀ x ∈ p, x.f2.length ≤ 10 := by
  have key : ∀ (l : List S30) (i : Nat), allFrom (fun i x => funOkB x.f0 x.f2 && (findI p x.f0 == (i : Int))) l i = true → ∀ x ∈ l, x.f2.length ≤ 10 := by
    intro l
    induction l with
    | nil => intro i _ x hx; simp at hx
    | cons y l ih =>
      intro i h x hx
      simp only [allFrom, Bool.and_eq_true] at h
      rcases List.mem_cons.mp hx with rfl | hx
      · exact (funOkB_len h.1.1).2
      · exact ih (i + 1) h.2 x hx
  exact key p 0 h
end Go.Proofs.Ytpckkkcaffhhnaa.L

/- What the reference lacks. -/
namespace Go.Proofs.Ytpckkkcaffhhnaa.L
open Go.RowKit Go.Proofs.YtpckkkcaffhhnaaW.PrintWords Go.Proofs.YtpckkkcaffhhnaaW.PrintLast Go.Proofs.YtpckkkcaffhhnaaW.PrintMore Go.Proofs.Ytpckkkcaffhhnaa.P
set_option linter.unusedVariables false
set_option linter.unusedSimpArgs false
theorem puts_len (ns : List ByteArray) : ∀ s : List ByteArray, (ns.foldl putB s).length ≤ s.length + ns.length := by
  induction ns with
  | nil => intro s; simp
  | cons a ns ih =>
    intro s
    have := ih (putB s a)
    have := putB_len a s
    simp only [List.foldl, List.length_cons]
    omega
theorem runS_puts {β : Type} (p : List S30) (E : List ByteArray → β) : ∀ (l : List ByteArray) (i : Nat) (s : List ByteArray), runS (fun _ a s => if decide (findI p a < 0) then (.inl (putB s a) : List ByteArray ⊕ β) else .inl s) E l i s = E ((lackOf p l).foldl putB s)
  | [], _, s => rfl
  | a :: l, i, s => by
    simp only [runS, lackOf, List.filter_cons]
    by_cases h : decide (findI p a < 0) = true
    · rw [if_pos h, if_pos h]; exact runS_puts p E l (i + 1) (putB s a)
    · rw [if_neg h, if_neg h]; exact runS_puts p E l (i + 1) s
theorem runS_wants {β : Type} (p : List S30) (E : List ByteArray → β) : ∀ (l : List S30) (i : Nat) (s : List ByteArray), runS (fun _ x s => (.inl ((lackOf p (refsV x.f2)).foldl putB s) : List ByteArray ⊕ β)) E l i s = E ((lackRaw p l).foldl putB s)
  | [], _, s => rfl
  | x :: l, i, s => by
    simp only [runS]
    rw [runS_wants p E l (i + 1) _, show lackRaw p (x :: l) = lackOf p (refsV x.f2) ++ lackRaw p l by simp [lackRaw], List.foldl_append]
theorem spec_l2Wants_l1 (p : List S30) (hp : p.length ≤ 1000) (j : Int) (ns : List ByteArray) (hn : ns.length ≤ 1000) (s : List ByteArray) (hs : s.length ≤ 100000) (k : Nat) (hk : 200000 + ns.length < k) :
    spec_l2Wants.l1 k p s j ns 0 = spec_l2Wants.l0 (k - ns.length - 1) p ((lackOf p ns).foldl putB s) (wrap64 (j + 1)) := by
  refine (loop_run (fun _ a s => if decide (findI p a < 0) then (.inl (putB s a) : List ByteArray ⊕ Option (List ByteArray)) else .inl s) (fun k s => spec_l2Wants.l0 k p s (wrap64 (j + 1))) (fun i s => s.length ≤ 100000 + i) ByteArray.empty ns (by omega) (fun k s i => spec_l2Wants.l1 k p s j ns i) 200000 ?_ ?_ ?_ k (by omega) s (by omega)).trans (runS_puts p _ ns 0 s)
  · intro k i s hK hi hI
    simp only [spec_l2Wants.l1]
    rw [show rdOf ByteArray.empty ns (i : Int) = ns.getD i ByteArray.empty from rfl]
    rw [if_pos (by omega), if_pos (by omega), spec_l2Find_f p (by omega) _ k (by omega)]
    simp only [Option.bind_some]
    by_cases h : findI p (ns.getD i ByteArray.empty) < 0
    · rw [if_pos h, if_pos (decide_eq_true h), spec_l2Put_f s (by omega) _ k (by omega)]
      rfl
    · rw [if_neg h, if_neg (by rw [decide_eq_false h]; decide)]
  · intro i s s' hi hI he
    split at he
    · have := putB_len (ns.getD i ByteArray.empty) s; cases he; omega
    · cases he; omega
  · intro k s _ _
    simp only [spec_l2Wants.l1]
    rw [if_neg (by omega)]
theorem spec_l2Wants_f (p : List S30) (hn : p.length ≤ 100) (hx : ∀ x ∈ p, x.f2.length ≤ 100) (k : Nat) (hk : 1000000 < k) : spec_l2Wants.f k p = some (orderedV (lackRaw p p)) := by
  unfold spec_l2Wants.f
  refine (loop_var (fun _ x s => (.inl ((lackOf p (refsV x.f2)).foldl putB s) : List ByteArray ⊕ Option (List ByteArray))) (fun s => some s) (fun i s => s.length ≤ 100 * i) z30 p (by omega) (fun k s i => spec_l2Wants.l0 k p s i) 300000 200 ?_ ?_ k (by omega) [] (by simp)).trans (by rw [runS_wants, puts_ordered])
  · intro k i s hK hi hs
    have hr := refsV_len (p.getD i z30).f2
    have hx2 := hx _ (getD_mem (d := z30) hi)
    have hl := lackOf_len p (refsV (p.getD i z30).f2)
    have hq := puts_len (lackOf p (refsV (p.getD i z30).f2)) s
    simp only
    refine ⟨by omega, k - (refsV (p.getD i z30).f2).length - 1, by omega, ?_⟩
    simp only [spec_l2Wants.l0]
    rw [show rd_T30 p (i : Int) = p.getD i z30 from rfl]
    rw [if_pos (by omega), if_pos (by omega), spec_l2Refs_f (p.getD i z30).f2 (by omega) k (by omega)]
    simp only [Option.bind_some]
    rw [spec_l2Wants_l1 p (by omega) _ _ (by omega) s (by omega) k (by omega)]
  · intro k s _ hs
    simp only [spec_l2Wants.l0]
    rw [if_neg (by omega)]
end Go.Proofs.Ytpckkkcaffhhnaa.L

/- The names that a unit lacks: both sides. -/
namespace Go.Proofs.Ytpckkkcaffhhnaa.L
open Go.RowKit Go.Proofs.YtpckkkcaffhhnaaW.PrintWords Go.Proofs.YtpckkkcaffhhnaaW.PrintLast Go.Proofs.YtpckkkcaffhhnaaW.PrintMore Go.Proofs.Ytpckkkcaffhhnaa.P
set_option linter.unusedVariables false
set_option linter.unusedSimpArgs false
def unitWantsV (l : List S30) : List ByteArray := if unitOkB l = true then orderedV (lackRaw l l) else []
theorem unitOk_bounds {l : List S30} (h : unitOkB l = true) : l.length ≤ 5 ∧ ∀ x ∈ l, x.f2.length ≤ 10 := by
  unfold unitOkB at h
  simp only [Bool.and_eq_true, decide_eq_true_eq] at h
  exact ⟨h.2, unitGood_len h.1⟩
theorem orderedV_len (ns : List ByteArray) : (orderedV ns).length ≤ ns.length := by
  have := puts_len ns []
  rw [puts_ordered] at this
  simpa using this
theorem lackRaw_len (p : List S30) (B : Nat) : ∀ l : List S30, (∀ x ∈ l, x.f2.length ≤ B) → (lackRaw p l).length ≤ l.length * B
  | [], _ => by simp [lackRaw]
  | x :: l, h => by
    have e : lackRaw p (x :: l) = lackOf p (refsV x.f2) ++ lackRaw p l := by simp [lackRaw]
    have h1 := lackRaw_len p B l (fun y hy => h y (List.mem_cons_of_mem _ hy))
    have h2 := lackOf_len p (refsV x.f2)
    have h3 := refsV_len x.f2
    have h4 := h x (List.mem_cons_self ..)
    rw [e, List.length_append, List.length_cons, Nat.succ_mul]
    omega
theorem unitWantsV_len (l : List S30) : (unitWantsV l).length ≤ 50 := by
  unfold unitWantsV
  split
  · rename_i h
    obtain ⟨h1, h2⟩ := unitOk_bounds h
    have := orderedV_len (lackRaw l l)
    have := lackRaw_len l 10 l h2
    omega
  · simp
theorem impl_UnitWants_f (l : List S30) (hn : l.length ≤ 140737488351232) (hx : ∀ x ∈ l, FitF x) (k : Nat) (hk : 1000000 + l.length < k) : impl_UnitWants.f k l = some (unitWantsV l) := by
  unfold impl_UnitWants.f unitWantsV
  rw [impl_UnitOk_f l hn hx k (by omega)]
  simp only [Option.bind_some]
  cases h : unitOkB l with
  | false => rfl
  | true =>
    obtain ⟨h1, h2⟩ := unitOk_bounds h
    simp only [if_true]
    rw [impl_lacking_f l (by omega) (fun x hx => by have := h2 x hx; omega) k (by omega)]
    rfl
theorem spec_UnitWants_f (l : List S30) (hn : l.length ≤ 140737488351232) (hx : ∀ x ∈ l, FitF x) (k : Nat) (hk : 500000000000000 ≤ k) : spec_UnitWants.f k l = some (unitWantsV l) := by
  unfold spec_UnitWants.f unitWantsV
  rw [spec_UnitOk_f l hn hx k (by omega)]
  simp only [Option.bind_some]
  cases h : unitOkB l with
  | false => rfl
  | true =>
    obtain ⟨h1, h2⟩ := unitOk_bounds h
    simp only [if_true]
    rw [spec_l2Wants_f l (by omega) (fun x hx => by have := h2 x hx; omega) k (by omega)]
    rfl
end Go.Proofs.Ytpckkkcaffhhnaa.L

/- Undefined symbols are exactly those: for every code, the law on UnitWants answers true. -/
namespace Go.Proofs.Ytpckkkcaffhhnaa.Pure
open Go.RowKit Go.Sort Go.Proofs.Ytpckkkcaffhhnaa.P Go.Proofs.Ytpckkkcaffhhnaa.L Go.Proofs.YtpckkkcaffhhnaaW.PrintWords
set_option linter.unusedVariables false
theorem draw_wants (l : List Int) (hl : Bytes l) : ∃ u, (∀ k, 60 ≤ k → spec_DrawUnitWants.f k l = some u) ∧ SmallU u := by
  obtain ⟨l', e, hl', _⟩ := spec_l13Open_f l hl
  obtain ⟨u, q, h, hq, hu⟩ := spec_l2Bent_f l' hl' 0 (by decide) (by decide)
  refine ⟨u, fun k hk => ?_, hu⟩
  unfold spec_DrawUnitWants.f
  rw [e]; simp only [Option.bind_some]
  rw [h k (by omega)]; rfl
theorem fold_put : ∀ (ns acc : List B), acc.Pairwise (fun x y => x < y) → (ns.foldl putL acc).Pairwise (fun x y => x < y) ∧ ∀ x, x ∈ ns.foldl putL acc ↔ x ∈ acc ∨ x ∈ ns
  | [], acc, h => ⟨h, by simp⟩
  | a :: ns, acc, h => by
    obtain ⟨h1, h2⟩ := fold_put ns (putL acc a) (put_pw a acc h)
    refine ⟨h1, fun x => ?_⟩
    rw [List.foldl, h2, put_mem, List.mem_cons]
    constructor
    · rintro ((h | h) | h) <;> simp [h]
    · rintro (h | h | h) <;> simp [h]
theorem bytes_ordered (ns : List ByteArray) : bytesL (orderedV ns) = (bytesL ns).foldl putL [] := by
  unfold orderedV sortV
  rw [bytes_texts, put_all]
theorem ordered_pw (ns : List ByteArray) : (bytesL (orderedV ns)).Pairwise (fun x y => x < y) := by
  rw [bytes_ordered]
  exact (fold_put _ [] List.Pairwise.nil).1
theorem mem_bytes (a : ByteArray) (l : List ByteArray) : a.data.toList ∈ bytesL l ↔ a ∈ l := by
  unfold bytesL
  rw [List.mem_map]
  constructor
  · rintro ⟨b, hb, e⟩
    have : b = a := ByteArray.ext (Array.toList_inj.mp e)
    rwa [← this]
  · intro h
    exact ⟨a, h, rfl⟩
theorem mem_ordered (a : ByteArray) (ns : List ByteArray) : a ∈ orderedV ns ↔ a ∈ ns := by
  rw [← mem_bytes, bytes_ordered, (fold_put _ [] List.Pairwise.nil).2, mem_bytes]
  simp
theorem less_at (ns : List ByteArray) (i : Nat) (h0 : 0 < i) (hi : i < (orderedV ns).length) :
    Op.bytesLess ((orderedV ns).getD (i - 1) ByteArray.empty).toList ((orderedV ns).getD i ByteArray.empty).toList = true := by
  have h := List.pairwise_iff_getElem.mp (ordered_pw ns) (i - 1) i (by simp [bytesL]; omega) (by simpa [bytesL] using hi) (by omega)
  rw [bytesLess_eq, Lib.toList_data, Lib.toList_data]
  refine decide_eq_true ?_
  simp only [bytesL, List.getElem_map] at h
  rw [List.getD_eq_getElem?_getD, List.getD_eq_getElem?_getD, List.getElem?_eq_getElem (by omega), List.getElem?_eq_getElem hi]
  exact h
theorem mem_lack (u : List S30) (a : ByteArray) : a ∈ lackRaw u u ↔ ∃ x ∈ u, a ∈ refsV x.f2 ∧ findI u a < 0 := by
  unfold lackRaw lackOf
  rw [List.mem_flatMap]
  constructor
  · rintro ⟨x, hx, h⟩
    rw [List.mem_filter] at h
    exact ⟨x, hx, h.1, of_decide_eq_true h.2⟩
  · rintro ⟨x, hx, h1, h2⟩
    exact ⟨x, hx, List.mem_filter.mpr ⟨h1, decide_eq_true h2⟩⟩
theorem has_mem {l : List ByteArray} {a : ByteArray} (h : a ∈ l) : hasB l a = true := List.any_eq_true.mpr ⟨a, h, by simp⟩
theorem ok_fun (u : List S30) (h : unitOkB u = true) : ∀ x ∈ u, funOkB x.f0 x.f2 = true := by
  have key : ∀ (l : List S30) (j : Nat), allFrom (fun i x => funOkB x.f0 x.f2 && (findI u x.f0 == (i : Int))) l j = true → ∀ x ∈ l, funOkB x.f0 x.f2 = true := by
    intro l
    induction l with
    | nil => intro j _ i hi; simp at hi
    | cons x l ih =>
      intro j h y hy
      simp only [allFrom, Bool.and_eq_true, beq_iff_eq] at h
      rcases List.mem_cons.mp hy with rfl | hy
      · exact h.1.1
      · exact ih (j + 1) h.2 y hy
  unfold unitOkB at h
  simp only [Bool.and_eq_true] at h
  exact key u 0 h.1
theorem runS_or {β : Type} (q : ByteArray → Bool) (E : Bool → β) : ∀ (l : List ByteArray) (i : Nat) (b : Bool), runS (fun _ a b => (.inl (b || q a) : Bool ⊕ β)) E l i b = E (b || l.any q)
  | [], _, b => by simp [runS]
  | a :: l, i, b => by
    simp only [runS, List.any_cons]
    rw [runS_or q E l (i + 1) _, Bool.or_assoc]
theorem uw_l2 (u : List S30) (w r : List ByteArray) (i n : Int) (b : Bool) (hr : r.length ≤ 1000) (hi : 0 ≤ i) (hi2 : i < (w.length : Int)) (k : Nat) (hk : 1 + r.length < k) :
    laws_FnUnitWants.l2 k u w w i b n r 0 = laws_FnUnitWants.l1 (k - r.length - 1) u w w i (b || hasB r (rdOf ByteArray.empty w i)) (wrap64 (n + 1)) := by
  refine (loop_run (fun _ (a : ByteArray) b => (.inl (b || (a.toList == (rdOf ByteArray.empty w i).toList)) : Bool ⊕ Option Bool)) (fun k b => laws_FnUnitWants.l1 k u w w i b (wrap64 (n + 1))) (fun _ _ => True) ByteArray.empty r (by omega) (fun k b j => laws_FnUnitWants.l2 k u w w i b n r j) 1 ?_ (fun _ _ _ _ _ _ => trivial) ?_ k (by omega) b trivial).trans (runS_or _ _ r 0 b)
  · intro k j b hK hj _
    simp only [laws_FnUnitWants.l2]
    rw [if_pos (by omega)]
    cases b with
    | true => rw [if_pos rfl]; rfl
    | false => rw [if_neg (by decide), if_pos (by omega), if_pos hi, if_pos hi2]; rfl
  · intro k b _ _
    simp only [laws_FnUnitWants.l2]
    rw [if_neg (by omega)]
theorem uw_l5 (u : List S30) (w r : List ByteArray) (n j : Int) (b : Bool) (hw : w.length ≤ 1000) (hj : 0 ≤ j) (hj2 : j < (r.length : Int)) (k : Nat) (hk : 1 + w.length < k) :
    laws_FnUnitWants.l5 k u w n r j b 0 = if (b || hasB w (rdOf ByteArray.empty r j)) = true then laws_FnUnitWants.l4 (k - w.length - 1) u w n r (wrap64 (j + 1)) else some false := by
  refine (loop_run (fun _ (a : ByteArray) b => (.inl (b || (a.toList == (rdOf ByteArray.empty r j).toList)) : Bool ⊕ Option Bool)) (fun k b => if b = true then laws_FnUnitWants.l4 k u w n r (wrap64 (j + 1)) else some false) (fun _ _ => True) ByteArray.empty w (by omega) (fun k b i => laws_FnUnitWants.l5 k u w n r j b i) 1 ?_ (fun _ _ _ _ _ _ => trivial) ?_ k (by omega) b trivial).trans (runS_or _ _ w 0 b)
  · intro k i b hK hi _
    simp only [laws_FnUnitWants.l5]
    rw [if_pos (by omega)]
    cases b with
    | true => rw [if_pos rfl]; rfl
    | false => rw [if_neg (by decide), if_pos (by omega), if_pos hj, if_pos hj2]; rfl
  · intro k b _ _
    simp only [laws_FnUnitWants.l5]
    rw [if_neg (by omega)]
theorem uw_l1 (u : List S30) (hu : SmallU u) (hok : unitOkB u = true) (i : Nat) (w : List ByteArray) (hw : w.length ≤ 50) (hi : i < w.length) (hf : findI u (w.getD i ByteArray.empty) < 0)
    (hl : 0 < i → Op.bytesLess (w.getD (i - 1) ByteArray.empty).toList (w.getD i ByteArray.empty).toList = true) : ∀ (m n k : Nat) (b : Bool), n + m = u.length → (b || (u.drop n).any fun x => hasB (refsV x.f2) (w.getD i ByteArray.empty)) = true → 1000 + 20 * (m + 1) ≤ k →
    ∃ k', k ≤ k' + 20 * (m + 1) ∧ laws_FnUnitWants.l1 k u w w (i : Int) b (n : Int) = laws_FnUnitWants.l0 k' u w w ((i + 1 : Nat) : Int) := by
  have hwr : wrap64 ((i : Int) + 1) = ((i + 1 : Nat) : Int) := by rw [wrap_id (by omega) (by omega)]; push_cast; rfl
  have hul := hu.2.1
  intro m
  induction m with
  | zero =>
    intro n k b hn hb hk
    obtain ⟨k, rfl⟩ : ∃ j, k = j + 2 := ⟨k - 2, by omega⟩
    rw [List.drop_eq_nil_of_le (by omega)] at hb
    have hb : b = true := by simpa using hb
    subst hb
    refine ⟨k, by omega, ?_⟩
    simp only [laws_FnUnitWants.l1]
    rw [if_neg (by omega), if_pos trivial, if_pos (by omega), if_pos (by omega), if_pos (by omega), if_pos trivial, show rdOf ByteArray.empty w (i : Int) = w.getD i ByteArray.empty from rfl, impl_UnitFind_f u (by omega) hu.fit _ (k + 1) (by omega)]
    simp only [Option.bind_some]
    have e1 : unitFindI u (w.getD i ByteArray.empty) = findI u (w.getD i ByteArray.empty) := by unfold unitFindI; rw [if_pos hok]
    rw [e1, if_neg (by omega)]
    by_cases h0 : 0 < i
    · have hw1 : wrap64 ((i : Int) - 1) = ((i - 1 : Nat) : Int) := by rw [wrap_id (by omega) (by omega)]; omega
      rw [if_pos (by omega), hw1, if_pos (by omega), if_pos (by omega), show rdOf ByteArray.empty w ((i - 1 : Nat) : Int) = w.getD (i - 1) ByteArray.empty from rfl, hl h0]
      simp only [laws_FnUnitWants.j8]
      rw [if_neg (by decide), hwr]
    · rw [if_neg (by omega)]
      simp only [laws_FnUnitWants.j8]
      rw [if_neg (by decide), hwr]
  | succ m ih =>
    intro n k b hn hb hk
    obtain ⟨k, rfl⟩ : ∃ j, k = j + 2 := ⟨k - 2, by omega⟩
    have hlt : n < u.length := by omega
    have hwn : wrap64 ((n : Int) + 1) = ((n + 1 : Nat) : Int) := by rw [wrap_id (by omega) (by omega)]; push_cast; rfl
    have hx : u.getD n z30 ∈ u := getD_mem hlt
    have hfit := hu.fit _ hx
    have hfo : funRefsV (u.getD n z30) = refsV (u.getD n z30).f2 := by unfold funRefsV; rw [if_pos (ok_fun u hok _ hx)]
    have hln : (refsV (u.getD n z30).f2).length ≤ 10 := by rw [← hfo]; exact funRefsV_len _
    rw [drop_getD u z30 n hlt, List.any_cons, ← Bool.or_assoc] at hb
    obtain ⟨k', h1, h2⟩ := ih (n + 1) (k - (refsV (u.getD n z30).f2).length - 1) _ (by omega) hb (by omega)
    refine ⟨k', by omega, ?_⟩
    rw [← h2]
    simp only [laws_FnUnitWants.l1]
    rw [if_pos (by omega)]
    simp only [laws_FnUnitWants.j6]
    rw [if_pos (by omega), if_pos (by omega), show rd_T30 u (n : Int) = u.getD n z30 from rfl, impl_FunRefs_f _ hfit k (by omega)]
    simp only [Option.bind_some]
    rw [hfo, uw_l2 u w _ _ _ b (by omega) (by omega) (by omega) k (by omega), hwn]
    rfl
theorem uw_l4 (u : List S30) (hu : SmallU u) (hok : unitOkB u = true) (w : List ByteArray) (hw : w.length ≤ 50) (n : Nat) (hn : n < u.length) (r : List ByteArray) (hr : r.length ≤ 10) (hc : ∀ a ∈ r, findI u a < 0 → hasB w a = true) :
    ∀ (m j k : Nat), j + m = r.length → 1000 + 100 * (m + 1) ≤ k → ∃ k', k ≤ k' + 100 * (m + 1) ∧ laws_FnUnitWants.l4 k u w (n : Int) r (j : Int) = laws_FnUnitWants.l3 k' u w ((n + 1 : Nat) : Int) := by
  have hul := hu.2.1
  have hwn : wrap64 ((n : Int) + 1) = ((n + 1 : Nat) : Int) := by rw [wrap_id (by omega) (by omega)]; push_cast; rfl
  intro m
  induction m with
  | zero =>
    intro j k hj hk
    obtain ⟨k, rfl⟩ : ∃ j, k = j + 1 := ⟨k - 1, by omega⟩
    refine ⟨k, by omega, ?_⟩
    simp only [laws_FnUnitWants.l4]
    rw [if_neg (by omega), hwn]
  | succ m ih =>
    intro j k hj hk
    obtain ⟨k, rfl⟩ : ∃ j, k = j + 2 := ⟨k - 2, by omega⟩
    have hwj : wrap64 ((j : Int) + 1) = ((j + 1 : Nat) : Int) := by rw [wrap_id (by omega) (by omega)]; push_cast; rfl
    obtain ⟨k', h1, h2⟩ := ih (j + 1) (k - w.length - 1) (by omega) (by omega)
    refine ⟨k', by omega, ?_⟩
    rw [← h2]
    simp only [laws_FnUnitWants.l4]
    rw [if_pos (by omega)]
    simp only [laws_FnUnitWants.j12]
    rw [if_pos (by omega), if_pos (by omega), show rdOf ByteArray.empty r (j : Int) = r.getD j ByteArray.empty from rfl, impl_UnitFind_f u (by omega) hu.fit _ k (by omega)]
    simp only [Option.bind_some]
    have e1 : unitFindI u (r.getD j ByteArray.empty) = findI u (r.getD j ByteArray.empty) := by unfold unitFindI; rw [if_pos hok]
    rw [e1, uw_l5 u w r _ _ _ (by omega) (by omega) (by omega) k (by omega), show rdOf ByteArray.empty r (j : Int) = r.getD j ByteArray.empty from rfl, hwj]
    refine if_pos ?_
    by_cases hf : findI u (r.getD j ByteArray.empty) ≥ 0
    · rw [decide_eq_true hf]; rfl
    · rw [hc _ (getD_mem (by omega)) (by omega), Bool.or_true]
set_option maxRecDepth 100000 in
theorem FnUnitWants : laws_FnUnitWants.Pure := by
  intro l _ _ hw
  unfold laws_FnUnitWants.f
  by_cases h : (l.length : Int) > 1048576
  · exact ⟨1, by rw [if_pos h]⟩
  obtain ⟨u, hd, hu⟩ := draw_wants l ⟨by omega, hw⟩
  have hf := hu.fit
  have hn := hu.2.1
  have hwl := unitWantsV_len u
  obtain ⟨K, hK⟩ : ∃ K : Nat, 1000000000000000 ≤ K := ⟨_, Nat.le_refl _⟩
  refine ⟨K + 4, ?_⟩
  rw [if_neg h]
  simp only [laws_FnUnitWants.j0]
  rw [hd _ (by omega)]
  simp only [Option.bind_some]
  rw [impl_UnitWants_f u (by omega) hf _ (by omega), spec_UnitWants_f u (by omega) hf _ (by omega)]
  simp only [Option.bind_some, if_true, laws_FnUnitWants.j1]
  rw [spec_UnitOk_f u (by omega) hf _ (by omega)]
  simp only [Option.bind_some]
  cases hok : unitOkB u with
  | false =>
    have e : unitWantsV u = [] := by unfold unitWantsV; rw [hok]; rfl
    rw [e]; rfl
  | true =>
    simp only [if_true, laws_FnUnitWants.j2]
    have e : unitWantsV u = orderedV (lackRaw u u) := by unfold unitWantsV; rw [if_pos hok]
    have hmem : ∀ a, a ∈ unitWantsV u ↔ ∃ x ∈ u, a ∈ refsV x.f2 ∧ findI u a < 0 := fun a => by rw [e, mem_ordered, mem_lack]
    have key3 : ∀ (m n k : Nat), n + m = u.length → 10000 * (m + 1) ≤ k → laws_FnUnitWants.l3 k u (unitWantsV u) (n : Int) = some true := by
      intro m
      induction m with
      | zero =>
        intro n k hi hk
        obtain ⟨k, rfl⟩ : ∃ j, k = j + 1 := ⟨k - 1, by omega⟩
        simp only [laws_FnUnitWants.l3]
        rw [if_neg (by omega)]
      | succ m ih =>
        intro n k hi hk
        obtain ⟨k, rfl⟩ : ∃ j, k = j + 2 := ⟨k - 2, by omega⟩
        have hlt : n < u.length := by omega
        have hx : u.getD n z30 ∈ u := getD_mem hlt
        have hfo : funRefsV (u.getD n z30) = refsV (u.getD n z30).f2 := by unfold funRefsV; rw [if_pos (ok_fun u hok _ hx)]
        have hln : (refsV (u.getD n z30).f2).length ≤ 10 := by rw [← hfo]; exact funRefsV_len _
        simp only [laws_FnUnitWants.l3]
        rw [if_pos (by omega)]
        simp only [laws_FnUnitWants.j10]
        rw [if_pos (by omega), if_pos (by omega), show rd_T30 u (n : Int) = u.getD n z30 from rfl, impl_FunRefs_f _ (hf _ hx) k (by omega)]
        simp only [Option.bind_some]
        rw [hfo]
        obtain ⟨k', h1, h2⟩ := uw_l4 u hu hok (unitWantsV u) hwl n hlt _ hln (fun a ha hfa => has_mem ((hmem a).mpr ⟨_, hx, ha, hfa⟩)) _ 0 k (Nat.zero_add _) (by omega)
        rw [show (0 : Int) = ((0 : Nat) : Int) from rfl, h2]
        exact ih (n + 1) k' (by omega) (by omega)
    obtain ⟨B, hB⟩ : ∃ B : Nat, B = 1000000 := ⟨_, rfl⟩
    have key0 : ∀ (m i k : Nat), i + m = (unitWantsV u).length → B + 1000 * (m + 1) ≤ k → laws_FnUnitWants.l0 k u (unitWantsV u) (unitWantsV u) (i : Int) = some true := by
      intro m
      induction m with
      | zero =>
        intro i k hi hk
        obtain ⟨k, rfl⟩ : ∃ j, k = j + 1 := ⟨k - 1, by omega⟩
        simp only [laws_FnUnitWants.l0]
        rw [if_neg (by omega)]
        exact key3 u.length 0 k (by omega) (by omega)
      | succ m ih =>
        intro i k hi hk
        obtain ⟨k, rfl⟩ : ∃ j, k = j + 2 := ⟨k - 2, by omega⟩
        have hlt : i < (unitWantsV u).length := by omega
        obtain ⟨x, hx, hxr, hfa⟩ := (hmem _).mp (getD_mem (d := ByteArray.empty) hlt)
        simp only [laws_FnUnitWants.l0]
        rw [if_pos (by omega)]
        simp only [laws_FnUnitWants.j4]
        obtain ⟨k', h1, h2⟩ := uw_l1 u hu hok i (unitWantsV u) hwl hlt hfa (fun h0 => by rw [e]; exact less_at _ i h0 (by rw [← e]; exact hlt)) u.length 0 k false (by omega) (by
          rw [List.drop_zero, Bool.false_or, List.any_eq_true]
          exact ⟨x, hx, has_mem hxr⟩) (by omega)
        rw [show (0 : Int) = ((0 : Nat) : Int) from rfl, h2]
        exact ih (i + 1) k' (by omega) (by omega)
    exact key0 _ 0 (K + 1) (Nat.zero_add _) (by omega)
end Go.Proofs.Ytpckkkcaffhhnaa.Pure
