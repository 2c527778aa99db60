-- LDraw, PxslicesIndexFuncsimplFunimplFun, Pximplfind, PximplfunsOk, PximplUnitFind, PxspecUnitOk, PxspecUnitFind, LUnit, LDrawU, LRun, LRefs, PureFnFunRefs: put together by squash.py
import Derived.Test.YtpckkkcaffhhnaaSqFnFunRefs4
import Derived.Test.YtpckkkcaffhhnaaSqFnFunRefs6
import Derived.Test.YtpckkkcaffhhnaaSqFnFunRefs5
import Derived.Test.YtpckkkcaffhhnaaSqFnFunRefs3
import Derived.Test.YtpckkkcaffhhnaaSqFnFunRefs10
import Derived.Test.YtpckkkcaffhhnaaSqFnFunRefs7
import Derived.Test.YtpckkkcaffhhnaaSqFnFunRefs8
import Derived.Test.YtpckkkcaffhhnaaSqFnFunRefs9
import Derived.Test.YtpckkkcaffhhnaaSqFnFunRefs11

/- What the drawing functions compute: a code is read byte by byte; each pick is within its range. -/
namespace Go.Proofs.Ytpckkkcaffhhnaa.L
open Go.RowKit Go.Proofs.YtpckkkcaffhhnaaW.PrintWords Go.Proofs.YtpckkkcaffhhnaaW.PrintLast Go.Proofs.YtpckkkcaffhhnaaW.PrintMore Go.Proofs.Ytpckkkcaffhhnaa.P
set_option linter.unusedVariables false
set_option linter.unusedSimpArgs false

/-- The bytes of a code. -/
def Bytes (l : List Int) : Prop := l.length ≤ 1048576 ∧ ∀ x ∈ l, (Lit.int .u8 x).wf = true
/-- A place to read on from: nowhere near an overflow. -/
def Place (p : Int) : Prop := 0 ≤ p ∧ p < 1000000000000
theorem Bytes.take {l : List Int} (h : Bytes l) (n : Nat) : Bytes (l.take n) :=
  ⟨Nat.le_trans (by rw [List.length_take]; omega) h.1, fun x hx => h.2 x (List.mem_of_mem_take hx)⟩

theorem spec_l13Open_f (l : List Int) (h : Bytes l) : ∃ l', spec_l13Open.f l = some (l', 0) ∧ Bytes l' ∧ l'.length ≤ 2000 := by
  unfold spec_l13Open.f
  by_cases c : (l.length : Int) > 2000
  · rw [if_pos c, if_pos (by omega)]
    exact ⟨_, rfl, h.take 2000, by rw [List.length_take]; omega⟩
  · rw [if_neg c]
    exact ⟨l, rfl, h, by omega⟩
/-- The number that is made past the end of a code: some number, not negative. -/
theorem mixed (l : List Int) (hl : Bytes l) (h0 : 0 < l.length) (p : Int) (hp : 0 ≤ p) (hp' : p < 1000000000000) (x y q : Int) (hx : 0 ≤ x ∧ x ≤ 255) (hy : 0 ≤ y ∧ y ≤ 255) (hq : 0 ≤ q ∧ q ≤ p) :
    ∃ z, wrap64 ((wrap64 ((wrap64 ((wrap64 (x * 131)) + (wrap64 (y * 1117)))) + (wrap64 (p * 29)))) + (wrap64 (q * 53))) = z ∧ 0 ≤ z ∧ z < 1000000000000000 := by
  refine ⟨x * 131 + y * 1117 + p * 29 + q * 53, ?_, by omega, by omega⟩
  rw [wrap_id (n := x * 131) (by omega) (by omega), wrap_id (n := y * 1117) (by omega) (by omega), wrap_id (n := p * 29) (by omega) (by omega), wrap_id (n := q * 53) (by omega) (by omega),
    wrap_id (n := x * 131 + y * 1117) (by omega) (by omega), wrap_id (n := x * 131 + y * 1117 + p * 29) (by omega) (by omega), wrap_id (n := x * 131 + y * 1117 + p * 29 + q * 53) (by omega) (by omega)]
theorem spec_l13Rd_pick_f (l : List Int) (hl : Bytes l) (p n : Int) (hp : 0 ≤ p) (hp' : p < 1000000000000) (hn : 1 ≤ n) :
    ∃ r, (∀ k, 1 ≤ k → spec_l13Rd_pick.f k l p n = some (r, p + 1)) ∧ 0 ≤ r ∧ r < n := by
  have e1 : wrap64 (p + 1) = p + 1 := wrap_id (by omega) (by omega)
  have e2 : wrap64 (p + 1 - 1) = p := by rw [show p + 1 - 1 = p by omega]; exact wrap_id (by omega) (by omega)
  by_cases h0 : l.length = 0
  · refine ⟨0, fun k hk => ?_, by omega, by omega⟩
    obtain ⟨m, rfl, _⟩ := succ_of hk
    unfold spec_l13Rd_pick.f
    rw [if_neg (by omega), e1]
    simp only [spec_l13Rd_pick.j0]
    rw [if_pos (by rw [h0]; rfl)]
  · have hb : ((l.length : Int) == 0) = false := beq_eq_false_iff_ne.mpr (by omega)
    by_cases c : p < (l.length : Int)
    · have hb2 := rd_byte hl.2 p
      refine ⟨Int.tmod (rd l p) n, fun k hk => ?_, tmod_small hb2.1 hn⟩
      obtain ⟨m, rfl, _⟩ := succ_of hk
      unfold spec_l13Rd_pick.f
      rw [if_neg (by omega), e1, hb]
      simp only [spec_l13Rd_pick.j0]
      rw [if_neg (by decide), e2, if_pos c, if_pos hp, if_neg (by omega), wrap_id (n := rd l p) (by omega) (by omega)]
    · have hL : (1 : Int) ≤ l.length := by omega
      have t1 := tmod_small hp hL
      have h7 : wrap64 (p * 7) = p * 7 := wrap_id (by omega) (by omega)
      have h73 : wrap64 (p * 7 + 3) = p * 7 + 3 := wrap_id (by omega) (by omega)
      have t2 := tmod_small (a := p * 7 + 3) (by omega) hL
      have b1 := rd_byte hl.2 (Int.tmod p l.length)
      have b2 := rd_byte hl.2 (Int.tmod (p * 7 + 3) l.length)
      have q1 := tdiv_small hp hL
      have w1 := wrap_id (n := rd l (Int.tmod p l.length)) (by omega) (by omega)
      have w2 := wrap_id (n := rd l (Int.tmod (p * 7 + 3) l.length)) (by omega) (by omega)
      have w3 := wrap_id (n := Int.tdiv p l.length) (by omega) (by omega)
      obtain ⟨z, hz, z0, z1⟩ := mixed l hl (by omega) p hp hp' _ _ _ b1 b2 q1
      have q2 := tdiv_small (a := z) (n := 64) z0 (by omega)
      have w4 := wrap_id (n := Int.tdiv z 64) (by omega) (by omega)
      have x1 := xor_nonneg z (Int.tdiv z 64) z0 (by omega) q2.1 (by omega)
      refine ⟨Int.tmod (Go.bits .xor .i64 z (Int.tdiv z 64)) n, fun k hk => ?_, tmod_small x1.1 hn⟩
      obtain ⟨m, rfl, _⟩ := succ_of hk
      unfold spec_l13Rd_pick.f
      rw [if_neg (by omega), e1, hb]
      simp only [spec_l13Rd_pick.j0]
      rw [if_neg (by decide), e2, if_neg c, if_neg (by omega), if_pos t1.1, if_pos t1.2, h7, h73, if_pos t2.1, if_pos t2.2, if_neg (by omega), w1, w2, w3, hz, w4]
theorem spec_l13Rd_num_f (l : List Int) (hl : Bytes l) (p : Int) (hp : 0 ≤ p) (hp' : p < 1000000000000) (xs : List Int) (hx : 0 < xs.length) :
    ∃ r, (∀ k, 1 ≤ k → spec_l13Rd_num.f k l p xs = some (r, p + 1)) ∧ r ∈ xs := by
  obtain ⟨r, hr, r0, r1⟩ := spec_l13Rd_pick_f l hl p xs.length hp hp' (by omega)
  refine ⟨rd xs r, fun k hk => ?_, ?_⟩
  · unfold spec_l13Rd_num.f
    rw [hr k hk]
    simp only [Option.bind_some]
    rw [if_pos r0, if_pos r1]
  · unfold rd
    rw [List.getD_eq_getElem?_getD, List.getElem?_eq_getElem (by omega)]
    exact List.getElem_mem _
theorem spec_l13Rd_of_f (l : List Int) (hl : Bytes l) (p : Int) (hp : 0 ≤ p) (hp' : p < 1000000000000) (xs : List ByteArray) (hx : 0 < xs.length) :
    ∃ r, (∀ k, 1 ≤ k → spec_l13Rd_of.f k l p xs = some (r, p + 1)) ∧ r ∈ xs := by
  obtain ⟨r, hr, r0, r1⟩ := spec_l13Rd_pick_f l hl p xs.length hp hp' (by omega)
  refine ⟨rdOf ByteArray.empty xs r, fun k hk => ?_, ?_⟩
  · unfold spec_l13Rd_of.f
    rw [hr k hk]
    simp only [Option.bind_some]
    rw [if_pos r0, if_pos r1]
  · unfold rdOf
    rw [List.getD_eq_getElem?_getD, List.getElem?_eq_getElem (by omega)]
    exact List.getElem_mem _
def names6 : List ByteArray := [(⟨#[97]⟩ : ByteArray), (⟨#[98]⟩ : ByteArray), (⟨#[99]⟩ : ByteArray), (⟨#[100]⟩ : ByteArray), (⟨#[109, 97, 105, 110]⟩ : ByteArray), (⟨#[101]⟩ : ByteArray)]
theorem spec_l1Name_f (l : List Int) (hl : Bytes l) (p : Int) (hp : 0 ≤ p) (hp' : p < 1000000000000) :
    ∃ r, (∀ k, 1 ≤ k → spec_l1Name.f k l p = some (r, p + 1)) ∧ r ∈ names6 := by
  obtain ⟨r, hr, hm⟩ := spec_l13Rd_of_f l hl p hp hp' names6 (by decide)
  refine ⟨r, fun k hk => ?_, hm⟩
  unfold spec_l1Name.f
  have e := hr k hk
  unfold names6 at e
  rw [e]
  rfl
/-- A place further on, at most n places. -/
def On (p q : Int) (n : Int) : Prop := p ≤ q ∧ q ≤ p + n
theorem spec_l1Ins_f (l : List Int) (hl : Bytes l) (p : Int) (hp : 0 ≤ p) (hp' : p < 900000000000) :
    ∃ a b s q, (∀ k, 4 ≤ k → spec_l1Ins.f k l p = some (a, b, s, q)) ∧ On p q 2 ∧ s.size ≤ 4 := by
  obtain ⟨r, hr, r0, r1⟩ := spec_l13Rd_pick_f l hl p 8 hp (by omega) (by omega)
  obtain ⟨n1, hn1, _⟩ := spec_l13Rd_num_f l hl (p + 1) (by omega) (by omega) [1, (-1), 2, 5, (-3)] (by decide)
  obtain ⟨n2, hn2, _⟩ := spec_l13Rd_num_f l hl (p + 1) (by omega) (by omega) [6, 6, 7, 4] (by decide)
  obtain ⟨s1, hs1, hm1⟩ := spec_l1Name_f l hl (p + 1) (by omega) (by omega)
  have hz1 : s1.size ≤ 4 := by
    simp only [names6, List.mem_cons, List.not_mem_nil, or_false] at hm1
    rcases hm1 with rfl | rfl | rfl | rfl | rfl | rfl <;> decide
  have j2 : ∀ k, 1 ≤ k → ∀ b, ∃ a' b' s' q', (spec_l1Ins.j2 (k + 1) r b l (p + 1) = some (a', b', s', q')) ∧ On p q' 2 ∧ s'.size ≤ 4 ∧ ((b = true ∧ a' = 3 ∧ b' = 0 ∧ s' = s1 ∧ q' = p + 1 + 1) ∨ (b = false ∧ r = 6 ∧ a' = 5 ∧ b' = 0 ∧ s' = s1 ∧ q' = p + 1 + 1) ∨ (b = false ∧ r ≠ 6 ∧ a' = n2 ∧ b' = 0 ∧ s' = ⟨#[]⟩ ∧ q' = p + 1 + 1)) := by
    intro k hk b
    simp only [spec_l1Ins.j2]
    rw [hs1 k hk, hn2 k hk]
    cases b with
    | true => exact ⟨3, 0, s1, p + 1 + 1, rfl, ⟨by omega, by omega⟩, hz1, .inl ⟨rfl, rfl, rfl, rfl, rfl⟩⟩
    | false =>
      by_cases h6 : r = 6
      · exact ⟨5, 0, s1, p + 1 + 1, by rw [if_neg (by decide), if_pos h6]; rfl, ⟨by omega, by omega⟩, hz1, .inr (.inl ⟨rfl, h6, rfl, rfl, rfl, rfl⟩)⟩
      · exact ⟨n2, 0, ⟨#[]⟩, p + 1 + 1, by rw [if_neg (by decide), if_neg h6]; rfl, ⟨by omega, by omega⟩, by decide, .inr (.inr ⟨rfl, h6, rfl, rfl, rfl, rfl⟩)⟩
  -- which of the ways it goes hangs on r alone
  by_cases h01 : r = 0 ∨ r = 1
  · refine ⟨1, 0, ⟨#[]⟩, p + 1, fun k hk => ?_, ⟨by omega, by omega⟩, by decide⟩
    obtain ⟨m, rfl, _⟩ := succ_of (d := 3) hk
    unfold spec_l1Ins.f
    rw [hr _ (by omega)]
    simp only [Option.bind_some, spec_l1Ins.j0]
    rcases h01 with rfl | rfl <;> rfl
  · by_cases h23 : r = 2 ∨ r = 3
    · refine ⟨2, n1, ⟨#[]⟩, p + 1 + 1, fun k hk => ?_, ⟨by omega, by omega⟩, by decide⟩
      obtain ⟨m, rfl, hm⟩ := succ_of (d := 3) hk
      obtain ⟨m, rfl, hm2⟩ := succ_of (d := 2) hm
      unfold spec_l1Ins.f
      rw [hr _ (by omega)]
      simp only [Option.bind_some, spec_l1Ins.j0, spec_l1Ins.j1]
      rw [hn1 m (by omega)]
      rcases h23 with rfl | rfl <;> rfl
    · by_cases h45 : r = 4 ∨ r = 5
      · refine ⟨3, 0, s1, p + 1 + 1, fun k hk => ?_, ⟨by omega, by omega⟩, hz1⟩
        obtain ⟨m, rfl, hm⟩ := succ_of (d := 3) hk
        obtain ⟨m, rfl, hm2⟩ := succ_of (d := 2) hm
        obtain ⟨m, rfl, hm3⟩ := succ_of (d := 1) hm2
        unfold spec_l1Ins.f
        rw [hr _ (by omega)]
        simp only [Option.bind_some, spec_l1Ins.j0, spec_l1Ins.j1, spec_l1Ins.j2]
        rw [hs1 m (by omega)]
        rcases h45 with rfl | rfl <;> rfl
      · obtain ⟨a', b', s', q', _, hon, hsz, hwhat⟩ := j2 1 (Nat.le_refl _) false
        refine ⟨a', b', s', q', fun k hk => ?_, hon, hsz⟩
        obtain ⟨m, rfl, hm⟩ := succ_of (d := 3) hk
        obtain ⟨m, rfl, hm2⟩ := succ_of (d := 2) hm
        obtain ⟨m, rfl, hm3⟩ := succ_of (d := 1) hm2
        unfold spec_l1Ins.f
        rw [hr _ (by omega)]
        have e1 : (r == 1) = false := beq_eq_false_iff_ne.mpr (by omega)
        have e3 : (r == 3) = false := beq_eq_false_iff_ne.mpr (by omega)
        have e5 : (r == 5) = false := beq_eq_false_iff_ne.mpr (by omega)
        simp only [Option.bind_some]
        rw [if_neg (by omega), e1]
        simp only [spec_l1Ins.j0]
        rw [if_neg (by decide), if_neg (by omega), e3]
        simp only [spec_l1Ins.j1]
        rw [if_neg (by decide), if_neg (by omega), e5]
        simp only [spec_l1Ins.j2]
        rw [if_neg (by decide), hs1 m (by omega), hn2 m (by omega)]
        rcases hwhat with ⟨h, _⟩ | ⟨_, h6, rfl, rfl, rfl, rfl⟩ | ⟨_, h6, rfl, rfl, rfl, rfl⟩
        · exact absurd h (by decide)
        · rw [if_pos h6]; rfl
        · rw [if_neg h6]; rfl
theorem spec_l1Right_f (l : List Int) (hl : Bytes l) (p : Int) (hp : 0 ≤ p) (hp' : p < 900000000000) :
    ∃ a b s q, (∀ k, 4 ≤ k → spec_l1Right.f k l p = some (a, b, s, q)) ∧ On p q 3 ∧ s.size ≤ 4 := by
  obtain ⟨a, b, s, q, h, hq, hs⟩ := spec_l1Ins_f l hl p hp hp'
  by_cases c : a = 4
  · obtain ⟨s2, h2, hm⟩ := spec_l1Name_f l hl q (by have := hq.1; omega) (by have := hq.2; omega)
    refine ⟨a, b, s2, q + 1, fun k hk => ?_, ⟨by have := hq.1; omega, by have := hq.2; omega⟩, ?_⟩
    · unfold spec_l1Right.f
      rw [h k hk]
      simp only [Option.bind_some]
      rw [if_pos c, h2 k (by omega)]
      rfl
    · simp only [names6, List.mem_cons, List.not_mem_nil, or_false] at hm
      rcases hm with rfl | rfl | rfl | rfl | rfl | rfl <;> decide
  · refine ⟨a, b, s, q, fun k hk => ?_, ⟨hq.1, by have := hq.2; omega⟩, hs⟩
    unfold spec_l1Right.f
    rw [h k hk]
    simp only [Option.bind_some]
    rw [if_neg c]
theorem spec_l1Bent_f (l : List Int) (hl : Bytes l) (p : Int) (hp : 0 ≤ p) (hp' : p < 900000000000) :
    ∃ a b s q, (∀ k, 4 ≤ k → spec_l1Bent.f k l p = some (a, b, s, q)) ∧ On p q 5 ∧ s.size ≤ 7 := by
  obtain ⟨a, b, s, q, h, hq, hs⟩ := spec_l1Right_f l hl p hp hp'
  have q0 := hq.1
  have q1 := hq.2
  obtain ⟨r, hr, r0, r1⟩ := spec_l13Rd_pick_f l hl q 30 (by omega) (by omega) (by omega)
  obtain ⟨n1, hn1, _⟩ := spec_l13Rd_num_f l hl (q + 1) (by omega) (by omega) [0, 8, (-1), 1] (by decide)
  obtain ⟨n2, hn2, _⟩ := spec_l13Rd_num_f l hl (q + 1) (by omega) (by omega) [1, 1000, 1001] (by decide)
  obtain ⟨s1, hs1, hm1⟩ := spec_l13Rd_of_f l hl (q + 1) (by omega) (by omega) [(⟨#[65]⟩ : ByteArray), (⟨#[97, 98, 99, 100, 101, 102, 103]⟩ : ByteArray), (⟨#[97, 32, 98]⟩ : ByteArray), (⟨#[120]⟩ : ByteArray)] (by decide)
  have hz1 : s1.size ≤ 7 := by
    simp only [List.mem_cons, List.not_mem_nil, or_false] at hm1
    rcases hm1 with rfl | rfl | rfl | rfl <;> decide
  by_cases c0 : r = 0
  · refine ⟨n1, b, s, q + 1 + 1, fun k hk => ?_, ⟨by omega, by omega⟩, by omega⟩
    unfold spec_l1Bent.f
    rw [h k hk]; simp only [Option.bind_some]
    rw [hr k (by omega)]; simp only [Option.bind_some]
    rw [if_pos c0, hn1 k (by omega)]; rfl
  · by_cases c1 : r = 1
    · refine ⟨a, n2, s, q + 1 + 1, fun k hk => ?_, ⟨by omega, by omega⟩, by omega⟩
      unfold spec_l1Bent.f
      rw [h k hk]; simp only [Option.bind_some]
      rw [hr k (by omega)]; simp only [Option.bind_some]
      rw [if_neg c0, if_pos c1, hn2 k (by omega)]; rfl
    · by_cases c2 : r = 2
      · refine ⟨a, b, s1, q + 1 + 1, fun k hk => ?_, ⟨by omega, by omega⟩, hz1⟩
        unfold spec_l1Bent.f
        rw [h k hk]; simp only [Option.bind_some]
        rw [hr k (by omega)]; simp only [Option.bind_some]
        rw [if_neg c0, if_neg c1, if_pos c2, hs1 k (by omega)]; rfl
      · refine ⟨a, b, s, q + 1, fun k hk => ?_, ⟨by omega, by omega⟩, by omega⟩
        unfold spec_l1Bent.f
        rw [h k hk]; simp only [Option.bind_some]
        rw [hr k (by omega)]; simp only [Option.bind_some]
        rw [if_neg c0, if_neg c1, if_neg c2]
end Go.Proofs.Ytpckkkcaffhhnaa.L

-- made by printx.py (own driver over the kit's print); Lean checks it
namespace Go.Proofs.Ytpckkkcaffhhnaa.P
open Go.RowKit Go.Proofs.YtpckkkcaffhhnaaW.PrintWords Go.Proofs.YtpckkkcaffhhnaaW.PrintLast Go.Proofs.YtpckkkcaffhhnaaW.PrintMore
attribute [local go_sem] max2_int min2_int max_two min_two max_three min_three max_four min_four   -- for this text's walks alone
set_option linter.unusedVariables false
set_option linter.unusedSimpArgs false

/-! ### slices_IndexFunc_simpl_Fun_impl_Fun: function 113 -/
-- IMPORT Derived.Test.YtpckkkcaffhhnaaLSeq
open Go.Proofs.Ytpckkkcaffhhnaa.L in
set_option maxHeartbeats 4000000 in
set_option maxRecDepth 100000 in
theorem idxFun_calls (A0 : Option Addr) (c0 : Nat) (l0 : List S30) (lb : Array Value) (p : S30 → Bool) (w : World) (hr0 : Kd.C k30 w A0 l0.length l0) (hc0 : l0.length ≤ c0)
    (hp : ∀ (W : World) (x : S30) (A2 : Option Addr) (c2 : Nat), Below w.heap.size w W → x ∈ l0 → x.f2.length ≤ c2 → Kd.C k38 W A2 x.f2.length x.f2 → Calls Try.prog 114 ((#[.agg #[.string x.f0, .bool x.f1, .slice A2 x.f2.length c2]] : Array Value) ++ lb) W fun e w' => e = .returned (.bool (p x)) ∧ Below W.heap.size W w') :
    Calls Try.prog 113 #[.slice A0 l0.length c0, .func (.func 114) #[] lb] w fun e w' => e = .returned (.int .i64 (idxFrom p l0 0)) ∧ Below w.heap.size w w' := by
  have HR0 := Aside0.mk hr0
  have HN : l0.length ≤ 9223372036854775807 := hr0.2.1
  have HPP := Aside0.mk hp
  clear hr0 hp
  go_enter Try.func113, Try.ntmps113
  go_wp2
  go_loopg [5, 8] l0.length (fun gg _ s8 wr => ∃ kk : Nat, s8 = .int .i64 kk ∧ Aside0 (kk ≤ l0.length) ∧ Aside0 (l0.length - kk ≤ gg) ∧ Aside0 (Below w.heap.size w wr) ∧ Aside0 (∀ i, i < kk → p (l0.getD i z30) = false))
  case atStart => exact ⟨0, rfl, ⟨Nat.zero_le _⟩, ⟨by omega⟩, ⟨Below.refl _ w⟩, ⟨fun i hi => absurd hi (Nat.not_lt_zero _)⟩⟩
  case round =>
    obtain ⟨kk, rfl, HK, HG, HB, HP⟩ := hrel
    by_cases hlt : kk < l0.length
    · obtain ⟨ad, A2, c2, e, hx0, hx1, hx2, hl2, hi2⟩ := at_T30 HR0.out kk (by omega) (by omega)
      cases e
      have hy0 := pw_cell_below HB.out hx0
      have hy1 := pw_cell_below HB.out hx1
      have hy2 := pw_cell_below HB.out hx2
      simp only [Int.toNat_natCast] at hy0 hy1 hy2
      have hcall := HPP.out wr (rd_T30 l0 (kk : Int)) A2 c2 HB.out (by show l0.getD (kk : Int).toNat z30 ∈ l0; rw [Int.toNat_natCast]; exact getD_mem hlt) hl2 (Kd.C_below hi2 HB.out)
      clear hx0 hx1 hx2 hl2 hi2
      have hlb : decide (kk < l0.length) = true := decide_eq_true hlt
      have hli : decide ((kk : Int) < (l0.length : Int)) = true := decide_eq_true (by omega)
      have hq2 : p (rd_T30 l0 (kk : Int)) = p (l0.getD kk z30) := by show p (l0.getD (kk : Int).toNat z30) = _; rw [Int.toNat_natCast]
      rw [hq2] at hcall
      clear hq2
      cases hq : p (l0.getD kk z30) with
      | true =>
        rw [hq] at hcall
        have HQ := Aside0.mk hq
        clear hq
        go_wp2_with (go_at_call 114; refine hcall.mono ?_; rintro e w' ⟨rfl, hb'⟩)
        go_ret
        refine ⟨?_, below_then HB.out HB.out.size hb'⟩
        rw [idxFrom_hit _ z30 l0 0 kk hlt HP.out HQ.out]
        simp
      | false =>
        rw [hq] at hcall
        have HQ := Aside0.mk hq
        clear hq
        go_wp2_with (go_at_call 114; refine hcall.mono ?_; rintro e w' ⟨rfl, hb'⟩)
        go_roundg (l0.length - (kk + 1))
        case measure => have := HG.out; omega
        case rel =>
          refine ⟨kk + 1, by go_num, ⟨by omega⟩, ⟨Nat.le_refl _⟩, ⟨below_then HB.out HB.out.size hb'⟩, ⟨fun i hi => ?_⟩⟩
          by_cases e : i = kk
          · subst e
            exact HQ.out
          · exact HP.out i (by omega)
    · have hlb : decide (kk < l0.length) = false := decide_eq_false hlt
      have hli : decide ((kk : Int) < (l0.length : Int)) = false := decide_eq_false (by omega)
      go_wp2
      go_ret
      refine ⟨?_, HB.out⟩
      rw [idxFrom_miss _ z30 l0 0 (fun i hi => HP.out i (by have := HK.out; omega))]
      rfl


end Go.Proofs.Ytpckkkcaffhhnaa.P

-- made by printx.py (own driver over the kit's print); Lean checks it
namespace Go.Proofs.Ytpckkkcaffhhnaa.P
open Go.RowKit Go.Proofs.YtpckkkcaffhhnaaW.PrintWords Go.Proofs.YtpckkkcaffhhnaaW.PrintLast Go.Proofs.YtpckkkcaffhhnaaW.PrintMore
attribute [local go_sem] max2_int min2_int max_two min_two max_three min_three max_four min_four   -- for this text's walks alone
set_option linter.unusedVariables false
set_option linter.unusedSimpArgs false

/-! ### impl_find: function 65 -/
-- IMPORT Derived.Test.YtpckkkcaffhhnaaLSeq
open Go.Proofs.Ytpckkkcaffhhnaa.L in
/-- The place of the first function of that name, -1 for none. -/
def impl_find.f (l0 : List S30) (a1 : ByteArray) : Option Int := some (idxFrom (fun x => x.f0.toList == a1.toList) l0 0)
set_option maxHeartbeats 1000000 in
theorem find1_calls (s : ByteArray) (b : Bool) (A : Option Addr) (n c : Nat) (B : Nat) (name : ByteArray) (w : World) (hB : w.cell? ⟨B, 0, none⟩ = some (.string name)) (hlt : B < w.heap.size) :
    Calls Try.prog 114 #[.agg #[.string s, .bool b, .slice A n c], .pointer (some ⟨B, 0, none⟩)] w fun e w' => e = .returned (.bool (s.toList == name.toList)) ∧ Below w.heap.size w w' := by
  go_enter Try.func114, Try.ntmps114
  go_wp2
  go_ret
  exact ⟨rfl, (Below.refl _ _).alloc (Nat.le_refl _) _⟩
open Go.Proofs.Ytpckkkcaffhhnaa.L in
set_option maxHeartbeats 2000000 in
theorem impl_find.calls (A0 : Option Addr) (c0 : Nat) (l0 : List S30) (a1 : ByteArray) (r : Int) (w : World) (hr0 : Kd.C k30 w A0 l0.length l0) (hc0 : l0.length ≤ c0) (h : impl_find.f l0 a1 = some r) :
    Calls Try.prog 65 #[.slice A0 l0.length c0, .string a1] w fun e w' => e = .returned (.int .i64 r) ∧ Below w.heap.size w w' := by
  have hcell : ∀ W : World, Below (w.alloc (.cells #[.string a1] 9)).heap.size (w.alloc (.cells #[.string a1] 9)) W → W.cell? ⟨w.heap.size, 0, none⟩ = some (.string a1) := fun W hb =>
    (hb.cell (p := ⟨w.heap.size, 0, none⟩) (by simp)).trans ((blk_cell (blk_new w _) 0).trans rfl)
  have HC := Aside0.mk (idxFun_calls A0 c0 l0 #[.pointer (some ⟨w.heap.size, 0, none⟩)] (fun x => x.f0.toList == a1.toList) (w.alloc (.cells #[.string a1] 9)) (Kd.C_below hr0 (below_alloc (Below.refl _ _) _)) hc0
    (fun W x A2 c2 hb _ _ _ => find1_calls x.f0 x.f1 A2 x.f2.length c2 w.heap.size a1 W (hcell W hb) (Nat.lt_of_lt_of_le (by simp) hb.size)))
  clear hr0 hcell
  obtain rfl := Option.some.inj h
  clear h
  go_enter Try.func65, Try.ntmps65
  go_wp2_with (go_at_call 113; refine HC.out.mono ?_; rintro e w' ⟨rfl, hb'⟩)
  go_ret
  exact ⟨rfl, below_then (below_alloc (Below.refl _ _) _) (below_size (below_alloc (Below.refl _ _) _)) hb'⟩


end Go.Proofs.Ytpckkkcaffhhnaa.P

-- made by printx.py (own driver over the kit's print); Lean checks it
namespace Go.Proofs.Ytpckkkcaffhhnaa.P
open Go.RowKit Go.Proofs.YtpckkkcaffhhnaaW.PrintWords Go.Proofs.YtpckkkcaffhhnaaW.PrintLast Go.Proofs.YtpckkkcaffhhnaaW.PrintMore
attribute [local go_sem] max2_int min2_int max_two min_two max_three min_three max_four min_four   -- for this text's walks alone
set_option linter.unusedVariables false
set_option linter.unusedSimpArgs false

/-! ### impl_funsOk: function 112 -/
def impl_funsOk.l0 : Nat → List (S30) → List (S30) → Int → Int → Option (Bool)
  | 0, _, _, _, _ => none
  | k + 1, x0, x5, x6, x7 => if x7 < x6 then (if 0 ≤ x7 then (if x7 < (x5.length : Int) then ((impl_FunOk.f ((rd_T30 x5 x7).f0) ((rd_T30 x5 x7).f1) ((rd_T30 x5 x7).f2)).bind fun t238 => (if t238 = true then ((impl_find.f x0 ((rd_T30 x5 x7).f0)).bind fun t239 => (if t239 = x7 then (impl_funsOk.l0 k x0 x5 x6 (wrap64 (x7 + 1))) else (some false))) else (some false))) else (none)) else (none)) else (some true)
def impl_funsOk.f (k : Nat) (l0 : List (S30)) : Option (Bool) := impl_funsOk.l0 k l0 l0 (l0.length : Int) 0
theorem impl_funsOk.mono_l : ∀ k, (∀ y0 y1 y2 y3, LeO (impl_funsOk.l0 k y0 y1 y2 y3) (impl_funsOk.l0 (k + 1) y0 y1 y2 y3))
  | 0 => fun _ _ _ _ r h => by simp [impl_funsOk.l0] at h
  | k + 1 => by
    have ih0 := impl_funsOk.mono_l k
    · intro y0 y1 y2 y3
      unfold impl_funsOk.l0
      repeat' first
      | (with_reducible exact ih0 _ _ _ _)
      | (with_reducible exact LeO.refl _)
      | (with_reducible exact LeO.none _)
      | (with_reducible refine LeO.ite ?_ ?_)
      | (with_reducible refine LeO.bind ?_ (fun _ => ?_))
      | exact ih0 _ _ _ _
      | exact LeO.none _
      | refine LeO.ite ?_ ?_
      | refine LeO.bind ?_ (fun _ => ?_)
theorem impl_funsOk.mono : ∀ a0 k, LeO (impl_funsOk.f k a0) (impl_funsOk.f (k + 1) a0) := by
  intro a0 k
  have ih0 := impl_funsOk.mono_l k
  unfold impl_funsOk.f
  repeat' first
      | (with_reducible exact ih0 _ _ _ _)
      | (with_reducible exact LeO.refl _)
      | (with_reducible exact LeO.none _)
      | (with_reducible refine LeO.ite ?_ ?_)
      | (with_reducible refine LeO.bind ?_ (fun _ => ?_))
      | exact ih0 _ _ _ _
      | exact LeO.none _
      | refine LeO.ite ?_ ?_
      | refine LeO.bind ?_ (fun _ => ?_)
set_option maxHeartbeats 8000000 in
set_option maxRecDepth 100000 in
theorem impl_funsOk.calls (k : Nat) (A0 : Option Addr) (c0 : Nat) (l0 : List (S30)) (r : Bool) (w : World) (hr0 : Kd.C k30 w A0 l0.length l0) (hc0 : l0.length ≤ c0) (h : impl_funsOk.f k l0 = some r) :
    Calls Try.prog 112 #[.slice A0 l0.length c0] w fun e w' => e = .returned (.bool r) ∧ Below w.heap.size w w' := by
  have hu30 := Try.underlying30
  have HR0 := Aside0.mk hr0
  have HC0 := Aside0.mk hc0
  clear hr0 hc0
  have HB := Aside0.mk (Below.refl w.heap.size w)
  have H : (impl_funsOk.l0 k l0 l0 (l0.length : Int) 0) = some r := h
  clear h
  have H' := Aside0.mk H
  clear H
  go_enter Try.func112, Try.ntmps112
  go_wp2
  go_loopg [7] k (fun kq v7 w' => ∃ (x7_1 : Int), v7 = .int .i64 x7_1 ∧ Aside0 (impl_funsOk.l0 kq l0 l0 (l0.length : Int) x7_1 = some r) ∧ Aside0 (kq ≤ k) ∧ Aside0 (Below w.heap.size w w'))
  case atStart => exact ⟨(0), (by first | rfl | (simp; done) | (simp [*]; done)), H', ⟨Nat.le_refl _⟩, ⟨by repeat (first | (with_reducible first | exact HB.out | apply below_alloc | apply pw_below_drewN | apply below_drew1) | exact HB.out)⟩⟩
  case round =>
    clear H'
    try clear c1
    obtain ⟨x7_1, rfl, HA, HK1, HB⟩ := hrel
    cases gk with
    | zero => exact absurd HA.out (by simp [impl_funsOk.l0])
    | succ k1 =>
      have H := HA.out
      clear HA
      simp only [impl_funsOk.l0] at H
      by_cases c2 : x7_1 < (l0.length : Int)
      · rw [if_pos c2] at H
        have c2b0 : decide (x7_1 < (l0.length : Int)) = true := decide_eq_true c2
        clear c2
        by_cases c3 : 0 ≤ x7_1
        · rw [if_pos c3] at H
          have c3b0 : decide (0 ≤ x7_1) = true := decide_eq_true c3
          clear c3
          by_cases c4 : x7_1 < (l0.length : Int)
          · rw [if_pos c4] at H
            have c4b0 : decide (x7_1 < (l0.length : Int)) = true := decide_eq_true c4
            clear c4
            replace H := Option.bind_eq_some_iff.mp H
            obtain ⟨t238, A50, H⟩ := H
            replace H : (if t238 = true then ((impl_find.f l0 ((rd_T30 l0 x7_1).f0)).bind fun t239 => (if t239 = x7_1 then (impl_funsOk.l0 k1 l0 l0 (l0.length : Int) (wrap64 (x7_1 + 1))) else (some false))) else (some false)) = some r := H
            have A5 := Aside0.mk A50
            clear A50
            by_cases c6 : t238 = true
            · subst c6
              have H1 : ((impl_find.f l0 ((rd_T30 l0 x7_1).f0)).bind fun t239 => (if t239 = x7_1 then (impl_funsOk.l0 k1 l0 l0 (l0.length : Int) (wrap64 (x7_1 + 1))) else (some false))) = some r := by rw [if_pos rfl] at H; exact H
              clear H
              have H := H1
              clear H1
              replace H := Option.bind_eq_some_iff.mp H
              obtain ⟨t239, A70, H⟩ := H
              replace H : (if t239 = x7_1 then (impl_funsOk.l0 k1 l0 l0 (l0.length : Int) (wrap64 (x7_1 + 1))) else (some false)) = some r := H
              have A7 := Aside0.mk A70
              clear A70
              by_cases c8 : t239 = x7_1
              · rw [if_pos c8] at H
                have c8b0 : (t239 == x7_1) = true := beq_iff_eq.mpr c8
                have c8b1 : (t239 != x7_1) = false := bne_eq_false_iff_eq.mpr c8
                clear c8
                have H' := Aside0.mk H
                clear H
                have p236 : 0 ≤ (x7_1 : Int) := of_decide_eq_true (by first | (with_reducible assumption) | assumption)
                have q236 : x7_1 < (l0.length : Int) := of_decide_eq_true (by first | (with_reducible assumption) | assumption)
                obtain ⟨ad236, A236_2, c236_2, e236, hx236_0, hx236_1, hx236_2, hl236_2, hi236_2⟩ := at_T30 HR0.out x7_1 p236 q236
                cases e236
                replace hx236_0 := (HB.out.cell (World.block_lt_of_cell? w _ hx236_0)).trans hx236_0
                replace hx236_1 := (HB.out.cell (World.block_lt_of_cell? w _ hx236_1)).trans hx236_1
                replace hx236_2 := (HB.out.cell (World.block_lt_of_cell? w _ hx236_2)).trans hx236_2
                have HR236_2 := Aside0.mk hi236_2
                have HC236_2 := Aside0.mk hl236_2
                clear hi236_2 hl236_2
                replace p236 := eq_true p236
                replace q236 := eq_true q236
                go_wp2_with (first | ((with_reducible refine gate_dst (N := 4) rfl ?_); refine box_event ?hg (N := 4) ?hd (cs := #[.string (⟨#[]⟩ : ByteArray), .bool false, .slice none 0 0]) (t := 30) ?hr ?_; (case hd => rfl); (case hg => rfl); (case hr => first | (go_simp; done) | (go_simp; rfl)); intro gb237 hg w9 hbox hb; have n0_ := Aside0.mk (below_step (by repeat (first | (with_reducible first | exact HB.out | apply below_alloc | apply pw_below_drewN | apply below_drew1) | exact HB.out)) hb); have n1_ := Aside0.mk (hbox); have n2_ := Aside0.mk ((by rw [hg]; exact (below_size (by repeat (first | (with_reducible first | exact HB.out | apply below_alloc | apply pw_below_drewN | apply below_drew1) | exact HB.out))) : w.heap.size ≤ gb237)); have n3_ := Aside0.mk ((by rw [hg]; exact (below_size (by repeat (first | (with_reducible first | exact HB.out | apply below_alloc | apply pw_below_drewN | apply below_drew1) | exact HB.out))) : w.heap.size ≤ gb237)); clear HB; have HB := n0_; have BK237 := n1_; have GW237 := n2_; have GE237 := n3_; clear n0_ n1_ n2_ n3_; clear hb hbox hg; have hcz10_0 : w9.cell? ⟨gb237, 0, none⟩ = some (.string (⟨#[]⟩ : ByteArray)) := (blk_cell BK237.out 0).trans rfl; have hcz10_1 : w9.cell? ⟨gb237, 1, none⟩ = some (.bool false) := (blk_cell BK237.out 1).trans rfl; have hcz10_2 : w9.cell? ⟨gb237, 2, none⟩ = some (.slice none 0 0) := (blk_cell BK237.out 2).trans rfl; have hfz10_0 := blk_frozen BK237.out 0; have hfz10_1 := blk_frozen BK237.out 1; have hfz10_2 := blk_frozen BK237.out 2) | ((with_reducible refine gate_callee (f := 28) rfl ?_); refine goesL_ (some 13) rfl rfl Try.func28 (by kernel_rfl) rfl #[.agg #[.string ((rd_T30 l0 x7_1).f0), .bool ((rd_T30 l0 x7_1).f1), .slice A236_2 ((rd_T30 l0 x7_1).f2).length c236_2]] rfl (by (try simp only [List.map_toArray, List.map_cons, List.map_nil]); first | done | rfl | (simp only [List.length_drop, List.length_take]; rfl)) ?_; (with_reducible refine (impl_FunOk.calls ((rd_T30 l0 x7_1).f0) ((rd_T30 l0 x7_1).f1) _ _ ((rd_T30 l0 x7_1).f2) true _ ?side1 ?side2 A5.out).mono ?_); (case side1 => exact Kd.C_below HR236_2.out (by repeat (first | (with_reducible first | exact HB.out | apply below_alloc | apply pw_below_drewN | apply below_drew1 | refine below_set ?_ GE237.out) | exact HB.out))); (case side2 => exact HC236_2.out); rintro e w11 ⟨rfl, hb⟩; refine ⟨_, rfl, ?_⟩; have n0_ := Aside0.mk (blk_below (g := gb237) (o := .cells #[.string ((rd_T30 l0 x7_1).f0), .bool ((rd_T30 l0 x7_1).f1), .slice A236_2 ((rd_T30 l0 x7_1).f2).length c236_2] 30 (0, 0)) (by (with_reducible repeat (first | refine blk_drewN ?_ _ | refine blk_drew ?_ | refine blk_alloc ?_ _)); refine blk_put (cs := #[.string ((rd_T30 l0 x7_1).f0), .bool ((rd_T30 l0 x7_1).f1), .slice none 0 0]) ?_ 2 _ rfl; (with_reducible repeat (first | refine blk_drewN ?_ _ | refine blk_drew ?_ | refine blk_alloc ?_ _)); refine blk_put (cs := #[.string ((rd_T30 l0 x7_1).f0), .bool false, .slice none 0 0]) ?_ 1 _ rfl; (with_reducible repeat (first | refine blk_drewN ?_ _ | refine blk_drew ?_ | refine blk_alloc ?_ _)); refine blk_put (cs := #[.string (⟨#[]⟩ : ByteArray), .bool false, .slice none 0 0]) ?_ 0 _ rfl; (with_reducible repeat (first | refine blk_drewN ?_ _ | refine blk_drew ?_ | refine blk_alloc ?_ _)); exact BK237.out) hb); have n1_ := Aside0.mk (below_step (by repeat (first | (with_reducible first | exact HB.out | apply below_alloc | apply pw_below_drewN | apply below_drew1 | refine below_set ?_ GE237.out) | exact HB.out)) hb); clear BK237; clear HB; have BK237 := n0_; have HB := n1_; clear n0_ n1_; (try clear hb); (try clear hb2); (try clear hk); (try clear hi); have hcz12_0 : w11.cell? ⟨gb237, 0, none⟩ = some (.string ((rd_T30 l0 x7_1).f0)) := (blk_cell BK237.out 0).trans rfl; have hcz12_1 : w11.cell? ⟨gb237, 1, none⟩ = some (.bool ((rd_T30 l0 x7_1).f1)) := (blk_cell BK237.out 1).trans rfl; have hcz12_2 : w11.cell? ⟨gb237, 2, none⟩ = some (.slice A236_2 ((rd_T30 l0 x7_1).f2).length c236_2) := (blk_cell BK237.out 2).trans rfl; have hfz12_0 := blk_frozen BK237.out 0; have hfz12_1 := blk_frozen BK237.out 1; have hfz12_2 := blk_frozen BK237.out 2) | (go_at_call 65; (with_reducible refine (impl_find.calls _ _ l0 ((rd_T30 l0 x7_1).f0) t239 _ ?side1 ?side2 A7.out).mono ?_); (case side1 => repeat (first | exact (Kd.C_below HR0.out HB.out) | (with_reducible refine Kd.C_alloc ?_ _) | (with_reducible refine Kd.C_drewN ?_ _) | (with_reducible refine Kd.C_drew ?_))); (case side2 => exact HC0.out); rintro e w13 ⟨rfl, hb⟩; have n0_ := Aside0.mk (blk_below (g := gb237) (o := .cells #[.string ((rd_T30 l0 x7_1).f0), .bool ((rd_T30 l0 x7_1).f1), .slice A236_2 ((rd_T30 l0 x7_1).f2).length c236_2] 30 (0, 0)) (by (with_reducible repeat (first | refine blk_drewN ?_ _ | refine blk_drew ?_ | refine blk_alloc ?_ _)); exact BK237.out) hb); have n1_ := Aside0.mk (below_step (by repeat (first | (with_reducible first | exact HB.out | apply below_alloc | apply pw_below_drewN | apply below_drew1 | refine below_set ?_ GE237.out) | exact HB.out)) hb); clear BK237; clear HB; have BK237 := n0_; have HB := n1_; clear n0_ n1_; (try clear hb); (try clear hb2); (try clear hk); (try clear hi)))
                go_roundg k1
                case measure => have := HK1.out; omega
                case rel => exact ⟨(wrap64 (x7_1 + 1)), (by first | rfl | (simp; done) | (simp [*]; done)), H', ⟨by have := HK1.out; omega⟩, ⟨by repeat (first | (with_reducible first | exact HB.out | apply below_alloc | apply pw_below_drewN | apply below_drew1 | refine below_set ?_ GE237.out) | exact HB.out)⟩⟩
              · rw [if_neg c8] at H
                have c8b0 : (t239 == x7_1) = false := beq_eq_false_iff_ne.mpr c8
                have c8b1 : (t239 != x7_1) = true := bne_iff_ne.mpr c8
                obtain rfl := Option.some.inj H
                have p236 : 0 ≤ (x7_1 : Int) := of_decide_eq_true (by first | (with_reducible assumption) | assumption)
                have q236 : x7_1 < (l0.length : Int) := of_decide_eq_true (by first | (with_reducible assumption) | assumption)
                obtain ⟨ad236, A236_2, c236_2, e236, hx236_0, hx236_1, hx236_2, hl236_2, hi236_2⟩ := at_T30 HR0.out x7_1 p236 q236
                cases e236
                replace hx236_0 := (HB.out.cell (World.block_lt_of_cell? w _ hx236_0)).trans hx236_0
                replace hx236_1 := (HB.out.cell (World.block_lt_of_cell? w _ hx236_1)).trans hx236_1
                replace hx236_2 := (HB.out.cell (World.block_lt_of_cell? w _ hx236_2)).trans hx236_2
                have HR236_2 := Aside0.mk hi236_2
                have HC236_2 := Aside0.mk hl236_2
                clear hi236_2 hl236_2
                replace p236 := eq_true p236
                replace q236 := eq_true q236
                go_wp2_with (first | ((with_reducible refine gate_dst (N := 4) rfl ?_); refine box_event ?hg (N := 4) ?hd (cs := #[.string (⟨#[]⟩ : ByteArray), .bool false, .slice none 0 0]) (t := 30) ?hr ?_; (case hd => rfl); (case hg => rfl); (case hr => first | (go_simp; done) | (go_simp; rfl)); intro gb237 hg w14 hbox hb; have n0_ := Aside0.mk (below_step (by repeat (first | (with_reducible first | exact HB.out | apply below_alloc | apply pw_below_drewN | apply below_drew1) | exact HB.out)) hb); have n1_ := Aside0.mk (hbox); have n2_ := Aside0.mk ((by rw [hg]; exact (below_size (by repeat (first | (with_reducible first | exact HB.out | apply below_alloc | apply pw_below_drewN | apply below_drew1) | exact HB.out))) : w.heap.size ≤ gb237)); have n3_ := Aside0.mk ((by rw [hg]; exact (below_size (by repeat (first | (with_reducible first | exact HB.out | apply below_alloc | apply pw_below_drewN | apply below_drew1) | exact HB.out))) : w.heap.size ≤ gb237)); clear HB; have HB := n0_; have BK237 := n1_; have GW237 := n2_; have GE237 := n3_; clear n0_ n1_ n2_ n3_; clear hb hbox hg; have hcz15_0 : w14.cell? ⟨gb237, 0, none⟩ = some (.string (⟨#[]⟩ : ByteArray)) := (blk_cell BK237.out 0).trans rfl; have hcz15_1 : w14.cell? ⟨gb237, 1, none⟩ = some (.bool false) := (blk_cell BK237.out 1).trans rfl; have hcz15_2 : w14.cell? ⟨gb237, 2, none⟩ = some (.slice none 0 0) := (blk_cell BK237.out 2).trans rfl; have hfz15_0 := blk_frozen BK237.out 0; have hfz15_1 := blk_frozen BK237.out 1; have hfz15_2 := blk_frozen BK237.out 2) | ((with_reducible refine gate_callee (f := 28) rfl ?_); refine goesL_ (some 13) rfl rfl Try.func28 (by kernel_rfl) rfl #[.agg #[.string ((rd_T30 l0 x7_1).f0), .bool ((rd_T30 l0 x7_1).f1), .slice A236_2 ((rd_T30 l0 x7_1).f2).length c236_2]] rfl (by (try simp only [List.map_toArray, List.map_cons, List.map_nil]); first | done | rfl | (simp only [List.length_drop, List.length_take]; rfl)) ?_; (with_reducible refine (impl_FunOk.calls ((rd_T30 l0 x7_1).f0) ((rd_T30 l0 x7_1).f1) _ _ ((rd_T30 l0 x7_1).f2) true _ ?side1 ?side2 A5.out).mono ?_); (case side1 => exact Kd.C_below HR236_2.out (by repeat (first | (with_reducible first | exact HB.out | apply below_alloc | apply pw_below_drewN | apply below_drew1 | refine below_set ?_ GE237.out) | exact HB.out))); (case side2 => exact HC236_2.out); rintro e w16 ⟨rfl, hb⟩; refine ⟨_, rfl, ?_⟩; have n0_ := Aside0.mk (blk_below (g := gb237) (o := .cells #[.string ((rd_T30 l0 x7_1).f0), .bool ((rd_T30 l0 x7_1).f1), .slice A236_2 ((rd_T30 l0 x7_1).f2).length c236_2] 30 (0, 0)) (by (with_reducible repeat (first | refine blk_drewN ?_ _ | refine blk_drew ?_ | refine blk_alloc ?_ _)); refine blk_put (cs := #[.string ((rd_T30 l0 x7_1).f0), .bool ((rd_T30 l0 x7_1).f1), .slice none 0 0]) ?_ 2 _ rfl; (with_reducible repeat (first | refine blk_drewN ?_ _ | refine blk_drew ?_ | refine blk_alloc ?_ _)); refine blk_put (cs := #[.string ((rd_T30 l0 x7_1).f0), .bool false, .slice none 0 0]) ?_ 1 _ rfl; (with_reducible repeat (first | refine blk_drewN ?_ _ | refine blk_drew ?_ | refine blk_alloc ?_ _)); refine blk_put (cs := #[.string (⟨#[]⟩ : ByteArray), .bool false, .slice none 0 0]) ?_ 0 _ rfl; (with_reducible repeat (first | refine blk_drewN ?_ _ | refine blk_drew ?_ | refine blk_alloc ?_ _)); exact BK237.out) hb); have n1_ := Aside0.mk (below_step (by repeat (first | (with_reducible first | exact HB.out | apply below_alloc | apply pw_below_drewN | apply below_drew1 | refine below_set ?_ GE237.out) | exact HB.out)) hb); clear BK237; clear HB; have BK237 := n0_; have HB := n1_; clear n0_ n1_; (try clear hb); (try clear hb2); (try clear hk); (try clear hi); have hcz17_0 : w16.cell? ⟨gb237, 0, none⟩ = some (.string ((rd_T30 l0 x7_1).f0)) := (blk_cell BK237.out 0).trans rfl; have hcz17_1 : w16.cell? ⟨gb237, 1, none⟩ = some (.bool ((rd_T30 l0 x7_1).f1)) := (blk_cell BK237.out 1).trans rfl; have hcz17_2 : w16.cell? ⟨gb237, 2, none⟩ = some (.slice A236_2 ((rd_T30 l0 x7_1).f2).length c236_2) := (blk_cell BK237.out 2).trans rfl; have hfz17_0 := blk_frozen BK237.out 0; have hfz17_1 := blk_frozen BK237.out 1; have hfz17_2 := blk_frozen BK237.out 2) | (go_at_call 65; (with_reducible refine (impl_find.calls _ _ l0 ((rd_T30 l0 x7_1).f0) t239 _ ?side1 ?side2 A7.out).mono ?_); (case side1 => repeat (first | exact (Kd.C_below HR0.out HB.out) | (with_reducible refine Kd.C_alloc ?_ _) | (with_reducible refine Kd.C_drewN ?_ _) | (with_reducible refine Kd.C_drew ?_))); (case side2 => exact HC0.out); rintro e w18 ⟨rfl, hb⟩; have n0_ := Aside0.mk (blk_below (g := gb237) (o := .cells #[.string ((rd_T30 l0 x7_1).f0), .bool ((rd_T30 l0 x7_1).f1), .slice A236_2 ((rd_T30 l0 x7_1).f2).length c236_2] 30 (0, 0)) (by (with_reducible repeat (first | refine blk_drewN ?_ _ | refine blk_drew ?_ | refine blk_alloc ?_ _)); exact BK237.out) hb); have n1_ := Aside0.mk (below_step (by repeat (first | (with_reducible first | exact HB.out | apply below_alloc | apply pw_below_drewN | apply below_drew1 | refine below_set ?_ GE237.out) | exact HB.out)) hb); clear BK237; clear HB; have BK237 := n0_; have HB := n1_; clear n0_ n1_; (try clear hb); (try clear hb2); (try clear hk); (try clear hi)))
                go_ret
                exact ⟨by first | rfl | (simp [errW_none, errW_some] <;> rfl) | (simp [*, errW_none, errW_some] <;> rfl), by repeat (first | (with_reducible first | exact HB.out | apply below_alloc | apply pw_below_drewN | apply below_drew1 | refine below_set ?_ GE237.out) | exact HB.out)⟩
            · replace c6 := Bool.eq_false_iff.mpr c6
              subst c6
              have H1 : (some false) = some r := by rw [if_neg (show ¬ (false = true) by decide)] at H; exact H
              clear H
              have H := H1
              clear H1
              obtain rfl := Option.some.inj H
              have p236 : 0 ≤ (x7_1 : Int) := of_decide_eq_true (by first | (with_reducible assumption) | assumption)
              have q236 : x7_1 < (l0.length : Int) := of_decide_eq_true (by first | (with_reducible assumption) | assumption)
              obtain ⟨ad236, A236_2, c236_2, e236, hx236_0, hx236_1, hx236_2, hl236_2, hi236_2⟩ := at_T30 HR0.out x7_1 p236 q236
              cases e236
              replace hx236_0 := (HB.out.cell (World.block_lt_of_cell? w _ hx236_0)).trans hx236_0
              replace hx236_1 := (HB.out.cell (World.block_lt_of_cell? w _ hx236_1)).trans hx236_1
              replace hx236_2 := (HB.out.cell (World.block_lt_of_cell? w _ hx236_2)).trans hx236_2
              have HR236_2 := Aside0.mk hi236_2
              have HC236_2 := Aside0.mk hl236_2
              clear hi236_2 hl236_2
              replace p236 := eq_true p236
              replace q236 := eq_true q236
              go_wp2_with (first | ((with_reducible refine gate_dst (N := 4) rfl ?_); refine box_event ?hg (N := 4) ?hd (cs := #[.string (⟨#[]⟩ : ByteArray), .bool false, .slice none 0 0]) (t := 30) ?hr ?_; (case hd => rfl); (case hg => rfl); (case hr => first | (go_simp; done) | (go_simp; rfl)); intro gb237 hg w19 hbox hb; have n0_ := Aside0.mk (below_step (by repeat (first | (with_reducible first | exact HB.out | apply below_alloc | apply pw_below_drewN | apply below_drew1) | exact HB.out)) hb); have n1_ := Aside0.mk (hbox); have n2_ := Aside0.mk ((by rw [hg]; exact (below_size (by repeat (first | (with_reducible first | exact HB.out | apply below_alloc | apply pw_below_drewN | apply below_drew1) | exact HB.out))) : w.heap.size ≤ gb237)); have n3_ := Aside0.mk ((by rw [hg]; exact (below_size (by repeat (first | (with_reducible first | exact HB.out | apply below_alloc | apply pw_below_drewN | apply below_drew1) | exact HB.out))) : w.heap.size ≤ gb237)); clear HB; have HB := n0_; have BK237 := n1_; have GW237 := n2_; have GE237 := n3_; clear n0_ n1_ n2_ n3_; clear hb hbox hg; have hcz20_0 : w19.cell? ⟨gb237, 0, none⟩ = some (.string (⟨#[]⟩ : ByteArray)) := (blk_cell BK237.out 0).trans rfl; have hcz20_1 : w19.cell? ⟨gb237, 1, none⟩ = some (.bool false) := (blk_cell BK237.out 1).trans rfl; have hcz20_2 : w19.cell? ⟨gb237, 2, none⟩ = some (.slice none 0 0) := (blk_cell BK237.out 2).trans rfl; have hfz20_0 := blk_frozen BK237.out 0; have hfz20_1 := blk_frozen BK237.out 1; have hfz20_2 := blk_frozen BK237.out 2) | ((with_reducible refine gate_callee (f := 28) rfl ?_); refine goesL_ (some 13) rfl rfl Try.func28 (by kernel_rfl) rfl #[.agg #[.string ((rd_T30 l0 x7_1).f0), .bool ((rd_T30 l0 x7_1).f1), .slice A236_2 ((rd_T30 l0 x7_1).f2).length c236_2]] rfl (by (try simp only [List.map_toArray, List.map_cons, List.map_nil]); first | done | rfl | (simp only [List.length_drop, List.length_take]; rfl)) ?_; (with_reducible refine (impl_FunOk.calls ((rd_T30 l0 x7_1).f0) ((rd_T30 l0 x7_1).f1) _ _ ((rd_T30 l0 x7_1).f2) false _ ?side1 ?side2 A5.out).mono ?_); (case side1 => exact Kd.C_below HR236_2.out (by repeat (first | (with_reducible first | exact HB.out | apply below_alloc | apply pw_below_drewN | apply below_drew1 | refine below_set ?_ GE237.out) | exact HB.out))); (case side2 => exact HC236_2.out); rintro e w21 ⟨rfl, hb⟩; refine ⟨_, rfl, ?_⟩; have n0_ := Aside0.mk (blk_below (g := gb237) (o := .cells #[.string ((rd_T30 l0 x7_1).f0), .bool ((rd_T30 l0 x7_1).f1), .slice A236_2 ((rd_T30 l0 x7_1).f2).length c236_2] 30 (0, 0)) (by (with_reducible repeat (first | refine blk_drewN ?_ _ | refine blk_drew ?_ | refine blk_alloc ?_ _)); refine blk_put (cs := #[.string ((rd_T30 l0 x7_1).f0), .bool ((rd_T30 l0 x7_1).f1), .slice none 0 0]) ?_ 2 _ rfl; (with_reducible repeat (first | refine blk_drewN ?_ _ | refine blk_drew ?_ | refine blk_alloc ?_ _)); refine blk_put (cs := #[.string ((rd_T30 l0 x7_1).f0), .bool false, .slice none 0 0]) ?_ 1 _ rfl; (with_reducible repeat (first | refine blk_drewN ?_ _ | refine blk_drew ?_ | refine blk_alloc ?_ _)); refine blk_put (cs := #[.string (⟨#[]⟩ : ByteArray), .bool false, .slice none 0 0]) ?_ 0 _ rfl; (with_reducible repeat (first | refine blk_drewN ?_ _ | refine blk_drew ?_ | refine blk_alloc ?_ _)); exact BK237.out) hb); have n1_ := Aside0.mk (below_step (by repeat (first | (with_reducible first | exact HB.out | apply below_alloc | apply pw_below_drewN | apply below_drew1 | refine below_set ?_ GE237.out) | exact HB.out)) hb); clear BK237; clear HB; have BK237 := n0_; have HB := n1_; clear n0_ n1_; (try clear hb); (try clear hb2); (try clear hk); (try clear hi)))
              go_ret
              exact ⟨by first | rfl | (simp [errW_none, errW_some] <;> rfl) | (simp [*, errW_none, errW_some] <;> rfl), by repeat (first | (with_reducible first | exact HB.out | apply below_alloc | apply pw_below_drewN | apply below_drew1 | refine below_set ?_ GE237.out) | exact HB.out)⟩
          · rw [if_neg c4] at H
            exact absurd H (by simp)
        · rw [if_neg c3] at H
          exact absurd H (by simp)
      · rw [if_neg c2] at H
        have c2b0 : decide (x7_1 < (l0.length : Int)) = false := decide_eq_false c2
        clear c2
        obtain rfl := Option.some.inj H
        go_wp2
        go_ret
        exact ⟨by first | rfl | (simp [errW_none, errW_some] <;> rfl) | (simp [*, errW_none, errW_some] <;> rfl), by repeat (first | (with_reducible first | exact HB.out | apply below_alloc | apply pw_below_drewN | apply below_drew1) | exact HB.out)⟩

/-! ### impl_UnitOk: function 64 -/
def impl_UnitOk.f (k : Nat) (l0 : List (S30)) : Option (Bool) := if (l0.length : Int) ≤ 5 then ((impl_funsOk.f k l0).bind fun t240 => (some t240)) else (some false)
theorem impl_UnitOk.mono : ∀ a0 k, LeO (impl_UnitOk.f k a0) (impl_UnitOk.f (k + 1) a0) := by
  intro a0 k
  unfold impl_UnitOk.f
  repeat' first
      | (with_reducible exact impl_funsOk.mono _ _)
      | (with_reducible exact LeO.refl _)
      | (with_reducible exact LeO.none _)
      | (with_reducible refine LeO.ite ?_ ?_)
      | (with_reducible refine LeO.bind ?_ (fun _ => ?_))
      | exact impl_funsOk.mono _ _
      | exact LeO.none _
      | refine LeO.ite ?_ ?_
      | refine LeO.bind ?_ (fun _ => ?_)
set_option maxHeartbeats 8000000 in
set_option maxRecDepth 100000 in
theorem impl_UnitOk.calls (k : Nat) (A0 : Option Addr) (c0 : Nat) (l0 : List (S30)) (r : Bool) (w : World) (hr0 : Kd.C k30 w A0 l0.length l0) (hc0 : l0.length ≤ c0) (h : impl_UnitOk.f k l0 = some r) :
    Calls Try.prog 64 #[.slice A0 l0.length c0] w fun e w' => e = .returned (.bool r) ∧ Below w.heap.size w w' := by
  have HR0 := Aside0.mk hr0
  have HC0 := Aside0.mk hc0
  clear hr0 hc0
  have HB := Aside0.mk (Below.refl w.heap.size w)
  have H : (if (l0.length : Int) ≤ 5 then ((impl_funsOk.f k l0).bind fun t240 => (some t240)) else (some false)) = some r := h
  clear h
  by_cases c2 : (l0.length : Int) ≤ 5
  · rw [if_pos c2] at H
    have c2b0 : decide ((l0.length : Int) ≤ 5) = true := decide_eq_true c2
    have c2b1 : decide (l0.length ≤ 5) = true := decide_eq_true (by omega)
    clear c2
    replace H := Option.bind_eq_some_iff.mp H
    obtain ⟨t240, A30, H⟩ := H
    replace H : (some t240) = some r := H
    have A3 := Aside0.mk A30
    clear A30
    obtain rfl := Option.some.inj H
    go_enter Try.func64, Try.ntmps64
    go_wp2_with (first | (go_at_call 112; (with_reducible refine (impl_funsOk.calls k _ _ l0 t240 _ ?side1 ?side2 A3.out).mono ?_); (case side1 => repeat (first | exact HR0.out | (with_reducible refine Kd.C_alloc ?_ _) | (with_reducible refine Kd.C_drewN ?_ _) | (with_reducible refine Kd.C_drew ?_))); (case side2 => exact HC0.out); rintro e w4 ⟨rfl, hb⟩; have n0_ := Aside0.mk (below_step (by repeat (first | (with_reducible first | exact HB.out | apply below_alloc | apply pw_below_drewN | apply below_drew1) | exact HB.out)) hb); clear HB; have HB := n0_; clear n0_; (try clear hb); (try clear hb2); (try clear hk); (try clear hi)))
    go_ret
    exact ⟨by first | rfl | (simp [errW_none, errW_some] <;> rfl) | (simp [*, errW_none, errW_some] <;> rfl), by repeat (first | (with_reducible first | exact HB.out | apply below_alloc | apply pw_below_drewN | apply below_drew1) | exact HB.out)⟩
  · rw [if_neg c2] at H
    have c2b0 : decide ((l0.length : Int) ≤ 5) = false := decide_eq_false c2
    have c2b1 : decide (l0.length ≤ 5) = false := decide_eq_false (by omega)
    clear c2
    obtain rfl := Option.some.inj H
    go_enter Try.func64, Try.ntmps64
    go_wp2
    go_ret
    exact ⟨by first | rfl | (simp [errW_none, errW_some] <;> rfl) | (simp [*, errW_none, errW_some] <;> rfl), by repeat (first | (with_reducible first | exact HB.out | apply below_alloc | apply pw_below_drewN | apply below_drew1) | exact HB.out)⟩

end Go.Proofs.Ytpckkkcaffhhnaa.P

-- made by printx.py (own driver over the kit's print); Lean checks it
namespace Go.Proofs.Ytpckkkcaffhhnaa.P
open Go.RowKit Go.Proofs.YtpckkkcaffhhnaaW.PrintWords Go.Proofs.YtpckkkcaffhhnaaW.PrintLast Go.Proofs.YtpckkkcaffhhnaaW.PrintMore
attribute [local go_sem] max2_int min2_int max_two min_two max_three min_three max_four min_four   -- for this text's walks alone
set_option linter.unusedVariables false
set_option linter.unusedSimpArgs false

/-! ### impl_UnitFind: function 16 -/
def impl_UnitFind.f (k : Nat) (l0 : List (S30)) (a1 : ByteArray) : Option (Int) := (impl_UnitOk.f k l0).bind fun t241 => (if t241 = true then ((impl_find.f l0 a1).bind fun t242 => (some t242)) else (some (-1)))
theorem impl_UnitFind.mono : ∀ a0 a1 k, LeO (impl_UnitFind.f k a0 a1) (impl_UnitFind.f (k + 1) a0 a1) := by
  intro a0 a1 k
  unfold impl_UnitFind.f
  repeat' first
      | (with_reducible exact impl_UnitOk.mono _ _)
      | (with_reducible exact LeO.refl _)
      | (with_reducible exact LeO.none _)
      | (with_reducible refine LeO.ite ?_ ?_)
      | (with_reducible refine LeO.bind ?_ (fun _ => ?_))
      | exact impl_UnitOk.mono _ _
      | exact LeO.none _
      | refine LeO.ite ?_ ?_
      | refine LeO.bind ?_ (fun _ => ?_)
set_option maxHeartbeats 8000000 in
set_option maxRecDepth 100000 in
theorem impl_UnitFind.calls (k : Nat) (A0 : Option Addr) (c0 : Nat) (l0 : List (S30)) (a1 : ByteArray) (r : Int) (w : World) (hr0 : Kd.C k30 w A0 l0.length l0) (hc0 : l0.length ≤ c0) (h : impl_UnitFind.f k l0 a1 = some r) :
    Calls Try.prog 16 #[.slice A0 l0.length c0, .string a1] w fun e w' => e = .returned (.int .i64 r) ∧ Below w.heap.size w w' := by
  have HR0 := Aside0.mk hr0
  have HC0 := Aside0.mk hc0
  clear hr0 hc0
  have HB := Aside0.mk (Below.refl w.heap.size w)
  have H : ((impl_UnitOk.f k l0).bind fun t241 => (if t241 = true then ((impl_find.f l0 a1).bind fun t242 => (some t242)) else (some (-1)))) = some r := h
  clear h
  replace H := Option.bind_eq_some_iff.mp H
  obtain ⟨t241, A30, H⟩ := H
  replace H : (if t241 = true then ((impl_find.f l0 a1).bind fun t242 => (some t242)) else (some (-1))) = some r := H
  have A3 := Aside0.mk A30
  clear A30
  by_cases c4 : t241 = true
  · subst c4
    have H1 : ((impl_find.f l0 a1).bind fun t242 => (some t242)) = some r := by rw [if_pos rfl] at H; exact H
    clear H
    have H := H1
    clear H1
    replace H := Option.bind_eq_some_iff.mp H
    obtain ⟨t242, A50, H⟩ := H
    replace H : (some t242) = some r := H
    have A5 := Aside0.mk A50
    clear A50
    obtain rfl := Option.some.inj H
    go_enter Try.func16, Try.ntmps16
    go_wp2_with (first | ((with_reducible refine gate_callee (f := 64) rfl ?_); refine goesL_ (some 6) rfl rfl Try.func64 (by kernel_rfl) rfl #[.slice A0 l0.length c0] rfl (by (try simp only [List.map_toArray, List.map_cons, List.map_nil]); first | done | rfl | (simp only [List.length_drop, List.length_take]; rfl)) ?_; (with_reducible refine (impl_UnitOk.calls k _ _ l0 true _ ?side1 ?side2 A3.out).mono ?_); (case side1 => repeat (first | exact HR0.out | (with_reducible refine Kd.C_alloc ?_ _) | (with_reducible refine Kd.C_drewN ?_ _) | (with_reducible refine Kd.C_drew ?_))); (case side2 => exact HC0.out); rintro e w6 ⟨rfl, hb⟩; refine ⟨_, rfl, ?_⟩; have n0_ := Aside0.mk (below_step (by repeat (first | (with_reducible first | exact HB.out | apply below_alloc | apply pw_below_drewN | apply below_drew1) | exact HB.out)) hb); clear HB; have HB := n0_; clear n0_; (try clear hb); (try clear hb2); (try clear hk); (try clear hi)) | ((with_reducible refine gate_callee (f := 65) rfl ?_); refine goesL_ (some 10) rfl rfl Try.func65 (by kernel_rfl) rfl #[.slice A0 l0.length c0, .string a1] rfl (by (try simp only [List.map_toArray, List.map_cons, List.map_nil]); first | done | rfl | (simp only [List.length_drop, List.length_take]; rfl)) ?_; (with_reducible refine (impl_find.calls _ _ l0 a1 t242 _ ?side1 ?side2 A5.out).mono ?_); (case side1 => repeat (first | exact (Kd.C_below HR0.out HB.out) | (with_reducible refine Kd.C_alloc ?_ _) | (with_reducible refine Kd.C_drewN ?_ _) | (with_reducible refine Kd.C_drew ?_))); (case side2 => exact HC0.out); rintro e w7 ⟨rfl, hb⟩; refine ⟨_, rfl, ?_⟩; have n0_ := Aside0.mk (below_step (by repeat (first | (with_reducible first | exact HB.out | apply below_alloc | apply pw_below_drewN | apply below_drew1) | exact HB.out)) hb); clear HB; have HB := n0_; clear n0_; (try clear hb); (try clear hb2); (try clear hk); (try clear hi)))
    go_ret
    exact ⟨by first | rfl | (simp [errW_none, errW_some] <;> rfl) | (simp [*, errW_none, errW_some] <;> rfl), by repeat (first | (with_reducible first | exact HB.out | apply below_alloc | apply pw_below_drewN | apply below_drew1) | exact HB.out)⟩
  · replace c4 := Bool.eq_false_iff.mpr c4
    subst c4
    have H1 : (some (-1)) = some r := by rw [if_neg (show ¬ (false = true) by decide)] at H; exact H
    clear H
    have H := H1
    clear H1
    obtain rfl := Option.some.inj H
    go_enter Try.func16, Try.ntmps16
    go_wp2_with (first | ((with_reducible refine gate_callee (f := 64) rfl ?_); refine goesL_ (some 6) rfl rfl Try.func64 (by kernel_rfl) rfl #[.slice A0 l0.length c0] rfl (by (try simp only [List.map_toArray, List.map_cons, List.map_nil]); first | done | rfl | (simp only [List.length_drop, List.length_take]; rfl)) ?_; (with_reducible refine (impl_UnitOk.calls k _ _ l0 false _ ?side1 ?side2 A3.out).mono ?_); (case side1 => repeat (first | exact HR0.out | (with_reducible refine Kd.C_alloc ?_ _) | (with_reducible refine Kd.C_drewN ?_ _) | (with_reducible refine Kd.C_drew ?_))); (case side2 => exact HC0.out); rintro e w8 ⟨rfl, hb⟩; refine ⟨_, rfl, ?_⟩; have n0_ := Aside0.mk (below_step (by repeat (first | (with_reducible first | exact HB.out | apply below_alloc | apply pw_below_drewN | apply below_drew1) | exact HB.out)) hb); clear HB; have HB := n0_; clear n0_; (try clear hb); (try clear hb2); (try clear hk); (try clear hi)))
    go_ret
    exact ⟨by first | rfl | (simp [errW_none, errW_some] <;> rfl) | (simp [*, errW_none, errW_some] <;> rfl), by repeat (first | (with_reducible first | exact HB.out | apply below_alloc | apply pw_below_drewN | apply below_drew1) | exact HB.out)⟩

end Go.Proofs.Ytpckkkcaffhhnaa.P

-- made by printx.py (own driver over the kit's print); Lean checks it
namespace Go.Proofs.Ytpckkkcaffhhnaa.P
open Go.RowKit Go.Proofs.YtpckkkcaffhhnaaW.PrintWords Go.Proofs.YtpckkkcaffhhnaaW.PrintLast Go.Proofs.YtpckkkcaffhhnaaW.PrintMore
attribute [local go_sem] max2_int min2_int max_two min_two max_three min_three max_four min_four   -- for this text's walks alone
set_option linter.unusedVariables false
set_option linter.unusedSimpArgs false

/-! ### spec_UnitOk: function 18 -/
def spec_UnitOk.l0 : Nat → List (S30) → Int → Option (Bool)
  | 0, _, _ => none
  | k + 1, x0, x3 => if x3 < (x0.length : Int) then (if 0 ≤ x3 then ((spec_FunOk.f k ((rd_T30 x0 x3).f0) ((rd_T30 x0 x3).f1) ((rd_T30 x0 x3).f2)).bind fun t252 => (if t252 = true then ((spec_l2Find.f k x0 ((rd_T30 x0 x3).f0)).bind fun t254 => (if t254 = x3 then (spec_UnitOk.l0 k x0 (wrap64 (x3 + 1))) else (some false))) else (some false))) else (none)) else (some (decide ((x0.length : Int) ≤ 5)))
def spec_UnitOk.f (k : Nat) (l0 : List (S30)) : Option (Bool) := spec_UnitOk.l0 k l0 0
theorem spec_UnitOk.mono_l : ∀ k, (∀ y0 y1, LeO (spec_UnitOk.l0 k y0 y1) (spec_UnitOk.l0 (k + 1) y0 y1))
  | 0 => fun _ _ r h => by simp [spec_UnitOk.l0] at h
  | k + 1 => by
    have ih0 := spec_UnitOk.mono_l k
    · intro y0 y1
      unfold spec_UnitOk.l0
      repeat' first
      | (with_reducible exact ih0 _ _)
      | (with_reducible exact spec_FunOk.mono _ _ _ _)
      | (with_reducible exact spec_l2Find.mono _ _ _)
      | (with_reducible exact LeO.refl _)
      | (with_reducible exact LeO.none _)
      | (with_reducible refine LeO.ite ?_ ?_)
      | (with_reducible refine LeO.bind ?_ (fun _ => ?_))
      | exact ih0 _ _
      | exact spec_FunOk.mono _ _ _ _
      | exact spec_l2Find.mono _ _ _
      | exact LeO.none _
      | refine LeO.ite ?_ ?_
      | refine LeO.bind ?_ (fun _ => ?_)
theorem spec_UnitOk.mono : ∀ a0 k, LeO (spec_UnitOk.f k a0) (spec_UnitOk.f (k + 1) a0) := by
  intro a0 k
  have ih0 := spec_UnitOk.mono_l k
  unfold spec_UnitOk.f
  repeat' first
      | (with_reducible exact ih0 _ _)
      | (with_reducible exact spec_FunOk.mono _ _ _ _)
      | (with_reducible exact spec_l2Find.mono _ _ _)
      | (with_reducible exact LeO.refl _)
      | (with_reducible exact LeO.none _)
      | (with_reducible refine LeO.ite ?_ ?_)
      | (with_reducible refine LeO.bind ?_ (fun _ => ?_))
      | exact ih0 _ _
      | exact spec_FunOk.mono _ _ _ _
      | exact spec_l2Find.mono _ _ _
      | exact LeO.none _
      | refine LeO.ite ?_ ?_
      | refine LeO.bind ?_ (fun _ => ?_)
set_option maxHeartbeats 8000000 in
set_option maxRecDepth 100000 in
theorem spec_UnitOk.calls (k : Nat) (A0 : Option Addr) (c0 : Nat) (l0 : List (S30)) (r : Bool) (w : World) (hr0 : Kd.C k30 w A0 l0.length l0) (hc0 : l0.length ≤ c0) (h : spec_UnitOk.f k l0 = some r) :
    Calls Try.prog 18 #[.slice A0 l0.length c0] w fun e w' => e = .returned (.bool r) ∧ Below w.heap.size w w' := by
  have hu30 := Try.underlying30
  have HR0 := Aside0.mk hr0
  have HC0 := Aside0.mk hc0
  clear hr0 hc0
  have HB := Aside0.mk (Below.refl w.heap.size w)
  have H : (spec_UnitOk.l0 k l0 0) = some r := h
  clear h
  have H' := Aside0.mk H
  clear H
  go_enter Try.func18, Try.ntmps18
  go_wp2
  go_loopg [3] k (fun kq v3 w' => ∃ (x3_1 : Int), v3 = .int .i64 x3_1 ∧ Aside0 (spec_UnitOk.l0 kq l0 x3_1 = some r) ∧ Aside0 (kq ≤ k) ∧ Aside0 (Below w.heap.size w w'))
  case atStart => exact ⟨(0), (by first | rfl | (simp; done) | (simp [*]; done)), H', ⟨Nat.le_refl _⟩, ⟨by repeat (first | (with_reducible first | exact HB.out | apply below_alloc | apply pw_below_drewN | apply below_drew1) | exact HB.out)⟩⟩
  case round =>
    clear H'
    try clear c1
    obtain ⟨x3_1, rfl, HA, HK1, HB⟩ := hrel
    cases gk with
    | zero => exact absurd HA.out (by simp [spec_UnitOk.l0])
    | succ k1 =>
      have H := HA.out
      clear HA
      simp only [spec_UnitOk.l0] at H
      by_cases c2 : x3_1 < (l0.length : Int)
      · rw [if_pos c2] at H
        have c2b0 : decide (x3_1 < (l0.length : Int)) = true := decide_eq_true c2
        clear c2
        by_cases c3 : 0 ≤ x3_1
        · rw [if_pos c3] at H
          have c3b0 : decide (0 ≤ x3_1) = true := decide_eq_true c3
          clear c3
          replace H := Option.bind_eq_some_iff.mp H
          obtain ⟨t252, A40, H⟩ := H
          replace H : (if t252 = true then ((spec_l2Find.f k1 l0 ((rd_T30 l0 x3_1).f0)).bind fun t254 => (if t254 = x3_1 then (spec_UnitOk.l0 k1 l0 (wrap64 (x3_1 + 1))) else (some false))) else (some false)) = some r := H
          have A4 := Aside0.mk A40
          clear A40
          by_cases c5 : t252 = true
          · subst c5
            have H1 : ((spec_l2Find.f k1 l0 ((rd_T30 l0 x3_1).f0)).bind fun t254 => (if t254 = x3_1 then (spec_UnitOk.l0 k1 l0 (wrap64 (x3_1 + 1))) else (some false))) = some r := by rw [if_pos rfl] at H; exact H
            clear H
            have H := H1
            clear H1
            replace H := Option.bind_eq_some_iff.mp H
            obtain ⟨t254, A60, H⟩ := H
            replace H : (if t254 = x3_1 then (spec_UnitOk.l0 k1 l0 (wrap64 (x3_1 + 1))) else (some false)) = some r := H
            have A6 := Aside0.mk A60
            clear A60
            by_cases c7 : t254 = x3_1
            · rw [if_pos c7] at H
              have c7b0 : (t254 == x3_1) = true := beq_iff_eq.mpr c7
              have c7b1 : (t254 != x3_1) = false := bne_eq_false_iff_eq.mpr c7
              clear c7
              have H' := Aside0.mk H
              clear H
              have p251 : 0 ≤ (x3_1 : Int) := of_decide_eq_true (by first | (with_reducible assumption) | assumption)
              have q251 : x3_1 < (l0.length : Int) := of_decide_eq_true (by first | (with_reducible assumption) | assumption)
              obtain ⟨ad251, A251_2, c251_2, e251, hx251_0, hx251_1, hx251_2, hl251_2, hi251_2⟩ := at_T30 HR0.out x3_1 p251 q251
              cases e251
              replace hx251_0 := (HB.out.cell (World.block_lt_of_cell? w _ hx251_0)).trans hx251_0
              replace hx251_1 := (HB.out.cell (World.block_lt_of_cell? w _ hx251_1)).trans hx251_1
              replace hx251_2 := (HB.out.cell (World.block_lt_of_cell? w _ hx251_2)).trans hx251_2
              have HR251_2 := Aside0.mk hi251_2
              have HC251_2 := Aside0.mk hl251_2
              clear hi251_2 hl251_2
              replace p251 := eq_true p251
              replace q251 := eq_true q251
              go_wp2_with (first | ((with_reducible refine gate_callee (f := 22) rfl ?_); refine goesL_ (some 14) rfl rfl Try.func22 (by kernel_rfl) rfl #[.agg #[.string ((rd_T30 l0 x3_1).f0), .bool ((rd_T30 l0 x3_1).f1), .slice A251_2 ((rd_T30 l0 x3_1).f2).length c251_2]] rfl (by (try simp only [List.map_toArray, List.map_cons, List.map_nil]); first | done | rfl | (simp only [List.length_drop, List.length_take]; rfl)) ?_; (with_reducible refine (spec_FunOk.calls k1 ((rd_T30 l0 x3_1).f0) ((rd_T30 l0 x3_1).f1) _ _ ((rd_T30 l0 x3_1).f2) true _ ?side1 ?side2 A4.out).mono ?_); (case side1 => repeat (first | exact (Kd.C_below HR251_2.out HB.out) | (with_reducible refine Kd.C_alloc ?_ _) | (with_reducible refine Kd.C_drewN ?_ _) | (with_reducible refine Kd.C_drew ?_))); (case side2 => exact HC251_2.out); rintro e w8 ⟨rfl, hb⟩; refine ⟨_, rfl, ?_⟩; have n0_ := Aside0.mk (below_step (by repeat (first | (with_reducible first | exact HB.out | apply below_alloc | apply pw_below_drewN | apply below_drew1) | exact HB.out)) hb); clear HB; have HB := n0_; clear n0_; (try clear hb); (try clear hb2); (try clear hk); (try clear hi); have p253 : 0 ≤ (x3_1 : Int) := of_decide_eq_true (by first | (with_reducible assumption) | assumption); have q253 : x3_1 < (l0.length : Int) := of_decide_eq_true (by first | (with_reducible assumption) | assumption); obtain ⟨ad253, A253_2, c253_2, e253, hx253_0, hx253_1, hx253_2, hl253_2, hi253_2⟩ := at_T30 HR0.out x3_1 p253 q253; obtain rfl : ad251 = ad253 := (by injection e253); replace hx253_0 := (HB.out.cell (World.block_lt_of_cell? w _ hx253_0)).trans hx253_0; replace hx253_1 := (HB.out.cell (World.block_lt_of_cell? w _ hx253_1)).trans hx253_1; replace hx253_2 := (HB.out.cell (World.block_lt_of_cell? w _ hx253_2)).trans hx253_2; have HR253_2 := Aside0.mk hi253_2; have HC253_2 := Aside0.mk hl253_2; clear hi253_2 hl253_2; replace p253 := eq_true p253; replace q253 := eq_true q253) | (go_at_call 66; (with_reducible refine (spec_l2Find.calls k1 _ _ l0 ((rd_T30 l0 x3_1).f0) t254 _ ?side1 ?side2 A6.out).mono ?_); (case side1 => repeat (first | exact (Kd.C_below HR0.out HB.out) | (with_reducible refine Kd.C_alloc ?_ _) | (with_reducible refine Kd.C_drewN ?_ _) | (with_reducible refine Kd.C_drew ?_))); (case side2 => exact HC0.out); rintro e w' ⟨rfl, ⟨nd, rfl⟩⟩))
              go_roundg k1
              case measure => have := HK1.out; omega
              case rel => exact ⟨(wrap64 (x3_1 + 1)), (by first | rfl | (simp; done) | (simp [*]; done)), H', ⟨by have := HK1.out; omega⟩, ⟨by repeat (first | (with_reducible first | exact HB.out | apply below_alloc | apply pw_below_drewN | apply below_drew1) | exact HB.out)⟩⟩
            · rw [if_neg c7] at H
              have c7b0 : (t254 == x3_1) = false := beq_eq_false_iff_ne.mpr c7
              have c7b1 : (t254 != x3_1) = true := bne_iff_ne.mpr c7
              obtain rfl := Option.some.inj H
              have p251 : 0 ≤ (x3_1 : Int) := of_decide_eq_true (by first | (with_reducible assumption) | assumption)
              have q251 : x3_1 < (l0.length : Int) := of_decide_eq_true (by first | (with_reducible assumption) | assumption)
              obtain ⟨ad251, A251_2, c251_2, e251, hx251_0, hx251_1, hx251_2, hl251_2, hi251_2⟩ := at_T30 HR0.out x3_1 p251 q251
              cases e251
              replace hx251_0 := (HB.out.cell (World.block_lt_of_cell? w _ hx251_0)).trans hx251_0
              replace hx251_1 := (HB.out.cell (World.block_lt_of_cell? w _ hx251_1)).trans hx251_1
              replace hx251_2 := (HB.out.cell (World.block_lt_of_cell? w _ hx251_2)).trans hx251_2
              have HR251_2 := Aside0.mk hi251_2
              have HC251_2 := Aside0.mk hl251_2
              clear hi251_2 hl251_2
              replace p251 := eq_true p251
              replace q251 := eq_true q251
              go_wp2_with (first | ((with_reducible refine gate_callee (f := 22) rfl ?_); refine goesL_ (some 14) rfl rfl Try.func22 (by kernel_rfl) rfl #[.agg #[.string ((rd_T30 l0 x3_1).f0), .bool ((rd_T30 l0 x3_1).f1), .slice A251_2 ((rd_T30 l0 x3_1).f2).length c251_2]] rfl (by (try simp only [List.map_toArray, List.map_cons, List.map_nil]); first | done | rfl | (simp only [List.length_drop, List.length_take]; rfl)) ?_; (with_reducible refine (spec_FunOk.calls k1 ((rd_T30 l0 x3_1).f0) ((rd_T30 l0 x3_1).f1) _ _ ((rd_T30 l0 x3_1).f2) true _ ?side1 ?side2 A4.out).mono ?_); (case side1 => repeat (first | exact (Kd.C_below HR251_2.out HB.out) | (with_reducible refine Kd.C_alloc ?_ _) | (with_reducible refine Kd.C_drewN ?_ _) | (with_reducible refine Kd.C_drew ?_))); (case side2 => exact HC251_2.out); rintro e w9 ⟨rfl, hb⟩; refine ⟨_, rfl, ?_⟩; have n0_ := Aside0.mk (below_step (by repeat (first | (with_reducible first | exact HB.out | apply below_alloc | apply pw_below_drewN | apply below_drew1) | exact HB.out)) hb); clear HB; have HB := n0_; clear n0_; (try clear hb); (try clear hb2); (try clear hk); (try clear hi); have p253 : 0 ≤ (x3_1 : Int) := of_decide_eq_true (by first | (with_reducible assumption) | assumption); have q253 : x3_1 < (l0.length : Int) := of_decide_eq_true (by first | (with_reducible assumption) | assumption); obtain ⟨ad253, A253_2, c253_2, e253, hx253_0, hx253_1, hx253_2, hl253_2, hi253_2⟩ := at_T30 HR0.out x3_1 p253 q253; obtain rfl : ad251 = ad253 := (by injection e253); replace hx253_0 := (HB.out.cell (World.block_lt_of_cell? w _ hx253_0)).trans hx253_0; replace hx253_1 := (HB.out.cell (World.block_lt_of_cell? w _ hx253_1)).trans hx253_1; replace hx253_2 := (HB.out.cell (World.block_lt_of_cell? w _ hx253_2)).trans hx253_2; have HR253_2 := Aside0.mk hi253_2; have HC253_2 := Aside0.mk hl253_2; clear hi253_2 hl253_2; replace p253 := eq_true p253; replace q253 := eq_true q253) | (go_at_call 66; (with_reducible refine (spec_l2Find.calls k1 _ _ l0 ((rd_T30 l0 x3_1).f0) t254 _ ?side1 ?side2 A6.out).mono ?_); (case side1 => repeat (first | exact (Kd.C_below HR0.out HB.out) | (with_reducible refine Kd.C_alloc ?_ _) | (with_reducible refine Kd.C_drewN ?_ _) | (with_reducible refine Kd.C_drew ?_))); (case side2 => exact HC0.out); rintro e w' ⟨rfl, ⟨nd, rfl⟩⟩))
              go_ret
              exact ⟨by first | rfl | (simp [errW_none, errW_some] <;> rfl) | (simp [*, errW_none, errW_some] <;> rfl), by repeat (first | (with_reducible first | exact HB.out | apply below_alloc | apply pw_below_drewN | apply below_drew1) | exact HB.out)⟩
          · replace c5 := Bool.eq_false_iff.mpr c5
            subst c5
            have H1 : (some false) = some r := by rw [if_neg (show ¬ (false = true) by decide)] at H; exact H
            clear H
            have H := H1
            clear H1
            obtain rfl := Option.some.inj H
            have p251 : 0 ≤ (x3_1 : Int) := of_decide_eq_true (by first | (with_reducible assumption) | assumption)
            have q251 : x3_1 < (l0.length : Int) := of_decide_eq_true (by first | (with_reducible assumption) | assumption)
            obtain ⟨ad251, A251_2, c251_2, e251, hx251_0, hx251_1, hx251_2, hl251_2, hi251_2⟩ := at_T30 HR0.out x3_1 p251 q251
            cases e251
            replace hx251_0 := (HB.out.cell (World.block_lt_of_cell? w _ hx251_0)).trans hx251_0
            replace hx251_1 := (HB.out.cell (World.block_lt_of_cell? w _ hx251_1)).trans hx251_1
            replace hx251_2 := (HB.out.cell (World.block_lt_of_cell? w _ hx251_2)).trans hx251_2
            have HR251_2 := Aside0.mk hi251_2
            have HC251_2 := Aside0.mk hl251_2
            clear hi251_2 hl251_2
            replace p251 := eq_true p251
            replace q251 := eq_true q251
            go_wp2_with (first | ((with_reducible refine gate_callee (f := 22) rfl ?_); refine goesL_ (some 14) rfl rfl Try.func22 (by kernel_rfl) rfl #[.agg #[.string ((rd_T30 l0 x3_1).f0), .bool ((rd_T30 l0 x3_1).f1), .slice A251_2 ((rd_T30 l0 x3_1).f2).length c251_2]] rfl (by (try simp only [List.map_toArray, List.map_cons, List.map_nil]); first | done | rfl | (simp only [List.length_drop, List.length_take]; rfl)) ?_; (with_reducible refine (spec_FunOk.calls k1 ((rd_T30 l0 x3_1).f0) ((rd_T30 l0 x3_1).f1) _ _ ((rd_T30 l0 x3_1).f2) false _ ?side1 ?side2 A4.out).mono ?_); (case side1 => repeat (first | exact (Kd.C_below HR251_2.out HB.out) | (with_reducible refine Kd.C_alloc ?_ _) | (with_reducible refine Kd.C_drewN ?_ _) | (with_reducible refine Kd.C_drew ?_))); (case side2 => exact HC251_2.out); rintro e w10 ⟨rfl, hb⟩; refine ⟨_, rfl, ?_⟩; have n0_ := Aside0.mk (below_step (by repeat (first | (with_reducible first | exact HB.out | apply below_alloc | apply pw_below_drewN | apply below_drew1) | exact HB.out)) hb); clear HB; have HB := n0_; clear n0_; (try clear hb); (try clear hb2); (try clear hk); (try clear hi)))
            go_ret
            exact ⟨by first | rfl | (simp [errW_none, errW_some] <;> rfl) | (simp [*, errW_none, errW_some] <;> rfl), by repeat (first | (with_reducible first | exact HB.out | apply below_alloc | apply pw_below_drewN | apply below_drew1) | exact HB.out)⟩
        · rw [if_neg c3] at H
          exact absurd H (by simp)
      · rw [if_neg c2] at H
        have c2b0 : decide (x3_1 < (l0.length : Int)) = false := decide_eq_false c2
        clear c2
        obtain rfl := Option.some.inj H
        go_wp2
        go_ret
        exact ⟨by first | rfl | (simp [errW_none, errW_some] <;> rfl) | (simp [*, errW_none, errW_some] <;> rfl), by repeat (first | (with_reducible first | exact HB.out | apply below_alloc | apply pw_below_drewN | apply below_drew1) | exact HB.out)⟩

end Go.Proofs.Ytpckkkcaffhhnaa.P

-- made by printx.py (own driver over the kit's print); Lean checks it
namespace Go.Proofs.Ytpckkkcaffhhnaa.P
open Go.RowKit Go.Proofs.YtpckkkcaffhhnaaW.PrintWords Go.Proofs.YtpckkkcaffhhnaaW.PrintLast Go.Proofs.YtpckkkcaffhhnaaW.PrintMore
attribute [local go_sem] max2_int min2_int max_two min_two max_three min_three max_four min_four   -- for this text's walks alone
set_option linter.unusedVariables false
set_option linter.unusedSimpArgs false

/-! ### spec_UnitFind: function 17 -/
def spec_UnitFind.f (k : Nat) (l0 : List (S30)) (a1 : ByteArray) : Option (Int) := (spec_UnitOk.f k l0).bind fun t255 => (if t255 = true then ((spec_l2Find.f k l0 a1).bind fun t256 => (some t256)) else (some (-1)))
theorem spec_UnitFind.mono : ∀ a0 a1 k, LeO (spec_UnitFind.f k a0 a1) (spec_UnitFind.f (k + 1) a0 a1) := by
  intro a0 a1 k
  unfold spec_UnitFind.f
  repeat' first
      | (with_reducible exact spec_UnitOk.mono _ _)
      | (with_reducible exact spec_l2Find.mono _ _ _)
      | (with_reducible exact LeO.refl _)
      | (with_reducible exact LeO.none _)
      | (with_reducible refine LeO.ite ?_ ?_)
      | (with_reducible refine LeO.bind ?_ (fun _ => ?_))
      | exact spec_UnitOk.mono _ _
      | exact spec_l2Find.mono _ _ _
      | exact LeO.none _
      | refine LeO.ite ?_ ?_
      | refine LeO.bind ?_ (fun _ => ?_)
set_option maxHeartbeats 8000000 in
set_option maxRecDepth 100000 in
theorem spec_UnitFind.calls (k : Nat) (A0 : Option Addr) (c0 : Nat) (l0 : List (S30)) (a1 : ByteArray) (r : Int) (w : World) (hr0 : Kd.C k30 w A0 l0.length l0) (hc0 : l0.length ≤ c0) (h : spec_UnitFind.f k l0 a1 = some r) :
    Calls Try.prog 17 #[.slice A0 l0.length c0, .string a1] w fun e w' => e = .returned (.int .i64 r) ∧ Below w.heap.size w w' := by
  have HR0 := Aside0.mk hr0
  have HC0 := Aside0.mk hc0
  clear hr0 hc0
  have HB := Aside0.mk (Below.refl w.heap.size w)
  have H : ((spec_UnitOk.f k l0).bind fun t255 => (if t255 = true then ((spec_l2Find.f k l0 a1).bind fun t256 => (some t256)) else (some (-1)))) = some r := h
  clear h
  replace H := Option.bind_eq_some_iff.mp H
  obtain ⟨t255, A30, H⟩ := H
  replace H : (if t255 = true then ((spec_l2Find.f k l0 a1).bind fun t256 => (some t256)) else (some (-1))) = some r := H
  have A3 := Aside0.mk A30
  clear A30
  by_cases c4 : t255 = true
  · subst c4
    have H1 : ((spec_l2Find.f k l0 a1).bind fun t256 => (some t256)) = some r := by rw [if_pos rfl] at H; exact H
    clear H
    have H := H1
    clear H1
    replace H := Option.bind_eq_some_iff.mp H
    obtain ⟨t256, A50, H⟩ := H
    replace H : (some t256) = some r := H
    have A5 := Aside0.mk A50
    clear A50
    obtain rfl := Option.some.inj H
    go_enter Try.func17, Try.ntmps17
    go_wp2_with (first | ((with_reducible refine gate_callee (f := 18) rfl ?_); refine goesL_ (some 6) rfl rfl Try.func18 (by kernel_rfl) rfl #[.slice A0 l0.length c0] rfl (by (try simp only [List.map_toArray, List.map_cons, List.map_nil]); first | done | rfl | (simp only [List.length_drop, List.length_take]; rfl)) ?_; (with_reducible refine (spec_UnitOk.calls k _ _ l0 true _ ?side1 ?side2 A3.out).mono ?_); (case side1 => repeat (first | exact HR0.out | (with_reducible refine Kd.C_alloc ?_ _) | (with_reducible refine Kd.C_drewN ?_ _) | (with_reducible refine Kd.C_drew ?_))); (case side2 => exact HC0.out); rintro e w6 ⟨rfl, hb⟩; refine ⟨_, rfl, ?_⟩; have n0_ := Aside0.mk (below_step (by repeat (first | (with_reducible first | exact HB.out | apply below_alloc | apply pw_below_drewN | apply below_drew1) | exact HB.out)) hb); clear HB; have HB := n0_; clear n0_; (try clear hb); (try clear hb2); (try clear hk); (try clear hi)) | ((with_reducible refine gate_callee (f := 66) rfl ?_); refine goesL_ (some 10) rfl rfl Try.func66 (by kernel_rfl) rfl #[.slice A0 l0.length c0, .string a1] rfl (by (try simp only [List.map_toArray, List.map_cons, List.map_nil]); first | done | rfl | (simp only [List.length_drop, List.length_take]; rfl)) ?_; (with_reducible refine (spec_l2Find.calls k _ _ l0 a1 t256 _ ?side1 ?side2 A5.out).mono ?_); (case side1 => repeat (first | exact (Kd.C_below HR0.out HB.out) | (with_reducible refine Kd.C_alloc ?_ _) | (with_reducible refine Kd.C_drewN ?_ _) | (with_reducible refine Kd.C_drew ?_))); (case side2 => exact HC0.out); rintro e w' ⟨rfl, ⟨nd, rfl⟩⟩; refine ⟨_, rfl, ?_⟩))
    go_ret
    exact ⟨by first | rfl | (simp [errW_none, errW_some] <;> rfl) | (simp [*, errW_none, errW_some] <;> rfl), by repeat (first | (with_reducible first | exact HB.out | apply below_alloc | apply pw_below_drewN | apply below_drew1) | exact HB.out)⟩
  · replace c4 := Bool.eq_false_iff.mpr c4
    subst c4
    have H1 : (some (-1)) = some r := by rw [if_neg (show ¬ (false = true) by decide)] at H; exact H
    clear H
    have H := H1
    clear H1
    obtain rfl := Option.some.inj H
    go_enter Try.func17, Try.ntmps17
    go_wp2_with (first | ((with_reducible refine gate_callee (f := 18) rfl ?_); refine goesL_ (some 6) rfl rfl Try.func18 (by kernel_rfl) rfl #[.slice A0 l0.length c0] rfl (by (try simp only [List.map_toArray, List.map_cons, List.map_nil]); first | done | rfl | (simp only [List.length_drop, List.length_take]; rfl)) ?_; (with_reducible refine (spec_UnitOk.calls k _ _ l0 false _ ?side1 ?side2 A3.out).mono ?_); (case side1 => repeat (first | exact HR0.out | (with_reducible refine Kd.C_alloc ?_ _) | (with_reducible refine Kd.C_drewN ?_ _) | (with_reducible refine Kd.C_drew ?_))); (case side2 => exact HC0.out); rintro e w7 ⟨rfl, hb⟩; refine ⟨_, rfl, ?_⟩; have n0_ := Aside0.mk (below_step (by repeat (first | (with_reducible first | exact HB.out | apply below_alloc | apply pw_below_drewN | apply below_drew1) | exact HB.out)) hb); clear HB; have HB := n0_; clear n0_; (try clear hb); (try clear hb2); (try clear hk); (try clear hi)))
    go_ret
    exact ⟨by first | rfl | (simp [errW_none, errW_some] <;> rfl) | (simp [*, errW_none, errW_some] <;> rfl), by repeat (first | (with_reducible first | exact HB.out | apply below_alloc | apply pw_below_drewN | apply below_drew1) | exact HB.out)⟩

end Go.Proofs.Ytpckkkcaffhhnaa.P

/- When a unit is ok, and where its functions are: what the printed functions of both sides compute. -/
namespace Go.Proofs.Ytpckkkcaffhhnaa.L
open Go.RowKit Go.Proofs.YtpckkkcaffhhnaaW.PrintWords Go.Proofs.YtpckkkcaffhhnaaW.PrintLast Go.Proofs.YtpckkkcaffhhnaaW.PrintMore Go.Proofs.Ytpckkkcaffhhnaa.P
set_option linter.unusedVariables false
set_option linter.unusedSimpArgs false
/-- No text of the function is too long for an argument. -/
def FitI (x : S38) : Prop := x.f2.size ≤ 140737488351232
def FitF (x : S30) : Prop := x.f0.size ≤ 140737488351232 ∧ x.f2.length ≤ 140737488351232 ∧ ∀ y ∈ x.f2, y.f2.size ≤ 140737488351232
def named (a : ByteArray) (x : S30) : Bool := x.f0.toList == a.toList
def findI (l : List S30) (a : ByteArray) : Int := idxFrom (named a) l 0
def unitGood (l : List S30) : Bool := allFrom (fun i x => funOkB x.f0 x.f2 && (findI l x.f0 == (i : Int))) l 0
def unitOkB (l : List S30) : Bool := unitGood l && decide (l.length ≤ 5)
theorem impl_FunOk_f (x : S30) (h : FitF x) : impl_FunOk.f x.f0 x.f1 x.f2 = some (funOkB x.f0 x.f2) := by
  unfold impl_FunOk.f
  rw [if_pos ⟨h.1, h.2.2⟩]
theorem spec_FunOk_l0 (x : S30) (h : FitF x) (k : Nat) (hk : 140737488351236 + x.f2.length < k) : spec_FunOk.l0 k (x.f2.length : Int) 0 x.f0 x.f1 x.f2 = some (!(x.f2.any fun y => !insOkB y.f0 y.f1 y.f2)) := by
  have e := loop_all (fun _ (y : S38) => insOkB y.f0 y.f1 y.f2) z38 x.f2 true (by have := h.2.1; omega) (fun k i => spec_FunOk.l0 k (x.f2.length : Int) i x.f0 x.f1 x.f2) 140737488351236 ?_ ?_ ?_ k hk
  · rw [e, allFrom_all, Bool.and_true, all_not_any]
  · intro k i hK hi hq
    simp only [spec_FunOk.l0]
    have e := spec_InsOk_f (rd_T38 x.f2 (i : Int)).f0 (rd_T38 x.f2 (i : Int)).f1 (rd_T38 x.f2 (i : Int)).f2 (h.2.2 _ (getD_mem hi)) k (by have : (rd_T38 x.f2 (i : Int)).f2.size ≤ 140737488351232 := h.2.2 _ (getD_mem hi); omega)
    rw [show insOkB (rd_T38 x.f2 (i : Int)).f0 (rd_T38 x.f2 (i : Int)).f1 (rd_T38 x.f2 (i : Int)).f2 = true from hq] at e
    rw [if_pos (by omega), if_pos (by omega), if_pos (by omega), e]
    rfl
  · intro k i hK hi hq
    simp only [spec_FunOk.l0]
    have e := spec_InsOk_f (rd_T38 x.f2 (i : Int)).f0 (rd_T38 x.f2 (i : Int)).f1 (rd_T38 x.f2 (i : Int)).f2 (h.2.2 _ (getD_mem hi)) k (by have : (rd_T38 x.f2 (i : Int)).f2.size ≤ 140737488351232 := h.2.2 _ (getD_mem hi); omega)
    rw [show insOkB (rd_T38 x.f2 (i : Int)).f0 (rd_T38 x.f2 (i : Int)).f1 (rd_T38 x.f2 (i : Int)).f2 = false from hq] at e
    rw [if_pos (by omega), if_pos (by omega), if_pos (by omega), e]
    rfl
  · intro k hK
    simp only [spec_FunOk.l0]
    rw [if_neg (by omega)]
theorem spec_FunOk_f (x : S30) (h : FitF x) (k : Nat) (hk : 140737488351240 + x.f2.length < k) : spec_FunOk.f k x.f0 x.f1 x.f2 = some (funOkB x.f0 x.f2) := by
  obtain ⟨m, rfl⟩ : ∃ m, k = m + 1 := ⟨k - 1, by omega⟩
  have hs := h.1
  have hl := h.2.1
  unfold spec_FunOk.f funOkB
  rw [spec_NameOk_f x.f0 h.1 _ (by omega)]
  simp only [Option.bind_some]
  have j (b : Bool) : spec_FunOk.j0 (m + 1) (x.f2.length : Int) b x.f0 x.f1 x.f2 = some (!b && !(x.f2.any fun y => !insOkB y.f0 y.f1 y.f2)) := by
    simp only [spec_FunOk.j0]
    cases b with
    | true => rfl
    | false => rw [if_neg (by decide), spec_FunOk_l0 x h m (by omega)]; rfl
  cases nameOk x.f0 with
  | false => rw [if_neg (by decide), j]; rfl
  | true =>
    rw [if_pos rfl]
    by_cases h1 : (x.f2.length : Int) < 1
    · have e1 : decide (1 ≤ (x.f2.length : Int)) = false := decide_eq_false (by omega)
      rw [if_pos h1, j, e1]; rfl
    · rw [if_neg h1]
      have e1 : decide (1 ≤ (x.f2.length : Int)) = true := decide_eq_true (by omega)
      by_cases h2 : (x.f2.length : Int) > 10
      · have e2 : decide ((x.f2.length : Int) ≤ 10) = false := decide_eq_false (by omega)
        rw [if_pos h2, j, e1, e2]; rfl
      · rw [if_neg h2]
        have e2 : decide ((x.f2.length : Int) ≤ 10) = true := decide_eq_true (by omega)
        have w : wrap64 ((x.f2.length : Int) - 1) = (x.f2.length : Int) - 1 := wrap_id (by omega) (by omega)
        rw [w, if_pos (by omega), if_pos (by omega), spec_InsLast_f]
        simp only [Option.bind_some]
        rw [j, e1, e2]
        have e3 : (rd_T38 x.f2 ((x.f2.length : Int) - 1)) = x.f2.getD (x.f2.length - 1) z38 := by
          unfold rd_T38
          rw [show ((x.f2.length : Int) - 1).toNat = x.f2.length - 1 by omega]
        rw [e3]
        simp [Bool.and_comm]
theorem spec_l2Find_f (l : List S30) (hn : l.length ≤ 9223372036854775807) (a : ByteArray) (k : Nat) (hk : l.length < k) : spec_l2Find.f k l a = some (findI l a) := by
  unfold spec_l2Find.f findI
  refine loop_idx (named a) z30 l hn (fun k i => spec_l2Find.l0 k l a i) 0 ?_ ?_ ?_ k (by omega)
  · intro k i _ hi hq
    simp only [spec_l2Find.l0]
    rw [if_pos (by omega), if_pos (by omega), if_pos (show (rd_T30 l (i : Int)).f0.toList = a.toList from beq_iff_eq.mp hq)]
  · intro k i _ hi hq
    simp only [spec_l2Find.l0]
    rw [if_pos (by omega), if_pos (by omega), if_neg (show ¬ (rd_T30 l (i : Int)).f0.toList = a.toList from beq_eq_false_iff_ne.mp hq)]
  · intro k _
    simp only [spec_l2Find.l0]
    rw [if_neg (by omega)]
theorem spec_UnitOk_f (l : List S30) (hn : l.length ≤ 140737488351232) (hx : ∀ x ∈ l, FitF x) (k : Nat) (hk : 500000000000000 ≤ k) : spec_UnitOk.f k l = some (unitOkB l) := by
  unfold spec_UnitOk.f unitOkB
  have ed : decide ((l.length : Int) ≤ 5) = decide (l.length ≤ 5) := by congr 1; exact propext ⟨fun h => by omega, fun h => by omega⟩
  rw [← ed]
  have step : ∀ (k i : Nat), 300000000000000 ≤ k → i < l.length → spec_UnitOk.l0 (k + 1) l (i : Int) = if (funOkB (l.getD i z30).f0 (l.getD i z30).f2 && (findI l (l.getD i z30).f0 == (i : Int))) = true then spec_UnitOk.l0 k l (wrap64 ((i : Int) + 1)) else some false := by
    intro k i hK hi
    simp only [spec_UnitOk.l0]
    have hf := hx _ (getD_mem (d := z30) hi)
    have hl2 := hf.2.1
    have e := spec_FunOk_f (rd_T30 l (i : Int)) hf k (by have e0 : rd_T30 l (i : Int) = l.getD i z30 := rfl; rw [e0]; omega)
    rw [if_pos (by omega), if_pos (by omega), e]
    simp only [Option.bind_some]
    show (if funOkB (l.getD i z30).f0 (l.getD i z30).f2 = true then _ else _) = _
    cases funOkB (l.getD i z30).f0 (l.getD i z30).f2 with
    | false => rfl
    | true =>
      rw [if_pos rfl, spec_l2Find_f l (by omega) _ k (by omega)]
      simp only [Option.bind_some, Bool.true_and]
      show (if findI l (l.getD i z30).f0 = (i : Int) then _ else _) = _
      by_cases hq : findI l (l.getD i z30).f0 = (i : Int)
      · rw [if_pos hq, if_pos (beq_iff_eq.mpr hq)]
      · rw [if_neg hq, if_neg (by rw [beq_eq_false_iff_ne.mpr hq]; decide)]
  refine loop_all (fun i x => funOkB x.f0 x.f2 && (findI l x.f0 == (i : Int))) z30 l (decide ((l.length : Int) ≤ 5)) (by omega) (fun k i => spec_UnitOk.l0 k l i) 300000000000000 ?_ ?_ ?_ k (by omega)
  · intro k i hK hi hq
    show spec_UnitOk.l0 (k + 1) l (i : Int) = _
    rw [step k i hK hi, if_pos hq]
  · intro k i hK hi hq
    show spec_UnitOk.l0 (k + 1) l (i : Int) = _
    rw [step k i hK hi, if_neg (by rw [hq]; decide)]
  · intro k _
    simp only [spec_UnitOk.l0]
    rw [if_neg (by omega)]
theorem impl_funsOk_f (l : List S30) (hn : l.length ≤ 140737488351232) (hx : ∀ x ∈ l, FitF x) (k : Nat) (hk : l.length < k) : impl_funsOk.f k l = some (unitGood l) := by
  unfold impl_funsOk.f
  have step : ∀ (k i : Nat), i < l.length → impl_funsOk.l0 (k + 1) l l (l.length : Int) (i : Int) = if (funOkB (l.getD i z30).f0 (l.getD i z30).f2 && (findI l (l.getD i z30).f0 == (i : Int))) = true then impl_funsOk.l0 k l l (l.length : Int) (wrap64 ((i : Int) + 1)) else some false := by
    intro k i hi
    simp only [impl_funsOk.l0]
    have hf := hx _ (getD_mem (d := z30) hi)
    have e := impl_FunOk_f (rd_T30 l (i : Int)) hf
    rw [if_pos (by omega), if_pos (by omega), if_pos (by omega), e]
    simp only [Option.bind_some]
    show (if funOkB (l.getD i z30).f0 (l.getD i z30).f2 = true then _ else _) = _
    cases funOkB (l.getD i z30).f0 (l.getD i z30).f2 with
    | false => rfl
    | true =>
      rw [if_pos rfl]
      simp only [impl_find.f, Option.bind_some, Bool.true_and]
      show (if findI l (l.getD i z30).f0 = (i : Int) then _ else _) = _
      by_cases hq : findI l (l.getD i z30).f0 = (i : Int)
      · rw [if_pos hq, if_pos (beq_iff_eq.mpr hq)]
      · rw [if_neg hq, if_neg (by rw [beq_eq_false_iff_ne.mpr hq]; decide)]
  have e := loop_all (fun i x => funOkB x.f0 x.f2 && (findI l x.f0 == (i : Int))) z30 l true (by omega) (fun k i => impl_funsOk.l0 k l l (l.length : Int) i) 0 ?_ ?_ ?_ k (by omega)
  · rw [e, Bool.and_true]; rfl
  · intro k i hK hi hq
    show impl_funsOk.l0 (k + 1) l l (l.length : Int) (i : Int) = _
    rw [step k i hi, if_pos hq]
  · intro k i hK hi hq
    show impl_funsOk.l0 (k + 1) l l (l.length : Int) (i : Int) = _
    rw [step k i hi, if_neg (by rw [hq]; decide)]
  · intro k _
    simp only [impl_funsOk.l0]
    rw [if_neg (by omega)]
theorem impl_UnitOk_f (l : List S30) (hn : l.length ≤ 140737488351232) (hx : ∀ x ∈ l, FitF x) (k : Nat) (hk : l.length < k) : impl_UnitOk.f k l = some (unitOkB l) := by
  unfold impl_UnitOk.f unitOkB
  by_cases h : l.length ≤ 5
  · rw [if_pos (by omega), impl_funsOk_f l hn hx k hk]
    simp [h]
  · rw [if_neg (by omega)]
    simp [h]
def unitFindI (l : List S30) (a : ByteArray) : Int := if unitOkB l = true then findI l a else -1
theorem impl_UnitFind_f (l : List S30) (hn : l.length ≤ 140737488351232) (hx : ∀ x ∈ l, FitF x) (a : ByteArray) (k : Nat) (hk : l.length < k) : impl_UnitFind.f k l a = some (unitFindI l a) := by
  unfold impl_UnitFind.f unitFindI
  rw [impl_UnitOk_f l hn hx k hk]
  simp only [Option.bind_some]
  split <;> rfl
theorem spec_UnitFind_f (l : List S30) (hn : l.length ≤ 140737488351232) (hx : ∀ x ∈ l, FitF x) (a : ByteArray) (k : Nat) (hk : 500000000000000 ≤ k) : spec_UnitFind.f k l a = some (unitFindI l a) := by
  unfold spec_UnitFind.f unitFindI
  rw [spec_UnitOk_f l hn hx k hk, spec_l2Find_f l (by omega) a k (by omega)]
  simp only [Option.bind_some]
  split <;> rfl
end Go.Proofs.Ytpckkkcaffhhnaa.L

/- What the drawing functions of units draw: some unit, small. -/
namespace Go.Proofs.Ytpckkkcaffhhnaa.L
open Go.RowKit Go.Proofs.YtpckkkcaffhhnaaW.PrintWords Go.Proofs.YtpckkkcaffhhnaaW.PrintLast Go.Proofs.YtpckkkcaffhhnaaW.PrintMore Go.Proofs.Ytpckkkcaffhhnaa.P
set_option linter.unusedVariables false
set_option linter.unusedSimpArgs false
/-- A function with a small name, at most n instructions, all with small names. -/
def SmallF (n : Nat) (x : S30) : Prop := x.f0.size ≤ 7 ∧ x.f2.length ≤ n ∧ ∀ y ∈ x.f2, y.f2.size ≤ 7
def SmallU (u : List S30) : Prop := 1 ≤ u.length ∧ u.length ≤ 4 ∧ ∀ x ∈ u, SmallF 6 x
theorem SmallF.fit {n : Nat} {x : S30} (h : SmallF n x) (hn : n ≤ 1000) : FitF x := ⟨by have := h.1; omega, by have := h.2.1; omega, fun y hy => by have := h.2.2 y hy; omega⟩
theorem SmallU.fit {u : List S30} (h : SmallU u) : ∀ x ∈ u, FitF x := fun x hx => (h.2.2 x hx).fit (by omega)
theorem names6_size {s : ByteArray} (h : s ∈ names6) : s.size ≤ 7 := by
  simp only [names6, List.mem_cons, List.not_mem_nil, or_false] at h
  rcases h with rfl | rfl | rfl | rfl | rfl | rfl <;> decide
theorem l2Fun_end (l : List Int) (hl : Bytes l) (a : ByteArray) (w : Bool) (p : Int) (body : List S38) (hp : 0 ≤ p) (hp' : p < 800000000000) (hb : body.length ≤ 4) (hs : ∀ y ∈ body, y.f2.size ≤ 7) :
    ∃ (body' : List S38) (q : Int), (∀ k, 2 ≤ k → spec_l2Fun.l0 k 0 l p a w body = some (a, w, body', q)) ∧ On p q 2 ∧ body'.length ≤ 5 ∧ ∀ y ∈ body', y.f2.size ≤ 7 := by
  obtain ⟨r, hr, r0, r1⟩ := spec_l13Rd_pick_f l hl p 6 hp (by omega) (by omega)
  obtain ⟨s, hn, hm⟩ := spec_l1Name_f l hl (p + 1) (by omega) (by omega)
  have hz := names6_size hm
  have app : ∀ i : S38, i.f2.size ≤ 7 → ∀ y ∈ body ++ [i], y.f2.size ≤ 7 := fun i hi y hy => by
    rcases List.mem_append.mp hy with h | h
    · exact hs y h
    · rw [List.mem_singleton.mp h]; exact hi
  by_cases h0 : r = 0
  · refine ⟨body ++ [⟨4, 0, s⟩], p + 1 + 1, fun k hk => ?_, ⟨by omega, by omega⟩, by rw [List.length_append]; simp; omega, app _ hz⟩
    obtain ⟨k, rfl, _⟩ := succ_of (d := 1) hk
    simp only [spec_l2Fun.l0]
    rw [if_neg (by omega), hr k (by omega)]
    simp only [Option.bind_some]
    rw [if_pos h0, hn k (by omega)]
    simp only [Option.bind_some]
    rw [if_pos (by omega)]
  · by_cases h1 : r = 1
    · refine ⟨body ++ [⟨7, 0, ⟨#[]⟩⟩], p + 1, fun k hk => ?_, ⟨by omega, by omega⟩, by rw [List.length_append]; simp; omega, app _ (by decide)⟩
      obtain ⟨k, rfl, _⟩ := succ_of (d := 1) hk
      simp only [spec_l2Fun.l0]
      rw [if_neg (by omega), hr k (by omega)]
      simp only [Option.bind_some]
      rw [if_neg h0, if_pos h1, if_pos (by omega)]
    · refine ⟨body ++ [⟨6, 0, ⟨#[]⟩⟩], p + 1, fun k hk => ?_, ⟨by omega, by omega⟩, by rw [List.length_append]; simp; omega, app _ (by decide)⟩
      obtain ⟨k, rfl, _⟩ := succ_of (d := 1) hk
      simp only [spec_l2Fun.l0]
      rw [if_neg (by omega), hr k (by omega)]
      simp only [Option.bind_some]
      rw [if_neg h0, if_neg h1, if_pos (by omega)]
theorem l2Fun_l0 (l : List Int) (hl : Bytes l) (a : ByteArray) (w : Bool) : ∀ (n : Nat) (p : Int) (body : List S38), 0 ≤ p → p + 4 * n < 700000000000 → body.length + n ≤ 4 → (∀ y ∈ body, y.f2.size ≤ 7) →
    ∃ (body' : List S38) (q : Int), (∀ k, n + 6 ≤ k → spec_l2Fun.l0 k (n : Int) l p a w body = some (a, w, body', q)) ∧ On p q (4 * n + 2) ∧ body'.length ≤ 5 ∧ ∀ y ∈ body', y.f2.size ≤ 7
  | 0, p, body, hp, hp', hb, hs => by
    obtain ⟨b, q, h1, h2, h3, h4⟩ := l2Fun_end l hl a w p body hp (by omega) (by omega) hs
    exact ⟨b, q, fun k hk => h1 k (by omega), ⟨h2.1, by have := h2.2; omega⟩, h3, h4⟩
  | n + 1, p, body, hp, hp', hb, hs => by
    obtain ⟨i, j, s, q, h, hq, hz⟩ := spec_l1Right_f l hl p hp (by omega)
    have q0 := hq.1
    have q1 := hq.2
    have hw : wrap64 (((n + 1 : Nat) : Int) - 1) = (n : Int) := by rw [wrap_id (by omega) (by omega)]; push_cast; omega
    have step : ∀ k, n + 6 ≤ k → spec_l2Fun.l0 (k + 1) ((n + 1 : Nat) : Int) l p a w body = if lastB i = true then spec_l2Fun.l0 k (n : Int) l q a w body else spec_l2Fun.l0 k (n : Int) l q a w (body ++ [⟨i, j, s⟩]) := by
      intro k hk
      simp only [spec_l2Fun.l0]
      rw [if_pos (by push_cast; omega), h k (by omega)]
      simp only [Option.bind_some]
      rw [spec_InsLast_f]
      simp only [Option.bind_some]
      rw [hw, if_pos (show body.length < 4398046511104 by omega)]
    cases hlast : lastB i with
    | true =>
      obtain ⟨b, q', h1, h2, h3, h4⟩ := l2Fun_l0 l hl a w n q body (by omega) (by push_cast at hp'; omega) (by omega) hs
      refine ⟨b, q', fun k hk => ?_, ⟨by have := h2.1; omega, by have := h2.2; push_cast; omega⟩, h3, h4⟩
      obtain ⟨k, rfl, hk'⟩ := succ_of (show n + 6 < k by omega)
      rw [step k hk', hlast, if_pos rfl, h1 k hk']
    | false =>
      obtain ⟨b, q', h1, h2, h3, h4⟩ := l2Fun_l0 l hl a w n q (body ++ [⟨i, j, s⟩]) (by omega) (by push_cast at hp'; omega) (by rw [List.length_append]; simp; omega) (fun y hy => by
        rcases List.mem_append.mp hy with h | h
        · exact hs y h
        · rw [List.mem_singleton.mp h]; show s.size ≤ 7; omega)
      refine ⟨b, q', fun k hk => ?_, ⟨by have := h2.1; omega, by have := h2.2; push_cast; omega⟩, h3, h4⟩
      obtain ⟨k, rfl, hk'⟩ := succ_of (show n + 6 < k by omega)
      rw [step k hk', hlast, if_neg (by decide), h1 k hk']
theorem spec_l2Fun_f (l : List Int) (hl : Bytes l) (p : Int) (hp : 0 ≤ p) (hp' : p < 600000000000) (a : ByteArray) (ha : a.size ≤ 7) :
    ∃ (x : S30) (q : Int), (∀ k, 20 ≤ k → spec_l2Fun.f k l p a = some (x.f0, x.f1, x.f2, q)) ∧ On p q 30 ∧ SmallF 5 x := by
  obtain ⟨r, hr, _, _⟩ := spec_l13Rd_pick_f l hl p 5 hp (by omega) (by omega)
  obtain ⟨n, hn, n0, n1⟩ := spec_l13Rd_pick_f l hl (p + 1) 5 (by omega) (by omega) (by omega)
  obtain ⟨m, rfl⟩ : ∃ m : Nat, n = m := ⟨n.toNat, by omega⟩
  obtain ⟨b, q, h1, h2, h3, h4⟩ := l2Fun_l0 l hl a (r == 0) m (p + 1 + 1) [] (by omega) (by omega) (by simp; omega) (by simp)
  refine ⟨⟨a, (r == 0), b⟩, q, fun k hk => ?_, ⟨by have := h2.1; omega, by have := h2.2; omega⟩, ha, h3, h4⟩
  unfold spec_l2Fun.f
  rw [hr k (by omega)]
  simp only [Option.bind_some]
  rw [hn k (by omega)]
  simp only [Option.bind_some]
  rw [h1 k (by omega)]
theorem l2Unit_l0 (l : List Int) (hl : Bytes l) : ∀ (n : Nat) (p : Int) (u : List S30), 0 ≤ p → p + 40 * n < 500000000000 → u.length + n ≤ 3 → (1 ≤ u.length ∨ 1 ≤ n) → (∀ x ∈ u, SmallF 5 x) →
    ∃ (u' : List S30) (q : Int), (∀ k, n + 30 ≤ k → spec_l2Unit.l0 k u (n : Int) l p = some (u', q)) ∧ On p q (40 * n) ∧ 1 ≤ u'.length ∧ u'.length ≤ 3 ∧ ∀ x ∈ u', SmallF 5 x
  | 0, p, u, hp, hp', hu, h1, hs => by
    refine ⟨u, p, fun k hk => ?_, ⟨by omega, by omega⟩, by omega, by omega, hs⟩
    obtain ⟨k, rfl, _⟩ := succ_of (show 29 < k by omega)
    simp only [spec_l2Unit.l0]
    rw [if_neg (by omega)]
  | n + 1, p, u, hp, hp', hu, h1, hs => by
    obtain ⟨s, hn, hm⟩ := spec_l1Name_f l hl p hp (by omega)
    obtain ⟨x, q, hx, hq, hsm⟩ := spec_l2Fun_f l hl (p + 1) (by omega) (by omega) s (names6_size hm)
    have q0 := hq.1
    have q1 := hq.2
    have hw : wrap64 (((n + 1 : Nat) : Int) - 1) = (n : Int) := by rw [wrap_id (by omega) (by omega)]; push_cast; omega
    have step : ∀ k, n + 30 ≤ k → spec_l2Unit.l0 (k + 1) u ((n + 1 : Nat) : Int) l p = if findI u s < 0 then spec_l2Unit.l0 k (u ++ [x]) (n : Int) l q else spec_l2Unit.l0 k u (n : Int) l (p + 1) := by
      intro k hk
      simp only [spec_l2Unit.l0]
      rw [if_pos (by push_cast; omega), hn k (by omega)]
      simp only [Option.bind_some]
      rw [spec_l2Find_f u (by omega) s k (by omega)]
      simp only [Option.bind_some]
      rw [hw, hx k (by omega)]
      simp only [Option.bind_some]
      rw [if_pos (show u.length < 2932031007402 by omega)]
    by_cases hf : findI u s < 0
    · obtain ⟨u', q', g1, g2, g3, g4, g5⟩ := l2Unit_l0 l hl n q (u ++ [x]) (by omega) (by push_cast at hp'; omega) (by rw [List.length_append]; simp; omega) (.inl (by rw [List.length_append]; simp)) (fun y hy => by
        rcases List.mem_append.mp hy with h | h
        · exact hs y h
        · rw [List.mem_singleton.mp h]; exact hsm)
      refine ⟨u', q', fun k hk => ?_, ⟨by have := g2.1; omega, by have := g2.2; push_cast; omega⟩, g3, g4, g5⟩
      obtain ⟨k, rfl, hk'⟩ := succ_of (show n + 30 < k by omega)
      rw [step k hk', if_pos hf, g1 k hk']
    · have hne : 1 ≤ u.length := by
        cases u with
        | nil => exact absurd (show findI ([] : List S30) s < 0 from by unfold findI; simp [idxFrom]) hf
        | cons _ _ => simp
      obtain ⟨u', q', g1, g2, g3, g4, g5⟩ := l2Unit_l0 l hl n (p + 1) u (by omega) (by push_cast at hp'; omega) (by omega) (.inl hne) hs
      refine ⟨u', q', fun k hk => ?_, ⟨by have := g2.1; omega, by have := g2.2; push_cast; omega⟩, g3, g4, g5⟩
      obtain ⟨k, rfl, hk'⟩ := succ_of (show n + 30 < k by omega)
      rw [step k hk', if_neg hf, g1 k hk']
theorem spec_l2Unit_f (l : List Int) (hl : Bytes l) (p : Int) (hp : 0 ≤ p) (hp' : p < 400000000000) :
    ∃ (u : List S30) (q : Int), (∀ k, 40 ≤ k → spec_l2Unit.f k l p = some (u, q)) ∧ On p q 130 ∧ 1 ≤ u.length ∧ u.length ≤ 3 ∧ ∀ x ∈ u, SmallF 5 x := by
  obtain ⟨n, hn, n0, n1⟩ := spec_l13Rd_pick_f l hl p 3 hp (by omega) (by omega)
  obtain ⟨m, rfl⟩ : ∃ m : Nat, n = m := ⟨n.toNat, by omega⟩
  obtain ⟨u, q, h1, h2, h3, h4, h5⟩ := l2Unit_l0 l hl (m + 1) (p + 1) [] (by omega) (by push_cast; omega) (by simp; omega) (.inr (by omega)) (by simp)
  refine ⟨u, q, fun k hk => ?_, ⟨by have := h2.1; omega, by have := h2.2; push_cast at this; omega⟩, h3, h4, h5⟩
  unfold spec_l2Unit.f
  rw [hn k (by omega)]
  simp only [Option.bind_some]
  rw [show wrap64 (1 + (m : Int)) = ((m + 1 : Nat) : Int) from by rw [wrap_id (by omega) (by omega)]; push_cast; omega, h1 k (by omega)]
theorem SmallF.mono {n m : Nat} {x : S30} (h : SmallF n x) (hm : n ≤ m) : SmallF m x := ⟨h.1, Nat.le_trans h.2.1 hm, h.2.2⟩
theorem set_small {u : List S30} (hs : ∀ x ∈ u, SmallF 5 x) (i : Nat) (y : S30) (hy : SmallF 6 y) : ∀ x ∈ u.set i y, SmallF 6 x := fun x hx => by
  rcases List.mem_or_eq_of_mem_set hx with h | h
  · exact (hs x h).mono (by omega)
  · rw [h]; exact hy
theorem spec_l2Bent_f (l : List Int) (hl : Bytes l) (p : Int) (hp : 0 ≤ p) (hp' : p < 300000000000) :
    ∃ (u : List S30) (q : Int), (∀ k, 50 ≤ k → spec_l2Bent.f k l p = some (u, q)) ∧ On p q 150 ∧ SmallU u := by
  obtain ⟨u, q1, hu, hq1, hn1, hn2, hs⟩ := spec_l2Unit_f l hl p hp (by omega)
  have o0 := hq1.1
  have o1 := hq1.2
  obtain ⟨ix, hix, i0, i1⟩ := spec_l13Rd_pick_f l hl q1 (u.length : Int) (by omega) (by omega) (by omega)
  obtain ⟨c, hc, c0, c1⟩ := spec_l13Rd_pick_f l hl (q1 + 1) 40 (by omega) (by omega) (by omega)
  obtain ⟨s, hS, hm⟩ := spec_l13Rd_of_f l hl (q1 + 1 + 1) (by omega) (by omega) ([(⟨#[]⟩ : ByteArray), (⟨#[65]⟩ : ByteArray), (⟨#[109, 97, 105, 110]⟩ : ByteArray)] : List ByteArray) (by decide)
  have hz : s.size ≤ 7 := by
    simp only [List.mem_cons, List.not_mem_nil, or_false] at hm
    rcases hm with rfl | rfl | rfl <;> decide
  obtain ⟨b0, b1, b2, q2, hb, hq2, hbz⟩ := spec_l1Bent_f l hl (q1 + 1 + 1) (by omega) (by omega)
  have o2 := hq2.1
  have o3 := hq2.2
  have hx : SmallF 5 (rd_T30 u ix) := hs _ (getD_mem (by omega))
  have base : ∀ k, 50 ≤ k → spec_l2Bent.f k l p = if c = 0 then some (u.set ix.toNat ⟨s, (rd_T30 u ix).f1, (rd_T30 u ix).f2⟩, q1 + 1 + 1 + 1) else if c = 1 then some (u.set ix.toNat ⟨(rd_T30 u ix).f0, (rd_T30 u ix).f1, []⟩, q1 + 1 + 1) else if c = 2 then some (u.set ix.toNat ⟨(rd_T30 u ix).f0, (rd_T30 u ix).f1, (rd_T30 u ix).f2 ++ [⟨b0, b1, b2⟩]⟩, q2) else if c = 3 then some (u ++ [rd_T30 u ix], q1 + 1 + 1) else some (u, q1 + 1 + 1) := by
    intro k hk
    unfold spec_l2Bent.f
    rw [hu k (by omega)]
    simp only [Option.bind_some]
    rw [hix k (by omega)]
    simp only [Option.bind_some]
    rw [hc k (by omega)]
    simp only [Option.bind_some]
    rw [if_pos ⟨i0, i1, by omega, by have := hx.2.1; omega⟩, hS k (by omega), hb k (by omega)]
    simp only [Option.bind_some]
  by_cases e0 : c = 0
  · refine ⟨u.set ix.toNat ⟨s, (rd_T30 u ix).f1, (rd_T30 u ix).f2⟩, q1 + 1 + 1 + 1, fun k hk => by rw [base k hk, if_pos e0], ⟨by omega, by omega⟩, by rw [List.length_set]; omega, by rw [List.length_set]; omega, set_small hs _ _ ⟨hz, Nat.le_trans hx.2.1 (by omega), hx.2.2⟩⟩
  by_cases e1 : c = 1
  · refine ⟨u.set ix.toNat ⟨(rd_T30 u ix).f0, (rd_T30 u ix).f1, []⟩, q1 + 1 + 1, fun k hk => by rw [base k hk, if_neg e0, if_pos e1], ⟨by omega, by omega⟩, by rw [List.length_set]; omega, by rw [List.length_set]; omega, set_small hs _ _ ⟨hx.1, Nat.zero_le _, fun y hy => absurd hy (by simp)⟩⟩
  by_cases e2 : c = 2
  · refine ⟨u.set ix.toNat ⟨(rd_T30 u ix).f0, (rd_T30 u ix).f1, (rd_T30 u ix).f2 ++ [⟨b0, b1, b2⟩]⟩, q2, fun k hk => by rw [base k hk, if_neg e0, if_neg e1, if_pos e2], ⟨by omega, by omega⟩, by rw [List.length_set]; omega, by rw [List.length_set]; omega, set_small hs _ _ ⟨hx.1, by have := hx.2.1; rw [List.length_append]; simp; omega, fun y hy => ?_⟩⟩
    rcases List.mem_append.mp hy with h | h
    · exact hx.2.2 y h
    · rw [List.mem_singleton.mp h]; exact hbz
  by_cases e3 : c = 3
  · refine ⟨u ++ [rd_T30 u ix], q1 + 1 + 1, fun k hk => by rw [base k hk, if_neg e0, if_neg e1, if_neg e2, if_pos e3], ⟨by omega, by omega⟩, by rw [List.length_append]; simp, by rw [List.length_append]; simp; omega, fun x hx2 => ?_⟩
    rcases List.mem_append.mp hx2 with h | h
    · exact (hs x h).mono (by omega)
    · rw [List.mem_singleton.mp h]; exact hx.mono (by omega)
  · exact ⟨u, q1 + 1 + 1, fun k hk => by rw [base k hk, if_neg e0, if_neg e1, if_neg e2, if_neg e3], ⟨by omega, by omega⟩, by omega, by omega, fun x hx2 => (hs x hx2).mono (by omega)⟩
end Go.Proofs.Ytpckkkcaffhhnaa.L

/- Loops over a list with a state, told once. -/
namespace Go.Proofs.Ytpckkkcaffhhnaa.L
open Go.RowKit Go.Proofs.YtpckkkcaffhhnaaW.PrintWords Go.Proofs.YtpckkkcaffhhnaaW.PrintLast Go.Proofs.YtpckkkcaffhhnaaW.PrintMore Go.Proofs.Ytpckkkcaffhhnaa.P
set_option linter.unusedVariables false
set_option linter.unusedSimpArgs false
/-- A walk over a list with a state, that may end early. -/
def runS {α σ β : Type} (f : Nat → α → σ → σ ⊕ β) (E : σ → β) : List α → Nat → σ → β
  | [], _, s => E s
  | x :: l, i, s => match f i x s with
    | .inl s' => runS f E l (i + 1) s'
    | .inr r => r
theorem loop_run {α σ β : Type} (f : Nat → α → σ → σ ⊕ β) (E : Nat → σ → β) (I : Nat → σ → Prop) (d : α) (l : List α) (hn : l.length ≤ 9223372036854775806) (L : Nat → σ → Int → β) (K : Nat)
    (hS : ∀ (k i : Nat) (s : σ), K ≤ k → i < l.length → I i s → L (k + 1) s (i : Int) = match f i (l.getD i d) s with | .inl s' => L k s' (wrap64 ((i : Int) + 1)) | .inr r => r)
    (hI : ∀ (i : Nat) (s s' : σ), i < l.length → I i s → f i (l.getD i d) s = .inl s' → I (i + 1) s')
    (hE : ∀ (k : Nat) (s : σ), K ≤ k → I l.length s → L (k + 1) s (l.length : Int) = E k s) (k : Nat) (hk : K + l.length < k) (s : σ) (h0 : I 0 s) : L k s 0 = runS f (E (k - l.length - 1)) l 0 s := by
  have key : ∀ (n k i : Nat) (s : σ), i + n = l.length → K + n < k → I i s → L k s (i : Int) = runS f (E (k - n - 1)) (l.drop i) i s := by
    intro n
    induction n with
    | zero =>
      intro k i s hi hk hs
      obtain ⟨k, rfl, _⟩ := succ_of hk
      have : i = l.length := by omega
      subst this
      rw [hE k s (by omega) hs, List.drop_length]
      rfl
    | succ n ih =>
      intro k i s hi hk hs
      obtain ⟨k, rfl, _⟩ := succ_of hk
      rw [hS k i s (by omega) (by omega) hs, drop_getD l d i (by omega)]
      simp only [runS]
      cases hf : f i (l.getD i d) s with
      | inr r => rfl
      | inl s' =>
        simp only
        rw [wrap_id (by omega) (by omega)]
        have h2 := ih k (i + 1) s' (by omega) (by omega) (hI i s s' (by omega) hs hf)
        rw [show k + 1 - (n + 1) - 1 = k - n - 1 by omega, ← h2]
        rfl
  have h := key l.length k 0 s (by omega) hk h0
  simpa using h
/-- A loop whose rounds hold loops: each takes up to c more rounds of fuel. -/
theorem loop_var {α σ β : Type} (f : Nat → α → σ → σ ⊕ β) (E : σ → β) (I : Nat → σ → Prop) (d : α) (l : List α) (hn : l.length ≤ 9223372036854775806) (L : Nat → σ → Int → β) (K c : Nat)
    (hS : ∀ (k i : Nat) (s : σ), K ≤ k → i < l.length → I i s → match f i (l.getD i d) s with
      | .inl s' => I (i + 1) s' ∧ ∃ k', k ≤ k' + c ∧ L (k + 1) s (i : Int) = L k' s' (wrap64 ((i : Int) + 1))
      | .inr r => L (k + 1) s (i : Int) = r)
    (hE : ∀ (k : Nat) (s : σ), K ≤ k → I l.length s → L (k + 1) s (l.length : Int) = E s) (k : Nat) (hk : K + l.length * (c + 1) < k) (s : σ) (h0 : I 0 s) : L k s 0 = runS f E l 0 s := by
  have key : ∀ (n k i : Nat) (s : σ), i + n = l.length → K + n * (c + 1) < k → I i s → L k s (i : Int) = runS f E (l.drop i) i s := by
    intro n
    induction n with
    | zero =>
      intro k i s hi hk hs
      obtain ⟨k, rfl, _⟩ := succ_of hk
      have : i = l.length := by omega
      subst this
      rw [hE k s (by omega) hs, List.drop_length]
      rfl
    | succ n ih =>
      intro k i s hi hk hs
      rw [Nat.succ_mul] at hk
      obtain ⟨k, rfl, _⟩ := succ_of hk
      have h := hS k i s (by omega) (by omega) hs
      rw [drop_getD l d i (by omega)]
      simp only [runS]
      cases hf : f i (l.getD i d) s with
      | inr r => rw [hf] at h; exact h
      | inl s' =>
        rw [hf] at h
        obtain ⟨h1, k', h2, h3⟩ := h
        simp only
        rw [h3, wrap_id (by omega) (by omega)]
        have h4 := ih k' (i + 1) s' (by omega) (by omega) h1
        rw [← h4]
        rfl
  have h := key l.length k 0 s (by omega) hk h0
  simpa using h
/-- .. and goes on with what fuel is left. -/
theorem loop_vark {α σ β : Type} (f : Nat → α → σ → σ ⊕ β) (E : Nat → σ → β) (I : Nat → σ → Prop) (d : α) (l : List α) (hn : l.length ≤ 9223372036854775806) (L : Nat → σ → Int → β) (K c : Nat)
    (hS : ∀ (k i : Nat) (s : σ), K ≤ k → i < l.length → I i s → match f i (l.getD i d) s with
      | .inl s' => I (i + 1) s' ∧ ∃ k', k ≤ k' + c ∧ L (k + 1) s (i : Int) = L k' s' (wrap64 ((i : Int) + 1))
      | .inr r => L (k + 1) s (i : Int) = r)
    (hE : ∀ (k : Nat) (s : σ), K ≤ k → I l.length s → L (k + 1) s (l.length : Int) = E k s) (k : Nat) (hk : K + l.length * (c + 1) < k) (s : σ) (h0 : I 0 s) : ∃ k', k ≤ k' + (l.length * (c + 1) + 1) ∧ L k s 0 = runS f (E k') l 0 s := by
  have key : ∀ (n k i : Nat) (s : σ), i + n = l.length → K + n * (c + 1) < k → I i s → ∃ k', k ≤ k' + (n * (c + 1) + 1) ∧ L k s (i : Int) = runS f (E k') (l.drop i) i s := by
    intro n
    induction n with
    | zero =>
      intro k i s hi hk hs
      obtain ⟨k, rfl, _⟩ := succ_of hk
      have : i = l.length := by omega
      subst this
      refine ⟨k, by omega, ?_⟩
      rw [hE k s (by omega) hs, List.drop_length]
      rfl
    | succ n ih =>
      intro k i s hi hk hs
      rw [Nat.succ_mul] at hk ⊢
      obtain ⟨k, rfl, _⟩ := succ_of hk
      have h := hS k i s (by omega) (by omega) hs
      rw [drop_getD l d i (by omega)]
      simp only [runS]
      cases hf : f i (l.getD i d) s with
      | inr r => rw [hf] at h; exact ⟨k + 1, by omega, h⟩
      | inl s' =>
        rw [hf] at h
        obtain ⟨h1, k', h2, h3⟩ := h
        simp only
        obtain ⟨k2, h5, h4⟩ := ih k' (i + 1) s' (by omega) (by omega) h1
        refine ⟨k2, by omega, ?_⟩
        rw [h3, wrap_id (by omega) (by omega), ← h4]
        rfl
  have h := key l.length k 0 s (by omega) hk h0
  simpa using h
/-- A test of each element and its place. -/
theorem runS_from {α β : Type} (q : Nat → α → Bool) (E F : β) : ∀ (l : List α) (i : Nat), runS (fun i x (_ : Unit) => if q i x then (.inl () : Unit ⊕ β) else .inr F) (fun _ => E) l i () = if allFrom q l i = true then E else F
  | [], _ => rfl
  | a :: l, i => by
    simp only [runS]
    by_cases h : q i a = true
    · rw [if_pos h, show allFrom q (a :: l) i = allFrom q l (i + 1) by simp only [allFrom, h, Bool.true_and]]; exact runS_from q E F l (i + 1)
    · have h' : q i a = false := Bool.eq_false_iff.mpr h
      rw [if_neg h, show allFrom q (a :: l) i = false by simp only [allFrom, h', Bool.false_and]]; rfl
/-- A loop with a property of its state: it ends, and what it gives has another property. -/
theorem loop_inv {σ β : Type} (I : Nat → σ → Prop) (Q : β → Prop) (n : Nat) (hn : n ≤ 9223372036854775806) (L : Nat → σ → Int → Option β) (K : Nat)
    (hS : ∀ (k i : Nat) (s : σ), K ≤ k → i < n → I i s → (∃ s', I (i + 1) s' ∧ L (k + 1) s (i : Int) = L k s' (wrap64 ((i : Int) + 1))) ∨ ∃ r, L (k + 1) s (i : Int) = some r ∧ Q r)
    (hE : ∀ (k : Nat) (s : σ), K ≤ k → I n s → ∃ r, L (k + 1) s (n : Int) = some r ∧ Q r) (k : Nat) (hk : K + n < k) (s : σ) (h0 : I 0 s) : ∃ r, L k s 0 = some r ∧ Q r := by
  have key : ∀ (m k i : Nat) (s : σ), i + m = n → K + m < k → I i s → ∃ r, L k s (i : Int) = some r ∧ Q r := by
    intro m
    induction m with
    | zero =>
      intro k i s hi hk hs
      obtain ⟨k, rfl, _⟩ := succ_of hk
      have : i = n := by omega
      subst this
      exact hE k s (by omega) hs
    | succ m ih =>
      intro k i s hi hk hs
      obtain ⟨k, rfl, _⟩ := succ_of hk
      rcases hS k i s (by omega) (by omega) hs with ⟨s', h1, h2⟩ | h
      · rw [h2, wrap_id (by omega) (by omega)]
        exact ih k (i + 1) s' (by omega) (by omega) h1
      · exact h
  exact key n k 0 s (by omega) hk h0
end Go.Proofs.Ytpckkkcaffhhnaa.L

/- The names in a function; marks in texts. -/
namespace Go.Proofs.Ytpckkkcaffhhnaa.L
open Go.RowKit Go.Proofs.YtpckkkcaffhhnaaW.PrintWords Go.Proofs.YtpckkkcaffhhnaaW.PrintLast Go.Proofs.YtpckkkcaffhhnaaW.PrintMore Go.Proofs.Ytpckkkcaffhhnaa.P
set_option linter.unusedVariables false
set_option linter.unusedSimpArgs false
def hasB (l : List ByteArray) (a : ByteArray) : Bool := l.any fun x => x.toList == a.toList
def refsAdd (x : S38) (s : List ByteArray) : List ByteArray := if refersB x.f0 && !hasB s x.f2 then s ++ [x.f2] else s
def refsV (l : List S38) : List ByteArray := l.foldl (fun s x => refsAdd x s) []
theorem refsAdd_len (x : S38) (s : List ByteArray) : (refsAdd x s).length ≤ s.length + 1 := by
  unfold refsAdd
  split
  · simp
  · omega
theorem foldl_len : ∀ (l : List S38) (s : List ByteArray), (l.foldl (fun s x => refsAdd x s) s).length ≤ s.length + l.length
  | [], s => by simp
  | x :: l, s => by
    have := foldl_len l (refsAdd x s)
    have := refsAdd_len x s
    simp only [List.foldl, List.length_cons]
    omega
theorem refsV_len (l : List S38) : (refsV l).length ≤ l.length := by
  have := foldl_len l []
  simpa [refsV] using this
theorem runS_fold {β : Type} (E : List ByteArray → β) : ∀ (l : List S38) (i : Nat) (s : List ByteArray), runS (fun _ x s => (.inl (refsAdd x s) : List ByteArray ⊕ β)) E l i s = E (l.foldl (fun s x => refsAdd x s) s)
  | [], _, _ => rfl
  | x :: l, i, s => runS_fold E l (i + 1) (refsAdd x s)
theorem slices_Contains_sstring_string_f (l : List ByteArray) (hn : l.length ≤ 9223372036854775807) (a : ByteArray) (k : Nat) (hk : l.length < k) : slices_Contains_sstring_string.f k l a = some (hasB l a) := by
  unfold slices_Contains_sstring_string.f slices_Index_sstring_string.f
  have h : slices_Index_sstring_string.l0 k l a (l.length : Int) 0 = some (idxFrom (fun x => x.toList == a.toList) l 0) := by
    refine loop_idx (fun x => x.toList == a.toList) ByteArray.empty l hn (fun k i => slices_Index_sstring_string.l0 k l a (l.length : Int) i) 0 ?_ ?_ ?_ k (by omega)
    · intro k i _ hi hq
      simp only [slices_Index_sstring_string.l0]
      rw [if_pos (by omega), if_pos (by omega), if_pos (by omega), if_pos (show a.toList = (rdOf ByteArray.empty l (i : Int)).toList from (beq_iff_eq.mp hq).symm)]
    · intro k i _ hi hq
      simp only [slices_Index_sstring_string.l0]
      rw [if_pos (by omega), if_pos (by omega), if_pos (by omega), if_neg (show ¬ a.toList = (rdOf ByteArray.empty l (i : Int)).toList from fun e => beq_eq_false_iff_ne.mp hq e.symm)]
    · intro k _
      simp only [slices_Index_sstring_string.l0]
      rw [if_neg (by omega)]
  rw [h]
  simp only [Option.bind_some, hasB]
  rw [← idxFrom_any _ l 0 (by decide)]
theorem spec_l2Has_f (l : List ByteArray) (hn : l.length ≤ 9223372036854775806) (a : ByteArray) (k : Nat) (hk : l.length < k) : spec_l2Has.f k l a = some (hasB l a) := by
  have e : ∀ (l' : List ByteArray) (i : Nat), runS (fun _ x (_ : Unit) => if x.toList = a.toList then (.inr (some true) : Unit ⊕ Option Bool) else .inl ()) (fun _ => some false) l' i () = some (hasB l' a) := by
    intro l'
    induction l' with
    | nil => intro i; rfl
    | cons x l' ih =>
      intro i
      simp only [runS, hasB, List.any_cons]
      by_cases h : x.toList = a.toList
      · rw [if_pos h, beq_iff_eq.mpr h]; rfl
      · rw [if_neg h, beq_eq_false_iff_ne.mpr h]
        exact ih (i + 1)
  unfold spec_l2Has.f
  refine (loop_run (fun _ x (_ : Unit) => if x.toList = a.toList then (.inr (some true) : Unit ⊕ Option Bool) else .inl ()) (fun _ _ => some false) (fun _ _ => True) ByteArray.empty l hn (fun k _ i => spec_l2Has.l0 k l a i) 0 ?_ (fun _ _ _ _ _ _ => trivial) ?_ k (by omega) () trivial).trans (e l 0)
  · intro k i s _ hi _
    simp only [spec_l2Has.l0]
    rw [if_pos (by omega), if_pos (by omega)]
    show (if (l.getD i ByteArray.empty).toList = a.toList then _ else _) = _
    split <;> rfl
  · intro k s _ _
    simp only [spec_l2Has.l0]
    rw [if_neg (by omega)]
theorem impl_Fun_refs_f (a : ByteArray) (b : Bool) (l : List S38) (hn : l.length ≤ 8796093022207) (k : Nat) (hk : 2 * l.length + 5 < k) : impl_Fun_refs.f k a b l = some (refsV l) := by
  unfold impl_Fun_refs.f
  refine (loop_run (fun _ x s => (.inl (refsAdd x s) : List ByteArray ⊕ Option (List ByteArray))) (fun _ s => some s) (fun i s => s.length ≤ i) z38 l (by omega) (fun k s i => impl_Fun_refs.l0 k s l (l.length : Int) i) (l.length + 1) ?_ ?_ ?_ k (by omega) [] (by simp)).trans (runS_fold _ l 0 [])
  · intro k i s hK hi hs
    simp only [impl_Fun_refs.l0]
    rw [if_pos (by omega), if_pos (by omega), if_pos (by omega), impl_InsRefs_f (rd_T38 l (i : Int)).f0 _ _]
    simp only [Option.bind_some]
    rw [slices_Contains_sstring_string_f s (by omega) _ k (by omega)]
    simp only [Option.bind_some]
    show (if refersB (l.getD i z38).f0 = true then (if hasB s (l.getD i z38).f2 = true then _ else (if s.length < 8796093022208 then impl_Fun_refs.l0 k (s ++ [(l.getD i z38).f2]) l (l.length : Int) (wrap64 ((i : Int) + 1)) else none)) else _) = impl_Fun_refs.l0 k (refsAdd (l.getD i z38) s) l (l.length : Int) (wrap64 ((i : Int) + 1))
    rw [if_pos (show s.length < 8796093022208 by omega)]
    unfold refsAdd
    cases refersB (l.getD i z38).f0 <;> cases hasB s (l.getD i z38).f2 <;> rfl
  · intro i s s' hi hs he
    have := refsAdd_len (l.getD i z38) s
    cases he
    omega
  · intro k s _ _
    simp only [impl_Fun_refs.l0]
    rw [if_neg (by omega)]
theorem spec_l2Refs_f (l : List S38) (hn : l.length ≤ 8796093022207) (k : Nat) (hk : 2 * l.length + 5 < k) : spec_l2Refs.f k l = some (refsV l) := by
  unfold spec_l2Refs.f
  refine (loop_run (fun _ x s => (.inl (refsAdd x s) : List ByteArray ⊕ Option (List ByteArray))) (fun _ s => some s) (fun i s => s.length ≤ i) z38 l (by omega) (fun k s i => spec_l2Refs.l0 k l s i) (l.length + 1) ?_ ?_ ?_ k (by omega) [] (by simp)).trans (runS_fold _ l 0 [])
  · intro k i s hK hi hs
    simp only [spec_l2Refs.l0]
    rw [if_pos (by omega), if_pos (by omega), spec_InsRefs_f (rd_T38 l (i : Int)).f0 _ _]
    simp only [Option.bind_some]
    rw [spec_l2Has_f s (by omega) _ k (by omega)]
    simp only [Option.bind_some]
    show (if refersB (l.getD i z38).f0 = true then (if hasB s (l.getD i z38).f2 = true then _ else (if s.length < 8796093022208 then spec_l2Refs.l0 k l (s ++ [(l.getD i z38).f2]) (wrap64 ((i : Int) + 1)) else none)) else _) = spec_l2Refs.l0 k l (refsAdd (l.getD i z38) s) (wrap64 ((i : Int) + 1))
    rw [if_pos (show s.length < 8796093022208 by omega)]
    unfold refsAdd
    cases refersB (l.getD i z38).f0 <;> cases hasB s (l.getD i z38).f2 <;> rfl
  · intro i s s' hi hs he
    have := refsAdd_len (l.getD i z38) s
    cases he
    omega
  · intro k s _ _
    simp only [spec_l2Refs.l0]
    rw [if_neg (by omega)]
def funRefsV (x : S30) : List ByteArray := if funOkB x.f0 x.f2 = true then refsV x.f2 else []
theorem funRefsV_len (x : S30) : (funRefsV x).length ≤ 10 := by
  unfold funRefsV
  split
  · rename_i h
    have := funOkB_len h
    have := refsV_len x.f2
    omega
  · simp
theorem impl_FunRefs_f (x : S30) (hx : FitF x) (k : Nat) (hk : 100 < k) : impl_FunRefs.f k x.f0 x.f1 x.f2 = some (funRefsV x) := by
  unfold impl_FunRefs.f funRefsV
  rw [impl_FunOk_f x hx]
  simp only [Option.bind_some]
  by_cases h : funOkB x.f0 x.f2 = true
  · have := funOkB_len h
    rw [if_pos h, if_pos h, impl_Fun_refs_f x.f0 x.f1 x.f2 (by omega) k (by omega)]
    rfl
  · rw [if_neg h, if_neg h]
theorem spec_FunRefs_f (x : S30) (hx : FitF x) (k : Nat) (hk : 500000000000000 < k) : spec_FunRefs.f k x.f0 x.f1 x.f2 = some (funRefsV x) := by
  unfold spec_FunRefs.f funRefsV
  rw [spec_FunOk_f x hx k (by have := hx.2.1; omega)]
  simp only [Option.bind_some]
  by_cases h : funOkB x.f0 x.f2 = true
  · have := funOkB_len h
    rw [if_pos h, if_pos h, spec_l2Refs_f x.f2 (by omega) k (by omega)]
    rfl
  · rw [if_neg h, if_neg h]
end Go.Proofs.Ytpckkkcaffhhnaa.L

/- References are exactly those of the body: for every code, the law on FunRefs answers true. -/
namespace Go.Proofs.Ytpckkkcaffhhnaa.Pure
open Go.RowKit Go.Proofs.Ytpckkkcaffhhnaa.P Go.Proofs.Ytpckkkcaffhhnaa.L Go.Proofs.YtpckkkcaffhhnaaW.PrintWords
set_option linter.unusedVariables false
theorem draw_refs (l : List Int) (hl : Bytes l) : ∃ x : S30, (∀ k, 60 ≤ k → spec_DrawFunRefs.f k l = some (x.f0, x.f1, x.f2)) ∧ SmallF 6 x := by
  obtain ⟨l', e, hl', _⟩ := spec_l13Open_f l hl
  obtain ⟨u, q, h, hq, hu⟩ := spec_l2Bent_f l' hl' 0 (by decide) (by decide)
  have h1 := hu.1
  refine ⟨rd_T30 u 0, fun k hk => ?_, hu.2.2 _ (by show u.getD 0 z30 ∈ u; exact getD_mem (by omega))⟩
  unfold spec_DrawFunRefs.f spec_l2FunBent.f
  rw [e]; simp only [Option.bind_some]
  rw [h k (by omega)]; simp only [Option.bind_some]
  rw [if_pos (by omega)]; rfl
def cntR (l : List S38) : Nat := (l.filter fun x => refersB x.f0).length
theorem cntR_cons (x : S38) (l : List S38) : cntR (x :: l) = (if refersB x.f0 = true then 1 else 0) + cntR l := by
  unfold cntR
  rw [List.filter_cons]
  split <;> simp <;> omega
theorem has_add (a : ByteArray) (x : S38) (s : List ByteArray) (h : hasB s a = true) : hasB (refsAdd x s) a = true := by
  unfold refsAdd
  split
  · unfold hasB at h ⊢
    rw [List.any_append, h]; rfl
  · exact h
theorem has_fold (a : ByteArray) : ∀ (l : List S38) (s : List ByteArray), hasB s a = true → hasB (l.foldl (fun s x => refsAdd x s) s) a = true
  | [], s, h => h
  | x :: l, s, h => has_fold a l _ (has_add a x s h)
theorem has_refs : ∀ (l : List S38) (s : List ByteArray) (y : S38), y ∈ l → refersB y.f0 = true → hasB (l.foldl (fun s x => refsAdd x s) s) y.f2 = true
  | [], s, y, h, _ => by simp at h
  | x :: l, s, y, h, hr => by
    rcases List.mem_cons.mp h with rfl | h
    · refine has_fold _ l _ ?_
      cases hh : hasB s y.f2 with
      | true => exact has_add _ _ _ hh
      | false =>
        have e : refsAdd y s = s ++ [y.f2] := by unfold refsAdd; rw [hr, hh]; rfl
        show hasB (refsAdd y s) y.f2 = true
        rw [e]
        unfold hasB
        rw [List.any_append]
        simp
    · exact has_refs l _ y h hr
theorem refs_cnt : ∀ (l : List S38) (s : List ByteArray), (l.foldl (fun s x => refsAdd x s) s).length ≤ s.length + cntR l
  | [], s => by simp [cntR]
  | x :: l, s => by
    have := refs_cnt l (refsAdd x s)
    simp only [List.foldl]
    rw [cntR_cons]
    have h2 : (refsAdd x s).length ≤ s.length + (if refersB x.f0 = true then 1 else 0) := by
      unfold refsAdd
      cases refersB x.f0 <;> cases hasB s x.f2 <;> simp
    omega
theorem refsV_cnt (l : List S38) : (refsV l).length ≤ cntR l := by have := refs_cnt l []; simpa [refsV] using this
theorem refsV_zero (l : List S38) (h : (refsV l).length = 0) : cntR l = 0 := by
  by_cases hc : cntR l = 0
  · exact hc
  · unfold cntR at hc
    obtain ⟨y, hy⟩ := List.exists_mem_of_length_pos (Nat.pos_of_ne_zero hc)
    rw [List.mem_filter] at hy
    have := has_refs l [] y hy.1 hy.2
    rw [show (l.foldl (fun s x => refsAdd x s) []) = refsV l from rfl, List.length_eq_zero_iff.mp h] at this
    simp [hasB] at this
theorem runS_or {β : Type} (q : ByteArray → Bool) (E : Bool → β) : ∀ (l : List ByteArray) (i : Nat) (b : Bool), runS (fun _ a b => (.inl (b || q a) : Bool ⊕ β)) E l i b = E (b || l.any q)
  | [], _, b => by simp [runS]
  | a :: l, i, b => by
    simp only [runS, List.any_cons]
    rw [runS_or q E l (i + 1) _, Bool.or_assoc]
theorem refs_l1 (r w : List ByteArray) (n j : Int) (f0 : ByteArray) (f1 : Bool) (body : List S38) (hr : r.length ≤ 1000) (hj : 0 ≤ j) (hj2 : j < (body.length : Int)) (k : Nat) (hk : 1 + r.length < k) :
    laws_FnFunRefs.l1 k r w n j false 0 f0 f1 body = if hasB r (rd_T38 body j).f2 = true then laws_FnFunRefs.l0 (k - r.length - 1) r w (wrap64 (n + 1)) (wrap64 (j + 1)) f0 f1 body else some false := by
  refine (loop_run (fun _ (a : ByteArray) b => (.inl (b || (a.toList == (rd_T38 body j).f2.toList)) : Bool ⊕ Option Bool)) (fun k b => if b = true then laws_FnFunRefs.l0 k r w (wrap64 (n + 1)) (wrap64 (j + 1)) f0 f1 body else some false) (fun _ _ => True) ByteArray.empty r (by omega) (fun k b i => laws_FnFunRefs.l1 k r w n j b i f0 f1 body) 1 ?_ (fun _ _ _ _ _ _ => trivial) ?_ k (by omega) false trivial).trans (runS_or _ _ r 0 false)
  · intro k i b hK hi _
    simp only [laws_FnFunRefs.l1]
    rw [if_pos (by omega)]
    cases b with
    | true => rw [if_pos rfl]; rfl
    | false => rw [if_neg (by decide), if_pos (by omega), if_pos hj, if_pos hj2]; rfl
  · intro k b _ _
    simp only [laws_FnFunRefs.l1]
    rw [if_neg (by omega)]
theorem refs_l2 (r : List ByteArray) (n : Int) (hr : r.length ≤ 1000) (h1 : (r.length : Int) ≤ n) (h2 : r.length = 0 → n = 0) (k : Nat) (hk : r.length < k) : laws_FnFunRefs.l2 k r r n r 0 = some true := by
  have key : ∀ (m i k : Nat), i + m = r.length → m < k → laws_FnFunRefs.l2 k r r n r (i : Int) = some true := by
    intro m
    induction m with
    | zero =>
      intro i k hi hk
      obtain ⟨k, rfl, _⟩ := succ_of hk
      simp only [laws_FnFunRefs.l2]
      rw [if_neg (by omega), if_pos trivial, if_pos h1]
      congr 1
      rw [beq_iff_eq, Bool.eq_iff_iff, beq_iff_eq, beq_iff_eq]
      constructor
      · intro h; omega
      · intro h; exact h2 (by omega)
    | succ m ih =>
      intro i k hi hk
      obtain ⟨k, rfl, _⟩ := succ_of hk
      simp only [laws_FnFunRefs.l2]
      rw [if_pos (by omega), if_pos (by omega), if_pos (by omega), if_pos trivial, if_pos (by omega), if_pos trivial]
      rw [wrap_id (by omega) (by omega)]
      exact ih (i + 1) k (by omega) (by omega)
  exact key r.length 0 k (by omega) (by omega)
theorem funOk_other (x : S30) (h : funOkB x.f0 x.f2 = true) (b : Bool) : funRefsV ⟨(⟨#[111, 116, 104, 101, 114]⟩ : ByteArray), b, x.f2⟩ = refsV x.f2 := by
  have hn : nameOk (⟨#[111, 116, 104, 101, 114]⟩ : ByteArray) = true := by decide
  unfold funRefsV
  rw [if_pos ?_]
  unfold funOkB at h ⊢
  simp only at h ⊢
  rw [hn]
  cases hx : nameOk x.f0 with
  | false => rw [hx] at h; simp at h
  | true => rw [hx] at h; exact h
theorem wrap_small (q : Nat) (hq : q ≤ 6) : wrap64 ((q : Int) + 1) = ((q + 1 : Nat) : Int) := by rw [wrap_id (by omega) (by omega)]; push_cast; rfl
theorem FnFunRefs : laws_FnFunRefs.Pure := by
  intro l _ _ hw
  unfold laws_FnFunRefs.f
  by_cases h : (l.length : Int) > 1048576
  · exact ⟨1, by rw [if_pos h]⟩
  obtain ⟨x, hd, hx⟩ := draw_refs l ⟨by omega, hw⟩
  have hf := hx.fit (by omega)
  have hb := hx.2.1
  obtain ⟨K, hK⟩ : ∃ K : Nat, 1000000000000000 ≤ K := ⟨_, Nat.le_refl _⟩
  refine ⟨K + 3, ?_⟩
  rw [if_neg h]
  simp only [laws_FnFunRefs.j0]
  rw [hd _ (by omega)]
  simp only [Option.bind_some]
  rw [impl_FunRefs_f x hf _ (by omega)]
  simp only [Option.bind_some]
  rw [spec_FunRefs_f x hf _ (by omega)]
  simp only [Option.bind_some, if_true]
  rw [spec_FunOk_f x hf _ (by omega)]
  simp only [Option.bind_some, laws_FnFunRefs.j1]
  cases hok : funOkB x.f0 x.f2 with
  | false => rw [if_pos (by decide)]; simp
  | true =>
    rw [if_neg (by decide)]
    simp only [laws_FnFunRefs.j2]
    have er : funRefsV x = refsV x.f2 := by unfold funRefsV; rw [if_pos hok]
    rw [er]
    have hrl := refsV_len x.f2
    have hrc := refsV_cnt x.f2
    have hrz := refsV_zero x.f2
    obtain ⟨B, hB⟩ : ∃ B : Nat, B = 500000000000000 := ⟨_, rfl⟩
    have key : ∀ (m i n k : Nat), i + m = x.f2.length → n + cntR (x.f2.drop i) = cntR x.f2 → B + 100 * (m + 1) ≤ k → laws_FnFunRefs.l0 k (refsV x.f2) (refsV x.f2) (n : Int) (i : Int) x.f0 x.f1 x.f2 = some true := by
      intro m
      induction m with
      | zero =>
        intro i n k hi hn hk
        obtain ⟨k, rfl⟩ : ∃ j, k = j + 1 := ⟨k - 1, by omega⟩
        rw [List.drop_eq_nil_of_le (by omega)] at hn
        have hn2 : n = cntR x.f2 := by simpa [cntR] using hn
        simp only [laws_FnFunRefs.l0]
        rw [if_neg (by omega)]
        have hfo : FitF (⟨(⟨#[111, 116, 104, 101, 114]⟩ : ByteArray), x.f1, x.f2⟩ : S30) := ⟨(by decide : (⟨#[111, 116, 104, 101, 114]⟩ : ByteArray).size ≤ 140737488351232), hf.2.1, hf.2.2⟩
        have e := impl_FunRefs_f (⟨(⟨#[111, 116, 104, 101, 114]⟩ : ByteArray), x.f1, x.f2⟩ : S30) hfo k (by omega)
        rw [funOk_other x hok] at e
        simp only at e
        rw [e]
        simp only [Option.bind_some]
        exact refs_l2 (refsV x.f2) (n : Int) (by omega) (by omega) (fun h0 => by have := hrz h0; omega) k (by omega)
      | succ m ih =>
        intro i n k hi hn hk
        obtain ⟨k, rfl⟩ : ∃ j, k = j + 3 := ⟨k - 3, by omega⟩
        have hlt : i < x.f2.length := by omega
        have hwi : wrap64 ((i : Int) + 1) = ((i + 1 : Nat) : Int) := by clear hrz hrc hn ih; rw [wrap_id (by omega) (by omega)]; push_cast; rfl
        simp only [laws_FnFunRefs.l0]
        rw [if_pos (by omega)]
        simp only [laws_FnFunRefs.j4]
        have g0 : (0 : Int) ≤ (i : Int) := Int.natCast_nonneg i
        have g1 : (i : Int) < (x.f2.length : Int) := by omega
        have g2 : (refsV x.f2).length ≤ 1000 := by clear hrz hrc hn ih; omega
        have g3 : 1 + (refsV x.f2).length < k := by clear hrz hrc hn ih; omega
        have g4 : B + 100 * (m + 1) ≤ k - (refsV x.f2).length - 1 := by clear hrz hrc hn ih; omega
        have g5 : B + 100 * (m + 1) ≤ k + 1 := by clear hrz hrc hn ih; omega
        have g6 : i + 1 + m = x.f2.length := by clear hrz hrc hn ih; omega
        rw [if_pos g0, if_pos g1, impl_InsRefs_f]
        simp only [Option.bind_some]
        rw [show rd_T38 x.f2 (i : Int) = x.f2.getD i z38 from rfl]
        cases hrf : refersB (x.f2.getD i z38).f0 with
        | false =>
          rw [drop_getD x.f2 z38 i hlt, cntR_cons, hrf, if_neg (by decide)] at hn
          rw [if_neg (by decide), hwi]
          have g7 : n + cntR (x.f2.drop (i + 1)) = cntR x.f2 := by rw [Nat.zero_add] at hn; exact hn
          exact ih (i + 1) n _ g6 g7 g5
        | true =>
          rw [drop_getD x.f2 z38 i hlt, cntR_cons, hrf, if_pos rfl] at hn
          rw [if_pos rfl]
          simp only [laws_FnFunRefs.j5]
          rw [refs_l1 (refsV x.f2) (refsV x.f2) _ _ _ _ _ g2 g0 g1 k g3]
          rw [show rd_T38 x.f2 (i : Int) = x.f2.getD i z38 from rfl, if_pos (show hasB (refsV x.f2) (x.f2.getD i z38).f2 = true from has_refs x.f2 [] _ (getD_mem hlt) hrf), hwi]
          have hcl : cntR x.f2 ≤ x.f2.length := List.length_filter_le _ _
          have hnn : n ≤ cntR x.f2 := by rw [← hn]; exact Nat.le_add_right _ _
          have g8 := wrap_small n (Nat.le_trans hnn (Nat.le_trans hcl hb))
          rw [g8]
          have g7 : n + 1 + cntR (x.f2.drop (i + 1)) = cntR x.f2 := by rw [Nat.add_assoc]; exact hn
          exact ih (i + 1) (n + 1) _ g6 g7 g4
    exact key x.f2.length 0 0 K (by omega) (by simp) (by omega)
end Go.Proofs.Ytpckkkcaffhhnaa.Pure
