/- Instruction classes are exact: for every code, the law on InsLast and InsRefs answers true. -/
import Derived.Test.YtgcdhjnjclgdcaaPxlawsFnInsAll
import Derived.Test.YtgcdhjnjclgdcaaLIns
import Derived.Test.YtgcdhjnjclgdcaaLDraw
namespace Go.Proofs.Ytgcdhjnjclgdcaa.Pure
open Go.RowKit Go.Proofs.Ytgcdhjnjclgdcaa.P Go.Proofs.Ytgcdhjnjclgdcaa.L Go.Proofs.YtgcdhjnjclgdcaaW.PrintWords
theorem draw_last (l : List Int) (hl : Bytes l) : ∃ a b s, ∀ k, 4 ≤ k → spec_DrawInsLast.f k l = some (a, b, s) := by
  obtain ⟨l', e, hl', _⟩ := spec_l13Open_f l hl
  obtain ⟨a, b, s, q, h, _⟩ := spec_l1Bent_f l' hl' 0 (by decide) (by decide)
  refine ⟨a, b, s, fun k hk => ?_⟩
  unfold spec_DrawInsLast.f
  rw [e]; simp only [Option.bind_some]
  rw [h k hk]; rfl
theorem draw_refs (l : List Int) (hl : Bytes l) : ∃ a b s, ∀ k, 4 ≤ k → spec_DrawInsRefs.f k l = some (a, b, s) := by
  obtain ⟨l', e, hl', _⟩ := spec_l13Open_f l hl
  obtain ⟨a, b, s, q, h, _⟩ := spec_l1Bent_f l' hl' 0 (by decide) (by decide)
  refine ⟨a, b, s, fun k hk => ?_⟩
  unfold spec_DrawInsRefs.f
  rw [e]; simp only [Option.bind_some]
  rw [h k hk]; rfl
theorem all_j1 (k : Nat) (a b : Int) (s : ByteArray) : laws_FnInsAll.j1 (k + 1) false a b s = some true := by
  simp only [laws_FnInsAll.j1, impl_InsRefs_f, Option.bind_some]
  rw [if_neg (by decide)]
  rcases refers3 a with ⟨rfl, h⟩ | ⟨h3, rfl, h⟩ | ⟨h3, h4, h⟩
  · rw [if_pos rfl, h]; rfl
  · rw [if_neg h3, if_pos rfl, h]; rfl
  · rw [if_neg h3, if_neg h4, h]; simp
theorem all_j0 (k : Nat) (a b c d : Int) (s t : ByteArray) : laws_FnInsAll.j0 (k + 2) false a b s c d t = some true := by
  simp only [laws_FnInsAll.j0, impl_InsLast_f, Option.bind_some]
  rw [if_neg (by decide)]
  by_cases h4 : a = 4
  · have e : lastB a = true := by rw [h4]; rfl
    rw [if_pos h4, e]
    exact all_j1 k c d t
  · rw [if_neg h4]
    by_cases h6 : a = 6
    · have e : lastB a = true := by rw [h6]; rfl
      rw [if_pos h6, e]
      exact all_j1 k c d t
    · have e : lastB a = (a == 7) := by unfold lastB; rw [if_neg h4, if_neg h6]
      rw [if_neg h6, e, bne_self_eq_false]
      exact all_j1 k c d t
theorem FnInsAll : laws_FnInsAll.Pure := by
  intro l _ _ hw
  unfold laws_FnInsAll.f
  by_cases h : (l.length : Int) > 1048576
  · exact ⟨1, by rw [if_pos h]⟩
  · obtain ⟨a, b, s, h1⟩ := draw_last l ⟨by omega, hw⟩
    obtain ⟨c, d, t, h2⟩ := draw_refs l ⟨by omega, hw⟩
    refine ⟨4, ?_⟩
    rw [if_neg h, h1 4 (by decide)]
    simp only [Option.bind_some]
    rw [h2 4 (by decide)]
    simp only [Option.bind_some, impl_InsLast_f, spec_InsLast_f, impl_InsRefs_f, spec_InsRefs_f, bne_self_eq_false]
    rw [if_neg (by decide)]
    exact all_j0 2 a b c d s t
end Go.Proofs.Ytgcdhjnjclgdcaa.Pure
