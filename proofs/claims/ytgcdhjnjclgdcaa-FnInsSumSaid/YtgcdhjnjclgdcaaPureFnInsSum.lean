/- Saturating addition is exact: for every code, the law on InsSum answers true. -/
import Derived.Test.YtgcdhjnjclgdcaaPxspecDrawInsSum
import Derived.Test.YtgcdhjnjclgdcaaLIns
import Derived.Test.YtgcdhjnjclgdcaaLDraw
namespace Go.Proofs.Ytgcdhjnjclgdcaa.Pure
open Go.RowKit Go.Proofs.Ytgcdhjnjclgdcaa.P Go.Proofs.Ytgcdhjnjclgdcaa.L Go.Proofs.YtgcdhjnjclgdcaaW.PrintWords
theorem draw_sum (l : List Int) (hl : Bytes l) : ∃ a b, ∀ k, 1 ≤ k → spec_DrawInsSum.f k l = some (a, b) := by
  obtain ⟨l', e, hl', _⟩ := spec_l13Open_f l hl
  obtain ⟨a, ha, _⟩ := spec_l13Rd_num_f l' hl' 0 (by decide) (by decide) [0, 1, (-1), 7, 1000, (-1000), 1001, 9223372036854775807, (-9223372036854775808)] (by decide)
  obtain ⟨b, hb, _⟩ := spec_l13Rd_num_f l' hl' (0 + 1) (by decide) (by decide) [0, 1, (-1), 7, 1000, (-1000), 1001, 9223372036854775807, (-9223372036854775808)] (by decide)
  refine ⟨a, b, fun k hk => ?_⟩
  unfold spec_DrawInsSum.f
  rw [e]
  simp only [Option.bind_some]
  rw [ha k hk]
  simp only [Option.bind_some]
  rw [hb k hk]
  rfl
theorem sum_law (a b : Int) (k : Nat) : laws_FnInsSum.j0 (k + 1) a b (cutI (cutI a + cutI b)) (decide (cutI (cutI a + cutI b) > 1000)) = some true := by
  have hs := cutI_bd (cutI a + cutI b)
  have ha := cutI_bd a
  have hb := cutI_bd b
  have z : cutI 0 = 0 := rfl
  have ia : cutI (cutI a) = cutI a := cutI_id ha.1 ha.2
  have ib : cutI (cutI b) = cutI b := cutI_id hb.1 hb.2
  have c1 : cutI (cutI a + cutI 0) = cutI a := by rw [z, Int.add_zero, ia]
  have c2 : cutI (cutI b + cutI 0) = cutI b := by rw [z, Int.add_zero, ib]
  have n1 : wrap64 (-(cutI a)) = -(cutI a) := wrap_id (by omega) (by omega)
  have n2 : wrap64 (-(cutI b)) = -(cutI b) := wrap_id (by omega) (by omega)
  have w1 : wrap64 (cutI a + cutI b) = cutI a + cutI b := wrap_id (by omega) (by omega)
  have i1 : cutI (-(cutI a)) = -(cutI a) := cutI_id (by omega) (by omega)
  have i2 : cutI (-(cutI b)) = -(cutI b) := cutI_id (by omega) (by omega)
  have i3 : cutI (cutI a + -(cutI a)) = 0 := by rw [show cutI a + -(cutI a) = 0 by omega]; rfl
  simp only [laws_FnInsSum.j0, impl_InsSum_f, Option.bind_some, c1, c2]
  rw [if_neg (by simp; omega)]
  have c3 : cutI (cutI (cutI a) + cutI 0) = cutI a := by rw [z, Int.add_zero, ia, ia]
  rw [if_pos c3]
  have c4 : cutI (cutI (cutI a) + cutI (wrap64 (-(cutI a)))) = 0 := by rw [n1, ia, i1, i3]
  rw [if_pos c4, w1]
  by_cases h1 : cutI a + cutI b < -1000
  · rw [if_pos h1]
  · rw [if_neg h1]
    by_cases h2 : cutI a + cutI b > 1000
    · rw [if_pos h2]
    · rw [if_neg h2]
      have e : cutI (cutI a + cutI b) = cutI a + cutI b := cutI_id (by omega) (by omega)
      rw [if_pos e]
      have c5 : cutI (cutI (cutI (cutI a + cutI b)) + cutI (wrap64 (-(cutI b)))) = cutI a := by
        rw [n2, i2, e, e, show cutI a + cutI b + -(cutI b) = cutI a by omega, ia]
      rw [c5]
      simp
theorem FnInsSum : laws_FnInsSum.Pure := by
  intro l _ _ hw
  unfold laws_FnInsSum.f
  by_cases h : (l.length : Int) > 1048576
  · exact ⟨1, by rw [if_pos h]⟩
  · obtain ⟨a, b, hd⟩ := draw_sum l ⟨by omega, hw⟩
    refine ⟨1, ?_⟩
    rw [if_neg h, hd 1 (by decide)]
    simp only [Option.bind_some, impl_InsSum_f, spec_InsSum_f, if_true]
    rw [if_pos (by rw [Int.add_comm])]
    have hs := cutI_bd (cutI a + cutI b)
    rw [if_neg (by omega)]
    exact sum_law a b 0
end Go.Proofs.Ytgcdhjnjclgdcaa.Pure
