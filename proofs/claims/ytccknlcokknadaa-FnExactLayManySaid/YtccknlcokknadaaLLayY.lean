/- What the functions on layings compute. -/
import Derived.Test.YtccknlcokknadaaPxspecLayMany
import Derived.Test.YtccknlcokknadaaPxspecl5Ints
import Derived.Test.YtccknlcokknadaaPxspecl7Names
import Derived.Test.YtccknlcokknadaaLSameY
import Derived.Test.YtccknlcokknadaaLCvY
namespace Go.Proofs.Ytccknlcokknadaa.L
open Go.RowKit Go.Proofs.YtccknlcokknadaaW.PrintWords Go.Proofs.YtccknlcokknadaaW.PrintLast Go.Proofs.YtccknlcokknadaaW.PrintMore Go.Proofs.Ytccknlcokknadaa.P
set_option linter.unusedVariables false
set_option linter.unusedSimpArgs false
/-- How many stones there are: added up as a program adds. -/
def manyFrom : List (List ByteArray) → Int → Int
  | [], s => s
  | x :: l, s => manyFrom l (wrap64 (s + x.length))
theorem loop_many (l : List (List ByteArray)) (hn : l.length ≤ 9223372036854775807) (L : Nat → Int → Int → Option Int)
    (hS : ∀ (k i : Nat) (s : Int), i < l.length → L (k + 1) s (i : Int) = L k (wrap64 (s + (l.getD i []).length)) (wrap64 ((i : Int) + 1)))
    (hE : ∀ k (s : Int), L (k + 1) s (l.length : Int) = some s) (s : Int) (k : Nat) (hk : l.length < k) : L k s 0 = some (manyFrom l s) := by
  have key : ∀ (n k i : Nat) (s : Int), i + n = l.length → n < k → L k s (i : Int) = some (manyFrom (l.drop i) s) := by
    intro n
    induction n with
    | zero =>
      intro k i s hi hk
      obtain ⟨k, rfl, _⟩ := succ_of hk
      have : i = l.length := by omega
      subst this
      rw [hE k s, List.drop_length]
      rfl
    | succ n ih =>
      intro k i s hi hk
      obtain ⟨k, rfl, _⟩ := succ_of hk
      rw [hS k i s (by omega), drop_getD l [] i (by omega), wrap_id (n := (i : Int) + 1) (by omega) (by omega)]
      simp only [manyFrom]
      rw [← ih k (i + 1) _ (by omega) (by omega)]
      rfl
  have h := key l.length k 0 s (by omega) hk
  simpa using h
theorem spec_LayMany_f (a : List Int) (l : List (List ByteArray)) (hn : l.length ≤ 9223372036854775807) (k : Nat) (hk : l.length < k) : spec_LayMany.f k a l = some (manyFrom l 0) := by
  unfold spec_LayMany.f
  refine loop_many l hn (fun k s i => spec_LayMany.l0 k s i a l) ?_ ?_ 0 k hk
  · intro k i s hi
    simp only [spec_LayMany.l0]
    rw [if_pos (by omega), if_pos (by omega)]
    rfl
  · intro k s
    simp only [spec_LayMany.l0]
    rw [if_neg (by omega)]
theorem impl_LayMany_f (a : List Int) (l : List (List ByteArray)) (hn : l.length ≤ 9223372036854775807) (k : Nat) (hk : l.length < k) : impl_LayMany.f k a l = some (manyFrom l 0) := by
  unfold impl_LayMany.f
  refine loop_many l hn (fun k s i => impl_LayMany.l0 k s l (l.length : Int) i) ?_ ?_ 0 k hk
  · intro k i s hi
    simp only [impl_LayMany.l0]
    rw [if_pos (by omega), if_pos (by omega), if_pos (by omega)]
    rfl
  · intro k s
    simp only [impl_LayMany.l0]
    rw [if_neg (by omega)]
theorem spec_LaySame_f {a : List Int} {b : List (List ByteArray)} (ha : a.length ≤ 17592186043904) (hb : b.length ≤ 5864062014801) (hx : ∀ l ∈ b, l.length < 8796093021953) (c : List Int) (d : List (List ByteArray)) (k : Nat) (hk : 100000000000000 ≤ k) :
    spec_LaySame.f k a b c d = some (laySame a b c d) := by
  obtain ⟨m, rfl⟩ : ∃ m, k = m + 1 := ⟨k - 1, by omega⟩
  unfold spec_LaySame.f laySame
  rw [spec_l5Ints_f a c (by omega) _ (by omega)]
  simp only [Option.bind_some]
  have j (x : Bool) : spec_LaySame.j0 (m + 1) x a b c d = if x = true then some false else spec_LaySame.l0 m 0 a b c d := by
    simp only [spec_LaySame.j0]
  cases all2 intSame a c with
  | false => rw [if_neg (by decide), j]; rfl
  | true =>
    rw [if_pos rfl, j]
    by_cases hl : b.length = d.length
    · have e : ((b.length : Int) != (d.length : Int)) = false := bne_eq_false_iff_eq.mpr (by omega)
      rw [e, if_neg (by decide), Bool.true_and]
      refine loop_all2 (all2 strSame) [] [] b d hl (by omega) (fun k i => spec_LaySame.l0 k i a b c d) 9000000000000 ?_ ?_ ?_ m (by omega)
      · intro k i hK hi hq
        have hlt : (rd_L7 b (i : Int)).length < 8796093021953 := hx _ (getD_mem hi)
        have e := spec_l7Names_f (rd_L7 b (i : Int)) (rd_L7 d (i : Int)) (by omega) k (by omega)
        rw [show all2 strSame (rd_L7 b (i : Int)) (rd_L7 d (i : Int)) = true from hq] at e
        simp only [spec_LaySame.l0]
        rw [if_pos (by omega), if_pos (by omega), if_pos (by omega), e]
        rfl
      · intro k i hK hi hq
        have hlt : (rd_L7 b (i : Int)).length < 8796093021953 := hx _ (getD_mem hi)
        have e := spec_l7Names_f (rd_L7 b (i : Int)) (rd_L7 d (i : Int)) (by omega) k (by omega)
        rw [show all2 strSame (rd_L7 b (i : Int)) (rd_L7 d (i : Int)) = false from hq] at e
        simp only [spec_LaySame.l0]
        rw [if_pos (by omega), if_pos (by omega), if_pos (by omega), e]
        rfl
      · intro k _
        simp only [spec_LaySame.l0]
        rw [if_neg (by omega)]
    · have e : ((b.length : Int) != (d.length : Int)) = true := bne_iff_ne.mpr (by omega)
      rw [e, if_pos rfl, all2_len _ _ _ hl]
      rfl
end Go.Proofs.Ytccknlcokknadaa.L
