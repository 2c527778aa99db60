-- made by printx.py (own driver over the kit's print); Lean checks it
import Derived.Test.YtccknlcokknadaaPx0
import Derived.Test.YtccknlcokknadaaPxslicesIndexFuncsimplFunimplFun
import Derived.Test.YtccknlcokknadaaLSeq
namespace Go.Proofs.Ytccknlcokknadaa.P
open Go.RowKit Go.Proofs.YtccknlcokknadaaW.PrintWords Go.Proofs.YtccknlcokknadaaW.PrintLast Go.Proofs.YtccknlcokknadaaW.PrintMore
attribute [local go_sem] max2_int min2_int max_two min_two max_three min_three max_four min_four   -- for this text's walks alone
set_option linter.unusedVariables false
set_option linter.unusedSimpArgs false

/-! ### impl_find: function 89 -/
-- IMPORT Derived.Test.YtccknlcokknadaaLSeq
open Go.Proofs.Ytccknlcokknadaa.L in
/-- The place of the first function of that name, -1 for none. -/
def impl_find.f (l0 : List S29) (a1 : ByteArray) : Option Int := some (idxFrom (fun x => x.f0.toList == a1.toList) l0 0)
set_option maxHeartbeats 1000000 in
theorem find1_calls (s : ByteArray) (b : Bool) (A : Option Addr) (n c : Nat) (B : Nat) (name : ByteArray) (w : World) (hB : w.cell? ⟨B, 0, none⟩ = some (.string name)) (hlt : B < w.heap.size) :
    Calls Try.prog 107 #[.agg #[.string s, .bool b, .slice A n c], .pointer (some ⟨B, 0, none⟩)] w fun e w' => e = .returned (.bool (s.toList == name.toList)) ∧ Below w.heap.size w w' := by
  go_enter Try.func107, Try.ntmps107
  go_wp2
  go_ret
  exact ⟨rfl, (Below.refl _ _).alloc (Nat.le_refl _) _⟩
open Go.Proofs.Ytccknlcokknadaa.L in
set_option maxHeartbeats 2000000 in
theorem impl_find.calls (A0 : Option Addr) (c0 : Nat) (l0 : List S29) (a1 : ByteArray) (r : Int) (w : World) (hr0 : Kd.C k29 w A0 l0.length l0) (hc0 : l0.length ≤ c0) (h : impl_find.f l0 a1 = some r) :
    Calls Try.prog 89 #[.slice A0 l0.length c0, .string a1] w fun e w' => e = .returned (.int .i64 r) ∧ Below w.heap.size w w' := by
  have hcell : ∀ W : World, Below (w.alloc (.cells #[.string a1] 9)).heap.size (w.alloc (.cells #[.string a1] 9)) W → W.cell? ⟨w.heap.size, 0, none⟩ = some (.string a1) := fun W hb =>
    (hb.cell (p := ⟨w.heap.size, 0, none⟩) (by simp)).trans ((blk_cell (blk_new w _) 0).trans rfl)
  have HC := Aside0.mk (idxFun_calls A0 c0 l0 #[.pointer (some ⟨w.heap.size, 0, none⟩)] (fun x => x.f0.toList == a1.toList) (w.alloc (.cells #[.string a1] 9)) (Kd.C_below hr0 (below_alloc (Below.refl _ _) _)) hc0
    (fun W x A2 c2 hb _ _ _ => find1_calls x.f0 x.f1 A2 x.f2.length c2 w.heap.size a1 W (hcell W hb) (Nat.lt_of_lt_of_le (by simp) hb.size)))
  clear hr0 hcell
  obtain rfl := Option.some.inj h
  clear h
  go_enter Try.func89, Try.ntmps89
  go_wp2_with (go_at_call 106; refine HC.out.mono ?_; rintro e w' ⟨rfl, hb'⟩)
  go_ret
  exact ⟨rfl, below_then (below_alloc (Below.refl _ _) _) (below_size (below_alloc (Below.refl _ _) _)) hb'⟩


end Go.Proofs.Ytccknlcokknadaa.P
