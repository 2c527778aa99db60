-- made by printx.py (own driver over the kit's print); Lean checks it
import Derived.Test.YtccknlcokknadaaPx0
import Derived.Test.YtccknlcokknadaaPxslicesIndexFuncsimplInsimplIns
namespace Go.Proofs.Ytccknlcokknadaa.P
open Go.RowKit Go.Proofs.YtccknlcokknadaaW.PrintWords Go.Proofs.YtccknlcokknadaaW.PrintLast Go.Proofs.YtccknlcokknadaaW.PrintMore
attribute [local go_sem] max2_int min2_int max_two min_two max_three min_three max_four min_four   -- for this text's walks alone
set_option linter.unusedVariables false
set_option linter.unusedSimpArgs false

/-! ### slices_ContainsFunc_simpl_Ins_impl_Ins: function 76 -/
open Go.Proofs.Ytccknlcokknadaa.L in
set_option maxHeartbeats 4000000 in
set_option maxRecDepth 100000 in
theorem anyIns_calls (A0 : Option Addr) (c0 : Nat) (l0 : List S88) (lb : Array Value) (p : S88 → Bool) (w : World) (hr0 : Kd.C k88 w A0 l0.length l0) (hc0 : l0.length ≤ c0)
    (hp : ∀ (W : World) (x : S88) , Below w.heap.size w W → x ∈ l0 → Calls Try.prog 77 ((#[.agg #[.int .i64 x.f0, .int .i64 x.f1, .string x.f2]] : Array Value) ++ lb) W fun e w' => e = .returned (.bool (p x)) ∧ Below W.heap.size W w') :
    Calls Try.prog 76 #[.slice A0 l0.length c0, .func (.func 77) #[] lb] w fun e w' => e = .returned (.bool (l0.any p)) ∧ Below w.heap.size w w' := by
  rw [← idxFrom_any p l0 0 (by decide)]
  have HC := Aside0.mk (idxIns_calls A0 c0 l0 lb p w hr0 hc0 hp)
  clear hr0 hp
  go_enter Try.func76, Try.ntmps76
  go_wp2_with (go_at_call 99; refine HC.out.mono ?_; rintro e w' ⟨rfl, hb'⟩)
  go_ret
  exact ⟨rfl, hb'⟩


end Go.Proofs.Ytccknlcokknadaa.P
