-- made by printx.py (own driver over the kit's print); Lean checks it
import Derived.Test.YtccknlcokknadaaPx0
import Derived.Test.YtccknlcokknadaaPximplUnitSame
import Derived.Test.YtccknlcokknadaaPxslicesEqualFuncssimplFunssimplFunsimplFunsimplFun
import Derived.Test.YtccknlcokknadaaLSameF
namespace Go.Proofs.Ytccknlcokknadaa.P
open Go.RowKit Go.Proofs.YtccknlcokknadaaW.PrintWords Go.Proofs.YtccknlcokknadaaW.PrintLast Go.Proofs.YtccknlcokknadaaW.PrintMore
attribute [local go_sem] max2_int min2_int max_two min_two max_three min_three max_four min_four   -- for this text's walks alone
set_option linter.unusedVariables false
set_option linter.unusedSimpArgs false

/-! ### impl_PickSame: function 47 -/
-- IMPORT Derived.Test.YtccknlcokknadaaLSameF
open Go.Proofs.Ytccknlcokknadaa.L in
/-- Are units the same? -/
def impl_PickSame.f (l0 : List (List S29)) (l1 : List (List S29)) : Option Bool := some (all2 unitSame l0 l1)
open Go.Proofs.Ytccknlcokknadaa.L in
set_option maxHeartbeats 2000000 in
theorem impl_PickSame.calls (A0 : Option Addr) (c0 : Nat) (l0 : List (List S29)) (A1 : Option Addr) (c1 : Nat) (l1 : List (List S29)) (r : Bool) (w : World) (hr0 : Kd.C (Kd.slice 29 k29) w A0 l0.length l0) (hc0 : l0.length ≤ c0) (hr1 : Kd.C (Kd.slice 29 k29) w A1 l1.length l1) (hc1 : l1.length ≤ c1) (h : impl_PickSame.f l0 l1 = some r) :
    Calls Try.prog 47 #[.slice A0 l0.length c0, .slice A1 l1.length c1] w fun e w' => e = .returned (.bool r) ∧ Below w.heap.size w w' := by
  have HC := Aside0.mk (eqfFuns_calls A0 c0 l0 A1 c1 l1 unitSame w hr0 hc0 hr1 hc1
    (fun W x A2 c2 y B2 d2 hb _ _ hl hi gl gi => impl_UnitSame.calls A2 c2 x B2 d2 y (unitSame x y) W hi hl gi gl rfl))
  clear hr0 hr1
  obtain rfl := Option.some.inj h
  clear h
  go_enter Try.func47, Try.ntmps47
  go_wp2_with (go_at_call 90; refine HC.out.mono ?_; rintro e w' ⟨rfl, hb'⟩)
  go_ret
  exact ⟨rfl, hb'⟩


end Go.Proofs.Ytccknlcokknadaa.P
