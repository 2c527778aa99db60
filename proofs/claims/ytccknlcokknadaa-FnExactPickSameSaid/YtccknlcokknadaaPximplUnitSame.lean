-- made by printx.py (own driver over the kit's print); Lean checks it
import Derived.Test.YtccknlcokknadaaPx0
import Derived.Test.YtccknlcokknadaaPxspecl2Body
import Derived.Test.YtccknlcokknadaaPxslicesEqualFuncsimplFunsimplFunimplFunimplFun
import Derived.Test.YtccknlcokknadaaLSameF
namespace Go.Proofs.Ytccknlcokknadaa.P
open Go.RowKit Go.Proofs.YtccknlcokknadaaW.PrintWords Go.Proofs.YtccknlcokknadaaW.PrintLast Go.Proofs.YtccknlcokknadaaW.PrintMore
attribute [local go_sem] max2_int min2_int max_two min_two max_three min_three max_four min_four   -- for this text's walks alone
set_option linter.unusedVariables false
set_option linter.unusedSimpArgs false

/-! ### impl_UnitSame: function 35 -/
-- IMPORT Derived.Test.YtccknlcokknadaaLSameF
open Go.Proofs.Ytccknlcokknadaa.L in
/-- Are two units the same? (Where a text is too long for any argument: not told.) -/
def impl_UnitSame.f (l0 : List S29) (l1 : List S29) : Option Bool := some (unitSame l0 l1)
open Go.Proofs.Ytccknlcokknadaa.L in
set_option maxHeartbeats 2000000 in
theorem impl_UnitSame.calls (A0 : Option Addr) (c0 : Nat) (l0 : List S29) (A1 : Option Addr) (c1 : Nat) (l1 : List S29) (r : Bool) (w : World) (hr0 : Kd.C k29 w A0 l0.length l0) (hc0 : l0.length ≤ c0) (hr1 : Kd.C k29 w A1 l1.length l1) (hc1 : l1.length ≤ c1) (h : impl_UnitSame.f l0 l1 = some r) :
    Calls Try.prog 35 #[.slice A0 l0.length c0, .slice A1 l1.length c1] w fun e w' => e = .returned (.bool r) ∧ Below w.heap.size w w' := by
  have HC := Aside0.mk (eqfFun_calls A0 c0 l0 A1 c1 l1 funSame w hr0 hc0 hr1 hc1
    (fun W x A2 c2 y B2 d2 hb _ _ hl hi gl gi => impl_FunSame.calls (x.f2.length + 1) x.f0 x.f1 A2 c2 x.f2 y.f0 y.f1 B2 d2 y.f2 (funSame x y) W hi hl gi gl (impl_FunSame_f x y hi.2.1 _ (Nat.lt_succ_self _))))
  clear hr0 hr1
  obtain rfl := Option.some.inj h
  clear h
  go_enter Try.func35, Try.ntmps35
  go_wp2_with (go_at_call 80; refine HC.out.mono ?_; rintro e w' ⟨rfl, hb'⟩)
  go_ret
  exact ⟨rfl, hb'⟩


end Go.Proofs.Ytccknlcokknadaa.P
