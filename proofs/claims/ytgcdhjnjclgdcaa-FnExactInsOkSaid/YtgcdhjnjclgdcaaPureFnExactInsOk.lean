/- The program's InsOk returns what the reference's returns, for all arguments. -/
import Derived.Test.YtgcdhjnjclgdcaaPutsFnExactInsOk
import Derived.Test.YtgcdhjnjclgdcaaLIns
namespace Go.Proofs.Ytgcdhjnjclgdcaa.Pure
open Go.RowKit Go.Proofs.Ytgcdhjnjclgdcaa.P Go.Proofs.Ytgcdhjnjclgdcaa.L Go.Proofs.YtgcdhjnjclgdcaaW.PrintWords
theorem FnExactInsOk : laws_FnExactInsOk.Pure := by
  intro x ⟨_, _, hs⟩
  refine ⟨x.f2.size + 3, ?_⟩
  unfold laws_FnExactInsOk.f
  rw [laws_szIns_f _ _ _ _ hs (by decide) (by decide)]
  simp only [Option.bind_some]
  by_cases h : (1048576 : Int) < x.f2.size
  · rw [if_pos h]; rfl
  · rw [if_neg h, if_neg (by omega)]
    unfold laws_toIns.f
    simp only [Option.bind_some]
    rw [spec_InsOk_f _ _ _ hs _ (by omega), impl_InsOk_f _ _ _ hs _ (by omega)]
    simp
end Go.Proofs.Ytgcdhjnjclgdcaa.Pure
