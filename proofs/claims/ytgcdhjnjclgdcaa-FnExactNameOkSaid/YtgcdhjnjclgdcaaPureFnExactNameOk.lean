/- The program's NameOk returns what the reference's returns, for every text. -/
import Derived.Test.YtgcdhjnjclgdcaaPxlawsFnExactNameOk
import Derived.Test.YtgcdhjnjclgdcaaLIns
namespace Go.Proofs.Ytgcdhjnjclgdcaa.Pure
open Go.Proofs.Ytgcdhjnjclgdcaa.P Go.Proofs.Ytgcdhjnjclgdcaa.L
theorem FnExactNameOk : laws_FnExactNameOk.Pure := by
  intro s hs
  refine ⟨s.size + 1, ?_⟩
  unfold laws_FnExactNameOk.f
  by_cases h : (s.size : Int) > 1048576
  · rw [if_pos h]
  · rw [if_neg h, spec_NameOk_f s hs _ (by omega), impl_NameOk_f s hs _ (by omega)]
    simp
end Go.Proofs.Ytgcdhjnjclgdcaa.Pure
