/- The program's InsSum returns what the reference's returns, for all arguments. -/
import Derived.Test.YtgcdhjnjclgdcaaPxlawsFnExactInsSum
import Derived.Test.YtgcdhjnjclgdcaaLIns
namespace Go.Proofs.Ytgcdhjnjclgdcaa.Pure
open Go.Proofs.Ytgcdhjnjclgdcaa.P Go.Proofs.Ytgcdhjnjclgdcaa.L
theorem FnExactInsSum : laws_FnExactInsSum.Pure := by
  intro a b _ _
  unfold laws_FnExactInsSum.f
  rw [spec_InsSum_f, impl_InsSum_f]
  simp
end Go.Proofs.Ytgcdhjnjclgdcaa.Pure
