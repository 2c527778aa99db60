/- The program's InsLast returns what the reference's returns, for all arguments. -/
import Derived.Test.YtgcdhjnjclgdcaaPutsFnExactInsLast
import Derived.Test.YtgcdhjnjclgdcaaLIns
namespace Go.Proofs.Ytgcdhjnjclgdcaa.Pure
open Go.RowKit Go.Proofs.Ytgcdhjnjclgdcaa.P Go.Proofs.Ytgcdhjnjclgdcaa.L Go.Proofs.YtgcdhjnjclgdcaaW.PrintWords
theorem FnExactInsLast : laws_FnExactInsLast.Pure := by
  intro x ⟨_, _, hs⟩
  unfold laws_FnExactInsLast.f
  rw [laws_szIns_f _ _ _ _ hs (by decide) (by decide)]
  simp only [Option.bind_some]
  by_cases h : (1048576 : Int) < x.f2.size
  · rw [if_pos h]; rfl
  · rw [if_neg h, if_neg (by omega)]
    unfold laws_toIns.f
    simp only [Option.bind_some, spec_InsLast_f, impl_InsLast_f]
    simp
end Go.Proofs.Ytgcdhjnjclgdcaa.Pure
