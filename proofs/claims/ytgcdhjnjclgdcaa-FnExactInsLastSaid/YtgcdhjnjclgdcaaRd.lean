import Derived.Test.YtgcdhjnjclgdcaaLRead
namespace Go.Proofs.Ytgcdhjnjclgdcaa.P
open Go.RowKit Go.Proofs.YtgcdhjnjclgdcaaW.PrintWords Go.Proofs.Ytgcdhjnjclgdcaa.L
set_option linter.unusedVariables false
def Ok27 (x : S27) : Prop := (Lit.int .i64 x.f0).wf = true ∧ (Lit.int .i64 x.f1).wf = true ∧ x.f2.size ≤ 140737488351232
theorem rd27 : Rd Try.prog k27 27 Ok27 := by
  have h := Rd.struct (P := Try.prog) (t := 27) (f := (fun x : S27 => (x.f0, x.f1, x.f2))) (g := fun y => (⟨y.1, y.2.1, y.2.2⟩ : S27)) Try.underlying27 (by kernel_rfl) (fun _ => rfl) (FRd.cons rfl (by kernel_rfl) (Rd.int Try.underlying3) (FRd.cons rfl (by kernel_rfl) (Rd.int Try.underlying3) (FRd.one rfl (by kernel_rfl) (Rd.string Try.underlying9))))
  exact h
end Go.Proofs.Ytgcdhjnjclgdcaa.P
