import Derived.Test.YtccknlcokknadaaLRead
namespace Go.Proofs.Ytccknlcokknadaa.P
open Go.RowKit Go.Proofs.YtccknlcokknadaaW.PrintWords Go.Proofs.Ytccknlcokknadaa.L
set_option linter.unusedVariables false
def Ok117 (x : S117) : Prop := (Lit.int .i64 x.f0).wf = true ∧ (Lit.int .i64 x.f1).wf = true ∧ x.f2.size ≤ 140737488351232
theorem rd117 : Rd Try.prog k117 117 Ok117 := by
  have h := Rd.struct (P := Try.prog) (t := 117) (f := (fun x : S117 => (x.f0, x.f1, x.f2))) (g := fun y => (⟨y.1, y.2.1, y.2.2⟩ : S117)) Try.underlying117 (by kernel_rfl) (fun _ => rfl) (FRd.cons rfl (by kernel_rfl) (Rd.int Try.underlying3) (FRd.cons rfl (by kernel_rfl) (Rd.int Try.underlying3) (FRd.one rfl (by kernel_rfl) (Rd.string Try.underlying9))))
  exact h
def Ok24 (x : S24) : Prop := x.f0.size ≤ 140737488351232 ∧ True ∧ (x.f2.length * 32 ≤ 140737488351232 ∧ ∀ y1 ∈ x.f2, Ok117 y1)
theorem rd24 : Rd Try.prog k24 24 Ok24 := by
  have h := Rd.struct (P := Try.prog) (t := 24) (f := (fun x : S24 => (x.f0, x.f1, x.f2))) (g := fun y => (⟨y.1, y.2.1, y.2.2⟩ : S24)) Try.underlying24 (by kernel_rfl) (fun _ => rfl) (FRd.cons rfl (by kernel_rfl) (Rd.string Try.underlying9) (FRd.cons rfl (by kernel_rfl) (Rd.bool Try.underlying4) (FRd.one rfl (by kernel_rfl) (Rd.slice (P := Try.prog) (t := 22) (d := k117) (B := 32) Try.underlying22 (by kernel_rfl) (by kernel_rfl) rd117))))
  exact h
def Ok35 (x : S35) : Prop := (x.f0.length * 8 ≤ 140737488351232 ∧ ∀ y1 ∈ x.f0, (Lit.int .i64 y1).wf = true) ∧ (x.f1.length * 24 ≤ 140737488351232 ∧ ∀ y1 ∈ x.f1, (y1.length * 16 ≤ 140737488351232 ∧ ∀ y2 ∈ y1, y2.size ≤ 140737488351232))
theorem rd35 : Rd Try.prog k35 35 Ok35 := by
  have h := Rd.struct (P := Try.prog) (t := 35) (f := (fun x : S35 => (x.f0, x.f1))) (g := fun y => (⟨y.1, y.2⟩ : S35)) Try.underlying35 (by kernel_rfl) (fun _ => rfl) (FRd.cons rfl (by kernel_rfl) (Rd.slice (P := Try.prog) (t := 32) (d := (Kd.int .i64)) (B := 8) Try.underlying32 (by kernel_rfl) (by kernel_rfl) (Rd.int Try.underlying3)) (FRd.one rfl (by kernel_rfl) (Rd.slice (P := Try.prog) (t := 33) (d := (Kd.slice 9 Kd.string)) (B := 24) Try.underlying33 (by kernel_rfl) (by kernel_rfl) (Rd.slice (P := Try.prog) (t := 83) (d := Kd.string) (B := 16) Try.underlying83 (by kernel_rfl) (by kernel_rfl) (Rd.string Try.underlying9)))))
  exact h
def Ok43 (x : S43) : Prop := (Lit.int .i64 x.f0).wf = true ∧ (Lit.int .i64 x.f1).wf = true
theorem rd43 : Rd Try.prog k43 43 Ok43 := by
  have h := Rd.struct (P := Try.prog) (t := 43) (f := (fun x : S43 => (x.f0, x.f1))) (g := fun y => (⟨y.1, y.2⟩ : S43)) Try.underlying43 (by kernel_rfl) (fun _ => rfl) (FRd.cons rfl (by kernel_rfl) (Rd.int Try.underlying3) (FRd.one rfl (by kernel_rfl) (Rd.int Try.underlying3)))
  exact h
def Ok46 (x : S46) : Prop := Ok43 x.f0 ∧ (Lit.int .i64 x.f1).wf = true ∧ (x.f2.length * 16 ≤ 140737488351232 ∧ ∀ y1 ∈ x.f2, Ok43 y1) ∧ (x.f3.length * 8 ≤ 140737488351232 ∧ ∀ y1 ∈ x.f3, (Lit.int .i64 y1).wf = true) ∧ (Lit.int .i64 x.f4).wf = true
theorem rd46 : Rd Try.prog k46 46 Ok46 := by
  have h := Rd.struct (P := Try.prog) (t := 46) (f := (fun x : S46 => (x.f0, x.f1, x.f2, x.f3, x.f4))) (g := fun y => (⟨y.1, y.2.1, y.2.2.1, y.2.2.2.1, y.2.2.2.2⟩ : S46)) Try.underlying46 (by kernel_rfl) (fun _ => rfl) (FRd.cons rfl (by kernel_rfl) rd43 (FRd.cons rfl (by kernel_rfl) (Rd.int Try.underlying3) (FRd.cons rfl (by kernel_rfl) (Rd.slice (P := Try.prog) (t := 44) (d := k43) (B := 16) Try.underlying44 (by kernel_rfl) (by kernel_rfl) rd43) (FRd.cons rfl (by kernel_rfl) (Rd.slice (P := Try.prog) (t := 32) (d := (Kd.int .i64)) (B := 8) Try.underlying32 (by kernel_rfl) (by kernel_rfl) (Rd.int Try.underlying3)) (FRd.one rfl (by kernel_rfl) (Rd.int Try.underlying3))))))
  exact h
end Go.Proofs.Ytccknlcokknadaa.P
