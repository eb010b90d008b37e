/- What is known of the data of each type that comes in: bounds; and how they are opened. -/
import Derived.Test.YtgchbhepnfnhpaaQRecx0
import Derived.Test.YtgchbhepnfnhpaaOpens
import Derived.KernelRfl
namespace Go.Proofs.Ytgchbhepnfnhpaa.QRec
open Go.RowKit Go.Proofs.Ytgchbhepnfnhpaa Go.Proofs.YtgchbhepnfnhpaaW.PrintWords Go.Proofs.YtgchbhepnfnhpaaW.PrintLast Go.Proofs.YtgchbhepnfnhpaaW.PrintMore
set_option linter.unusedVariables false
def Good30 (x : S30) : Prop := ((Lit.int .i64 x.f0).wf = true) ∧ (x.f1.size ≤ 140737488351232)
theorem open30 : Opens.Opens Try.prog 30 k30 Good30 := Opens.struct (fun x : S30 => (x.f0, x.f1)) (fun y => ⟨y.1, y.2⟩) (fun _ => rfl) Good30 (fun y h => h) Try.underlying30 (by kernel_rfl) (Opens.cons rfl (by kernel_rfl) (Opens.int Try.underlying2) (Opens.last rfl (by kernel_rfl) (Opens.string Try.underlying9)))
def Good32 (x : S32) : Prop := (Good30 x.f0) ∧ ((Lit.int .i64 x.f1).wf = true)
theorem open32 : Opens.Opens Try.prog 32 k32 Good32 := Opens.struct (fun x : S32 => (x.f0, x.f1)) (fun y => ⟨y.1, y.2⟩) (fun _ => rfl) Good32 (fun y h => h) Try.underlying32 (by kernel_rfl) (Opens.cons rfl (by kernel_rfl) open30 (Opens.last rfl (by kernel_rfl) (Opens.int Try.underlying2)))
end Go.Proofs.Ytgchbhepnfnhpaa.QRec
