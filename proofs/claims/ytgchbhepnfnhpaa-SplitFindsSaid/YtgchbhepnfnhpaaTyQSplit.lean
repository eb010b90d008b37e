/- What is known of the data of each type that comes in: bounds; and how they are opened. -/
import Derived.Test.YtgchbhepnfnhpaaQSplitx0
import Derived.Test.YtgchbhepnfnhpaaOpens
import Derived.KernelRfl
namespace Go.Proofs.Ytgchbhepnfnhpaa.QSplit
open Go.RowKit Go.Proofs.Ytgchbhepnfnhpaa Go.Proofs.YtgchbhepnfnhpaaW.PrintWords Go.Proofs.YtgchbhepnfnhpaaW.PrintLast Go.Proofs.YtgchbhepnfnhpaaW.PrintMore
set_option linter.unusedVariables false
def Good61 (x : S61) : Prop := ((Lit.int .i64 x.f0).wf = true) ∧ (x.f1.size ≤ 140737488351232) ∧ (x.f2.length ≤ maxLen ∧ x.f2.length * 8 ≤ 140737488351232 ∧ ∀ y3 ∈ x.f2, (Lit.int .i64 y3).wf = true)
theorem open61 : Opens.Opens Try.prog 61 k61 Good61 := Opens.struct (fun x : S61 => (x.f0, x.f1, x.f2)) (fun y => ⟨y.1, y.2.1, y.2.2⟩) (fun _ => rfl) Good61 (by intro y h; exact h) Try.underlying61 (by kernel_rfl) (Opens.cons rfl (by kernel_rfl) (Opens.int Try.underlying3) (Opens.cons rfl (by kernel_rfl) (Opens.string Try.underlying9) (Opens.last rfl (by kernel_rfl) (Opens.slice Try.underlying55 (by kernel_rfl) (B := 8) (by kernel_rfl) (Opens.int Try.underlying3)))))
end Go.Proofs.Ytgchbhepnfnhpaa.QSplit
