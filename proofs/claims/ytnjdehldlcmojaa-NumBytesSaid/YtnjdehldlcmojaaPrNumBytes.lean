/- What the law NumBytes comes to, as a statement about numbers and lists; and how its arguments' data are opened. -/
import Derived.Test.YtnjdehldlcmojaaQNumBytesx
import Derived.Test.YtnjdehldlcmojaaOpens
import Derived.KernelRfl
namespace Go.Proofs.Ytnjdehldlcmojaa.QNumBytes
open Go.RowKit Go.Proofs.Ytnjdehldlcmojaa Go.Proofs.YtnjdehldlcmojaaW.PrintWords Go.Proofs.YtnjdehldlcmojaaW.PrintLast Go.Proofs.YtnjdehldlcmojaaW.PrintMore
set_option linter.unusedVariables false
def Good25 (x : S25) : Prop := ((Lit.int .i64 x.f0).wf = true) ∧ ((Lit.int .i64 x.f1).wf = true) ∧ ((Lit.int .i64 x.f2).wf = true) ∧ (x.f3.size ≤ 140737488351232)
theorem open25 : Opens.Opens Try.prog 25 k25 Good25 := Opens.struct (fun x : S25 => (x.f0, x.f1, x.f2, x.f3)) (fun y => ⟨y.1, y.2.1, y.2.2.1, y.2.2.2⟩) (fun _ => rfl) Good25 (fun y h => h) Try.underlying25 (by kernel_rfl) (Opens.cons rfl (by kernel_rfl) (Opens.int Try.underlying2) (Opens.cons rfl (by kernel_rfl) (Opens.int Try.underlying2) (Opens.cons rfl (by kernel_rfl) (Opens.int Try.underlying3) (Opens.last rfl (by kernel_rfl) (Opens.string Try.underlying9)))))
/-- What is left of the law: about numbers and lists alone. -/
def NumBytesPure : Prop := ∀ (a0 : List (S25)), (a0.length ≤ maxLen ∧ a0.length * 40 ≤ 140737488351232 ∧ ∀ y25 ∈ a0, Good25 y25) → ∃ k, thresherlaw1_NumBytes.f k a0 = some true
end Go.Proofs.Ytnjdehldlcmojaa.QNumBytes
