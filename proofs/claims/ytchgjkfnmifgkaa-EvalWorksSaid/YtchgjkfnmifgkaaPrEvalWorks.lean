/- What the law EvalWorks comes to, as a statement about numbers and lists; and how its arguments' data are opened. -/
import Derived.Test.YtchgjkfnmifgkaaQEx15
import Derived.Test.YtchgjkfnmifgkaaTyQE
import Derived.Test.YtchgjkfnmifgkaaOpensRec
import Derived.KernelRfl
namespace Go.Proofs.Ytchgjkfnmifgkaa.QE
open Go.RowKit Go.Proofs.Ytchgjkfnmifgkaa Go.Proofs.YtchgjkfnmifgkaaW.PrintWords Go.Proofs.YtchgjkfnmifgkaaW.PrintLast Go.Proofs.YtchgjkfnmifgkaaW.PrintMore
set_option linter.unusedVariables false
/-- What is left of the law: about numbers and lists alone. -/
def EvalWorksPure : Prop := ∀ (a0 : List (ByteArray)) (a1 : List (S34)) (a2 : List (S50)) (a3 : List (Int)), (a0.length ≤ maxLen ∧ a0.length * 16 ≤ 140737488351232 ∧ ∀ y9 ∈ a0, y9.size ≤ 140737488351232) → (a1.length ≤ maxLen ∧ a1.length * 40 ≤ 140737488351232 ∧ ∀ y34 ∈ a1, Good34 y34) → (a2.length ≤ maxLen ∧ a2.length * 32 ≤ 140737488351232 ∧ ∀ y50 ∈ a2, Good50 y50) → (a3.length ≤ maxLen ∧ a3.length * 8 ≤ 140737488351232 ∧ ∀ y3 ∈ a3, (Lit.int .i64 y3).wf = true) → ∃ k, thresherlaw8_EvalWorks.f k a0 a1 a2 a3 = some true
end Go.Proofs.Ytchgjkfnmifgkaa.QE
