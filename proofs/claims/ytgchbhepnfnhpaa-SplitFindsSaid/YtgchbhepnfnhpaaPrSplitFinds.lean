/- What the law SplitFinds comes to, as a statement about numbers and lists; and how its arguments' data are opened. -/
import Derived.Test.YtgchbhepnfnhpaaQFinds
import Derived.Test.YtgchbhepnfnhpaaTyQSplit
import Derived.Test.YtgchbhepnfnhpaaOpens
import Derived.KernelRfl
namespace Go.Proofs.Ytgchbhepnfnhpaa.QSplit
open Go.RowKit Go.Proofs.Ytgchbhepnfnhpaa Go.Proofs.YtgchbhepnfnhpaaW.PrintWords Go.Proofs.YtgchbhepnfnhpaaW.PrintLast Go.Proofs.YtgchbhepnfnhpaaW.PrintMore
set_option linter.unusedVariables false
/-- What is left of the law: about numbers and lists alone. -/
def SplitFindsPure : Prop := ∀ (a0 : Int) (a1 : List (S61)) (a2 : Int) (a3 : Int) (a4 : List (Int)), ((Lit.int .i64 a0).wf = true) → (a1.length ≤ maxLen ∧ a1.length * 48 ≤ 140737488351232 ∧ ∀ y61 ∈ a1, Good61 y61) → ((Lit.int .i64 a2).wf = true) → ((Lit.int .i64 a3).wf = true) → (a4.length ≤ maxLen ∧ a4.length * 8 ≤ 140737488351232 ∧ ∀ y3 ∈ a4, (Lit.int .i64 y3).wf = true) → ∃ k, thresherlaw12_SplitFinds.f k a0 a1 a2 a3 a4 = some true
end Go.Proofs.Ytgchbhepnfnhpaa.QSplit
