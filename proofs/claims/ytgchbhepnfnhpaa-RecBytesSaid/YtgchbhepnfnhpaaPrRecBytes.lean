/- What the law RecBytes comes to, as a statement about numbers and lists; and how its arguments' data are opened. -/
import Derived.Test.YtgchbhepnfnhpaaQRecx6
import Derived.Test.YtgchbhepnfnhpaaTyQRec
import Derived.Test.YtgchbhepnfnhpaaOpens
import Derived.KernelRfl
namespace Go.Proofs.Ytgchbhepnfnhpaa.QRec
open Go.RowKit Go.Proofs.Ytgchbhepnfnhpaa Go.Proofs.YtgchbhepnfnhpaaW.PrintWords Go.Proofs.YtgchbhepnfnhpaaW.PrintLast Go.Proofs.YtgchbhepnfnhpaaW.PrintMore
set_option linter.unusedVariables false
/-- What is left of the law: about numbers and lists alone. -/
def RecBytesPure : Prop := ∀ (a0 : List (S32)) (a1 : ByteArray), (a0.length ≤ maxLen ∧ a0.length * 32 ≤ 140737488351232 ∧ ∀ y32 ∈ a0, Good32 y32) → (a1.size ≤ 140737488351232) → ∃ k, thresherlaw4_RecBytes.f k a0 a1 = some true
end Go.Proofs.Ytgchbhepnfnhpaa.QRec
