/- A block is done so often as the number says: the runs asked for are closed; they are reckoned by the kernel. -/
import Derived.Test.YtchgjkfnmifgkaaPrEvalTurns
namespace Go.Proofs.Ytchgjkfnmifgkaa.QE
open Go.RowKit Go.Proofs.YtchgjkfnmifgkaaW.PrintWords Go.Proofs.YtchgjkfnmifgkaaW.PrintLast Go.Proofs.YtchgjkfnmifgkaaW.PrintMore
set_option linter.unusedVariables false
set_option linter.unusedSimpArgs false

theorem turns_same (a0 : List ByteArray) (a1 : List S34) (a2 : List S50) (a3 : List Int) : ∀ k x, thresherlaw8_EvalTurns.l0 k x a0 a1 a2 a3 = thresherlaw8_EvalTurns.l0 k x [] [] [] []
  | 0, _ => by simp only [thresherlaw8_EvalTurns.l0]
  | k + 1, x => by
    rw [thresherlaw8_EvalTurns.l0, thresherlaw8_EvalTurns.l0]
    have h1 : (a2.length : Int) ≥ 0 := Int.natCast_nonneg _
    have h2 : ((([] : List S50).length : Nat) : Int) ≥ 0 := Int.natCast_nonneg _
    simp only [turns_same a0 a1 a2 a3 k, if_pos h1, if_pos h2]

set_option maxRecDepth 1000000 in
theorem turns_run : thresherlaw8_EvalTurns.l0 600 (-2) [] [] [] [] = some true := by decide +kernel
end Go.Proofs.Ytchgjkfnmifgkaa.QE
namespace Go.Proofs.Ytchgjkfnmifgkaa.QE.Pure
theorem EvalTurns : EvalTurnsPure := by
  intro a0 a1 a2 a3 _ _ _ _
  exact ⟨600, (turns_same a0 a1 a2 a3 600 (-2)).trans turns_run⟩
end Go.Proofs.Ytchgjkfnmifgkaa.QE.Pure
