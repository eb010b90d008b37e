/- What a program of two numbers and these words makes of any record is the page's: in plain Lean. -/
import Derived.Test.YtchgjkfnmifgkaaTwoLaw
import Derived.Test.YtchgjkfnmifgkaaPrEvalShifts
namespace Go.Proofs.Ytchgjkfnmifgkaa.QE.Pure
open Go.RowKit Go.Proofs.YtchgjkfnmifgkaaW.PrintWords Go.Proofs.YtchgjkfnmifgkaaW.PrintLast Go.Proofs.YtchgjkfnmifgkaaW.PrintMore Go.Proofs.Ytchgjkfnmifgkaa.QE
set_option linter.unusedVariables false

set_option maxRecDepth 100000 in
theorem EvalShifts : EvalShiftsPure := by
  intro S L R F hS hL hR hF
  have hl : L.length < 140737488355328 := by have := hL.2.1; omega
  have hs : S.length < 140737488355328 := by have := hS.2.1; omega
  have hr : R.length < 140737488355328 := by have := hR.2.1; omega
  refine Ev.rounds (g := fun k => thresherlaw8_EvalShifts.f k S L R F) (Ev.congr (f := fun k => (thresherlaw8_two.f k S L R F [(⟨#[60, 60]⟩ : ByteArray), (⟨#[62, 62]⟩ : ByteArray), (⟨#[62, 62, 62]⟩ : ByteArray)]).bind fun t => some t) (fun k => rfl) (Ev.bind (two_ev S L R F _ (by simp) (fun i hi => ?_) hR.2.2 (Tr.of_good hL.2.2) hl hs hr) (Ev.now _)))
  have hi : i < 3 := hi
  rcases (show i = 0 ∨ i = 1 ∨ i = 2 by omega) with rfl | rfl | rfl
  · exact ⟨13, WordOk.of (w := ⟨#[60, 60]⟩) (by decide) (by kernel_rfl) (by kernel_rfl)⟩
  · exact ⟨14, WordOk.of (w := ⟨#[62, 62]⟩) (by decide) (by kernel_rfl) (by kernel_rfl)⟩
  · exact ⟨15, WordOk.of (w := ⟨#[62, 62, 62]⟩) (by decide) (by kernel_rfl) (by kernel_rfl)⟩
end Go.Proofs.Ytchgjkfnmifgkaa.QE.Pure
