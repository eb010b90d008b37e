/- What a program of two numbers and these words makes of any record is the page's: in plain Lean. -/
import Derived.Test.YtchgjkfnmifgkaaTwoLaw
import Derived.Test.YtchgjkfnmifgkaaPrEvalAsks
namespace Go.Proofs.Ytchgjkfnmifgkaa.QE.Pure
open Go.RowKit Go.Proofs.YtchgjkfnmifgkaaW.PrintWords Go.Proofs.YtchgjkfnmifgkaaW.PrintLast Go.Proofs.YtchgjkfnmifgkaaW.PrintMore Go.Proofs.Ytchgjkfnmifgkaa.QE
set_option linter.unusedVariables false

set_option maxRecDepth 100000 in
theorem EvalAsks : EvalAsksPure := by
  intro S L R F hS hL hR hF
  have hl : L.length < 140737488355328 := by have := hL.2.1; omega
  have hs : S.length < 140737488355328 := by have := hS.2.1; omega
  have hr : R.length < 140737488355328 := by have := hR.2.1; omega
  refine Ev.rounds (g := fun k => thresherlaw8_EvalAsks.f k S L R F) (Ev.congr (f := fun k => (thresherlaw8_two.f k S L R F [(⟨#[60]⟩ : ByteArray), (⟨#[61]⟩ : ByteArray)]).bind fun t => some t) (fun k => rfl) (Ev.bind (two_ev S L R F _ (by simp) (fun i hi => ?_) hR.2.2 (Tr.of_good hL.2.2) hl hs hr) (Ev.now _)))
  have hi : i < 2 := hi
  rcases (show i = 0 ∨ i = 1 by omega) with rfl | rfl
  · exact ⟨16, WordOk.of (w := ⟨#[60]⟩) (by decide) (by kernel_rfl) (by kernel_rfl)⟩
  · exact ⟨17, WordOk.of (w := ⟨#[61]⟩) (by decide) (by kernel_rfl) (by kernel_rfl)⟩
end Go.Proofs.Ytchgjkfnmifgkaa.QE.Pure
