/-
  No cell of these rows narrows 'for every input' (looked for: loops, veiled, ifaces, maps, wideKeys, modest, calm, conditions, laid).
  DERIVED. THE GIVEN ROWS OF THIS SEAT. 14 by the template 'for every input the law returns true; each argument reads behind the call as it read before'; 0 by the template 'total and deterministic' (their statements: YtnjdehldlcmojaaTotals.lean).
  GIVEN WITH THE SEED: the statements are not yours to turn. If you find one false, say at which input.
  Laid BY PROGRAM, IN A SANDBOX (cutbox-rows.mjs): the forced cells as the released guide's own fill.sh prints them over the translation e96e105bb6cbb637… (all of the seat's roots in one cut). By AI agents, Wed Nov 11 2026. No macro, syntax, notation, axiom, sorry.
-/
import Derived.Test.YtnjdehldlcmojaaChecked
import GoSem.Claim
import GoSem.ClaimJoined
import GoSem.ClaimMapViews
import Derived.JoinedTies
import Derived.KernelRfl
namespace Go.Proofs.Ytnjdehldlcmojaa
/- THE CELL 'sum', in the pinned program and in every row, IS THE sha256 OF THE DUMP (.gsa) THAT YtnjdehldlcmojaaProg.lean LOADS. Nothing in Lean hashes anything: it is a label: what it is worth is what the hold of that sum in a sandbox is worth. -/
noncomputable def Try.pinned : Pinned := { name := "ytnjdehldlcmojaa", sum := "e96e105bb6cbb637273be46f32889b3d4b8fcb91c6d3a8de4e4e9f1fb03ced4b", checked := Try.checked }
namespace Rows
def none {H : Type} : Left H := { results := [], args := [] }

/-- 'thresherlaw1.NumBytes': WHATEVER THE INPUT: true; the input reads as it did. -/
def numBytesSpec : ChangeSpec := { name := "numBytes", fn := fun _ => fun
  | [d] => { results := [.lit (.bool true)], args := [d] }
  | _ => none }
def numBytesRow : OpenClaim := { program := "ytnjdehldlcmojaa", sum := "e96e105bb6cbb637273be46f32889b3d4b8fcb91c6d3a8de4e4e9f1fb03ced4b", func := "thresher/thresherlaw1.NumBytes", spec := "numBytes", apart := false }
def NumBytesSaid : Prop := numBytesRow.holds Try.pinned (OpenSpec.ofChange numBytesSpec)

/-- ITS FALSE NEIGHBOUR: 'it returns false'. Refute it at one input. -/
def numBytesWrong : ChangeSpec := { name := "numBytes", fn := fun _ => fun
  | [d] => { results := [.lit (.bool false)], args := [d] }
  | _ => none }
def NumBytesWrongFalsely : Prop := numBytesRow.holds Try.pinned (OpenSpec.ofChange numBytesWrong)

/-- 'thresherlaw1.NumBack': WHATEVER THE INPUT: true; the input reads as it did. -/
def numBackSpec : ChangeSpec := { name := "numBack", fn := fun _ => fun
  | [d] => { results := [.lit (.bool true)], args := [d] }
  | _ => none }
def numBackRow : OpenClaim := { program := "ytnjdehldlcmojaa", sum := "e96e105bb6cbb637273be46f32889b3d4b8fcb91c6d3a8de4e4e9f1fb03ced4b", func := "thresher/thresherlaw1.NumBack", spec := "numBack", apart := false }
def NumBackSaid : Prop := numBackRow.holds Try.pinned (OpenSpec.ofChange numBackSpec)

/-- ITS FALSE NEIGHBOUR: 'it returns false'. Refute it at one input. -/
def numBackWrong : ChangeSpec := { name := "numBack", fn := fun _ => fun
  | [d] => { results := [.lit (.bool false)], args := [d] }
  | _ => none }
def NumBackWrongFalsely : Prop := numBackRow.holds Try.pinned (OpenSpec.ofChange numBackWrong)

/-- 'thresherlaw1.NumFours': WHATEVER THE INPUT: true; the input reads as it did. -/
def numFoursSpec : ChangeSpec := { name := "numFours", fn := fun _ => fun
  | [d] => { results := [.lit (.bool true)], args := [d] }
  | _ => none }
def numFoursRow : OpenClaim := { program := "ytnjdehldlcmojaa", sum := "e96e105bb6cbb637273be46f32889b3d4b8fcb91c6d3a8de4e4e9f1fb03ced4b", func := "thresher/thresherlaw1.NumFours", spec := "numFours", apart := false }
def NumFoursSaid : Prop := numFoursRow.holds Try.pinned (OpenSpec.ofChange numFoursSpec)

/-- ITS FALSE NEIGHBOUR: 'it returns false'. Refute it at one input. -/
def numFoursWrong : ChangeSpec := { name := "numFours", fn := fun _ => fun
  | [d] => { results := [.lit (.bool false)], args := [d] }
  | _ => none }
def NumFoursWrongFalsely : Prop := numFoursRow.holds Try.pinned (OpenSpec.ofChange numFoursWrong)

/-- 'thresherlaw1.NumShifts': WHATEVER THE INPUT: true; the input reads as it did. -/
def numShiftsSpec : ChangeSpec := { name := "numShifts", fn := fun _ => fun
  | [d] => { results := [.lit (.bool true)], args := [d] }
  | _ => none }
def numShiftsRow : OpenClaim := { program := "ytnjdehldlcmojaa", sum := "e96e105bb6cbb637273be46f32889b3d4b8fcb91c6d3a8de4e4e9f1fb03ced4b", func := "thresher/thresherlaw1.NumShifts", spec := "numShifts", apart := false }
def NumShiftsSaid : Prop := numShiftsRow.holds Try.pinned (OpenSpec.ofChange numShiftsSpec)

/-- ITS FALSE NEIGHBOUR: 'it returns false'. Refute it at one input. -/
def numShiftsWrong : ChangeSpec := { name := "numShifts", fn := fun _ => fun
  | [d] => { results := [.lit (.bool false)], args := [d] }
  | _ => none }
def NumShiftsWrongFalsely : Prop := numShiftsRow.holds Try.pinned (OpenSpec.ofChange numShiftsWrong)

/-- 'thresherlaw1.ShiftLefts': WHATEVER THE INPUT: true; the input reads as it did. -/
def shiftLeftsSpec : ChangeSpec := { name := "shiftLefts", fn := fun _ => fun
  | [d] => { results := [.lit (.bool true)], args := [d] }
  | _ => none }
def shiftLeftsRow : OpenClaim := { program := "ytnjdehldlcmojaa", sum := "e96e105bb6cbb637273be46f32889b3d4b8fcb91c6d3a8de4e4e9f1fb03ced4b", func := "thresher/thresherlaw1.ShiftLefts", spec := "shiftLefts", apart := false }
def ShiftLeftsSaid : Prop := shiftLeftsRow.holds Try.pinned (OpenSpec.ofChange shiftLeftsSpec)

/-- ITS FALSE NEIGHBOUR: 'it returns false'. Refute it at one input. -/
def shiftLeftsWrong : ChangeSpec := { name := "shiftLefts", fn := fun _ => fun
  | [d] => { results := [.lit (.bool false)], args := [d] }
  | _ => none }
def ShiftLeftsWrongFalsely : Prop := shiftLeftsRow.holds Try.pinned (OpenSpec.ofChange shiftLeftsWrong)

/-- 'thresherlaw1.ShiftRights': WHATEVER THE INPUT: true; the input reads as it did. -/
def shiftRightsSpec : ChangeSpec := { name := "shiftRights", fn := fun _ => fun
  | [d] => { results := [.lit (.bool true)], args := [d] }
  | _ => none }
def shiftRightsRow : OpenClaim := { program := "ytnjdehldlcmojaa", sum := "e96e105bb6cbb637273be46f32889b3d4b8fcb91c6d3a8de4e4e9f1fb03ced4b", func := "thresher/thresherlaw1.ShiftRights", spec := "shiftRights", apart := false }
def ShiftRightsSaid : Prop := shiftRightsRow.holds Try.pinned (OpenSpec.ofChange shiftRightsSpec)

/-- ITS FALSE NEIGHBOUR: 'it returns false'. Refute it at one input. -/
def shiftRightsWrong : ChangeSpec := { name := "shiftRights", fn := fun _ => fun
  | [d] => { results := [.lit (.bool false)], args := [d] }
  | _ => none }
def ShiftRightsWrongFalsely : Prop := shiftRightsRow.holds Try.pinned (OpenSpec.ofChange shiftRightsWrong)

/-- 'thresherlaw1.ShiftPlains': WHATEVER THE INPUT: true; the input reads as it did. -/
def shiftPlainsSpec : ChangeSpec := { name := "shiftPlains", fn := fun _ => fun
  | [d] => { results := [.lit (.bool true)], args := [d] }
  | _ => none }
def shiftPlainsRow : OpenClaim := { program := "ytnjdehldlcmojaa", sum := "e96e105bb6cbb637273be46f32889b3d4b8fcb91c6d3a8de4e4e9f1fb03ced4b", func := "thresher/thresherlaw1.ShiftPlains", spec := "shiftPlains", apart := false }
def ShiftPlainsSaid : Prop := shiftPlainsRow.holds Try.pinned (OpenSpec.ofChange shiftPlainsSpec)

/-- ITS FALSE NEIGHBOUR: 'it returns false'. Refute it at one input. -/
def shiftPlainsWrong : ChangeSpec := { name := "shiftPlains", fn := fun _ => fun
  | [d] => { results := [.lit (.bool false)], args := [d] }
  | _ => none }
def ShiftPlainsWrongFalsely : Prop := shiftPlainsRow.holds Try.pinned (OpenSpec.ofChange shiftPlainsWrong)

/-- 'thresherlaw1.NumCuts': WHATEVER THE INPUT: true; the input reads as it did. -/
def numCutsSpec : ChangeSpec := { name := "numCuts", fn := fun _ => fun
  | [d] => { results := [.lit (.bool true)], args := [d] }
  | _ => none }
def numCutsRow : OpenClaim := { program := "ytnjdehldlcmojaa", sum := "e96e105bb6cbb637273be46f32889b3d4b8fcb91c6d3a8de4e4e9f1fb03ced4b", func := "thresher/thresherlaw1.NumCuts", spec := "numCuts", apart := false }
def NumCutsSaid : Prop := numCutsRow.holds Try.pinned (OpenSpec.ofChange numCutsSpec)

/-- ITS FALSE NEIGHBOUR: 'it returns false'. Refute it at one input. -/
def numCutsWrong : ChangeSpec := { name := "numCuts", fn := fun _ => fun
  | [d] => { results := [.lit (.bool false)], args := [d] }
  | _ => none }
def NumCutsWrongFalsely : Prop := numCutsRow.holds Try.pinned (OpenSpec.ofChange numCutsWrong)

/-- 'thresherlaw1.CutBytes8': WHATEVER THE INPUT: true; the input reads as it did. -/
def cutBytes8Spec : ChangeSpec := { name := "cutBytes8", fn := fun _ => fun
  | [d] => { results := [.lit (.bool true)], args := [d] }
  | _ => none }
def cutBytes8Row : OpenClaim := { program := "ytnjdehldlcmojaa", sum := "e96e105bb6cbb637273be46f32889b3d4b8fcb91c6d3a8de4e4e9f1fb03ced4b", func := "thresher/thresherlaw1.CutBytes8", spec := "cutBytes8", apart := false }
def CutBytes8Said : Prop := cutBytes8Row.holds Try.pinned (OpenSpec.ofChange cutBytes8Spec)

/-- ITS FALSE NEIGHBOUR: 'it returns false'. Refute it at one input. -/
def cutBytes8Wrong : ChangeSpec := { name := "cutBytes8", fn := fun _ => fun
  | [d] => { results := [.lit (.bool false)], args := [d] }
  | _ => none }
def CutBytes8WrongFalsely : Prop := cutBytes8Row.holds Try.pinned (OpenSpec.ofChange cutBytes8Wrong)

/-- 'thresherlaw1.CutBytes16': WHATEVER THE INPUT: true; the input reads as it did. -/
def cutBytes16Spec : ChangeSpec := { name := "cutBytes16", fn := fun _ => fun
  | [d] => { results := [.lit (.bool true)], args := [d] }
  | _ => none }
def cutBytes16Row : OpenClaim := { program := "ytnjdehldlcmojaa", sum := "e96e105bb6cbb637273be46f32889b3d4b8fcb91c6d3a8de4e4e9f1fb03ced4b", func := "thresher/thresherlaw1.CutBytes16", spec := "cutBytes16", apart := false }
def CutBytes16Said : Prop := cutBytes16Row.holds Try.pinned (OpenSpec.ofChange cutBytes16Spec)

/-- ITS FALSE NEIGHBOUR: 'it returns false'. Refute it at one input. -/
def cutBytes16Wrong : ChangeSpec := { name := "cutBytes16", fn := fun _ => fun
  | [d] => { results := [.lit (.bool false)], args := [d] }
  | _ => none }
def CutBytes16WrongFalsely : Prop := cutBytes16Row.holds Try.pinned (OpenSpec.ofChange cutBytes16Wrong)

/-- 'thresherlaw1.CutBytes32': WHATEVER THE INPUT: true; the input reads as it did. -/
def cutBytes32Spec : ChangeSpec := { name := "cutBytes32", fn := fun _ => fun
  | [d] => { results := [.lit (.bool true)], args := [d] }
  | _ => none }
def cutBytes32Row : OpenClaim := { program := "ytnjdehldlcmojaa", sum := "e96e105bb6cbb637273be46f32889b3d4b8fcb91c6d3a8de4e4e9f1fb03ced4b", func := "thresher/thresherlaw1.CutBytes32", spec := "cutBytes32", apart := false }
def CutBytes32Said : Prop := cutBytes32Row.holds Try.pinned (OpenSpec.ofChange cutBytes32Spec)

/-- ITS FALSE NEIGHBOUR: 'it returns false'. Refute it at one input. -/
def cutBytes32Wrong : ChangeSpec := { name := "cutBytes32", fn := fun _ => fun
  | [d] => { results := [.lit (.bool false)], args := [d] }
  | _ => none }
def CutBytes32WrongFalsely : Prop := cutBytes32Row.holds Try.pinned (OpenSpec.ofChange cutBytes32Wrong)

/-- 'thresherlaw1.CutSigns8': WHATEVER THE INPUT: true; the input reads as it did. -/
def cutSigns8Spec : ChangeSpec := { name := "cutSigns8", fn := fun _ => fun
  | [d] => { results := [.lit (.bool true)], args := [d] }
  | _ => none }
def cutSigns8Row : OpenClaim := { program := "ytnjdehldlcmojaa", sum := "e96e105bb6cbb637273be46f32889b3d4b8fcb91c6d3a8de4e4e9f1fb03ced4b", func := "thresher/thresherlaw1.CutSigns8", spec := "cutSigns8", apart := false }
def CutSigns8Said : Prop := cutSigns8Row.holds Try.pinned (OpenSpec.ofChange cutSigns8Spec)

/-- ITS FALSE NEIGHBOUR: 'it returns false'. Refute it at one input. -/
def cutSigns8Wrong : ChangeSpec := { name := "cutSigns8", fn := fun _ => fun
  | [d] => { results := [.lit (.bool false)], args := [d] }
  | _ => none }
def CutSigns8WrongFalsely : Prop := cutSigns8Row.holds Try.pinned (OpenSpec.ofChange cutSigns8Wrong)

/-- 'thresherlaw1.CutSigns16': WHATEVER THE INPUT: true; the input reads as it did. -/
def cutSigns16Spec : ChangeSpec := { name := "cutSigns16", fn := fun _ => fun
  | [d] => { results := [.lit (.bool true)], args := [d] }
  | _ => none }
def cutSigns16Row : OpenClaim := { program := "ytnjdehldlcmojaa", sum := "e96e105bb6cbb637273be46f32889b3d4b8fcb91c6d3a8de4e4e9f1fb03ced4b", func := "thresher/thresherlaw1.CutSigns16", spec := "cutSigns16", apart := false }
def CutSigns16Said : Prop := cutSigns16Row.holds Try.pinned (OpenSpec.ofChange cutSigns16Spec)

/-- ITS FALSE NEIGHBOUR: 'it returns false'. Refute it at one input. -/
def cutSigns16Wrong : ChangeSpec := { name := "cutSigns16", fn := fun _ => fun
  | [d] => { results := [.lit (.bool false)], args := [d] }
  | _ => none }
def CutSigns16WrongFalsely : Prop := cutSigns16Row.holds Try.pinned (OpenSpec.ofChange cutSigns16Wrong)

/-- 'thresherlaw1.CutSigns32': WHATEVER THE INPUT: true; the input reads as it did. -/
def cutSigns32Spec : ChangeSpec := { name := "cutSigns32", fn := fun _ => fun
  | [d] => { results := [.lit (.bool true)], args := [d] }
  | _ => none }
def cutSigns32Row : OpenClaim := { program := "ytnjdehldlcmojaa", sum := "e96e105bb6cbb637273be46f32889b3d4b8fcb91c6d3a8de4e4e9f1fb03ced4b", func := "thresher/thresherlaw1.CutSigns32", spec := "cutSigns32", apart := false }
def CutSigns32Said : Prop := cutSigns32Row.holds Try.pinned (OpenSpec.ofChange cutSigns32Spec)

/-- ITS FALSE NEIGHBOUR: 'it returns false'. Refute it at one input. -/
def cutSigns32Wrong : ChangeSpec := { name := "cutSigns32", fn := fun _ => fun
  | [d] => { results := [.lit (.bool false)], args := [d] }
  | _ => none }
def CutSigns32WrongFalsely : Prop := cutSigns32Row.holds Try.pinned (OpenSpec.ofChange cutSigns32Wrong)

/- THE SECOND FORM. 'bulk': how many values and letters a reading holds, each counted each time it is reached (what is shared counts as often as it is met; a slice's spare places count too). A statement '..UptoSaid' is the law's where the arguments, and the package variables that the reading takes, are together of bulk at most 1048576: NARROWER than '..Said'. Prove '..Said' where nothing that the law and all that it calls make is longer than what came in: it says more and counts as full. Else prove '..UptoSaid'. A law counts once. -/
mutual
def uptoBulk {H : Type} : DataW H → Nat
  | .lit (.string bytes) => bytes.length + 1
  | .lit _ => 1
  | .nil => 1
  | .ptr d => uptoBulk d + 1
  | .slice elems spare => uptoBulkAll elems + uptoBulkAll spare + 1
  | .agg parts => uptoBulkAll parts + 1
  | .iface _ d => uptoBulk d + 1
  | .map entries => uptoBulkEntries entries + 1
  | .held _ => 1
def uptoBulkAll {H : Type} : List (DataW H) → Nat
  | [] => 0
  | d :: r => uptoBulk d + uptoBulkAll r
def uptoBulkEntries {H : Type} : List (Lit × DataW H) → Nat
  | [] => 0
  | x :: r => uptoBulkEntry x + uptoBulkEntries r
def uptoBulkEntry {H : Type} : Lit × DataW H → Nat
  | (.string bytes, d) => bytes.length + uptoBulk d + 1
  | (_, d) => uptoBulk d + 1
 end
def uptoSmall : (H : Type) → List (DataW H) → Bool := fun _ ds => decide (uptoBulkAll ds ≤ 1048576)
def OpenSpec.upto (s : _root_.Go.ChangeSpec) : _root_.Go.OpenSpec := { _root_.Go.OpenSpec.ofChange s with cond := some uptoSmall }

/-- 'thresherlaw1.NumBytes', WHERE WHAT IT READS IS OF BULK AT MOST 1048576: true; the input reads as it did. -/
def numBytesUptoRow : OpenClaim := { program := "ytnjdehldlcmojaa", sum := "e96e105bb6cbb637273be46f32889b3d4b8fcb91c6d3a8de4e4e9f1fb03ced4b", func := "thresher/thresherlaw1.NumBytes", spec := "numBytes", apart := false, narrowed := true }
def NumBytesUptoSaid : Prop := numBytesUptoRow.holds Try.pinned (OpenSpec.upto numBytesSpec)

/-- 'thresherlaw1.NumBack', WHERE WHAT IT READS IS OF BULK AT MOST 1048576: true; the input reads as it did. -/
def numBackUptoRow : OpenClaim := { program := "ytnjdehldlcmojaa", sum := "e96e105bb6cbb637273be46f32889b3d4b8fcb91c6d3a8de4e4e9f1fb03ced4b", func := "thresher/thresherlaw1.NumBack", spec := "numBack", apart := false, narrowed := true }
def NumBackUptoSaid : Prop := numBackUptoRow.holds Try.pinned (OpenSpec.upto numBackSpec)

/-- 'thresherlaw1.NumFours', WHERE WHAT IT READS IS OF BULK AT MOST 1048576: true; the input reads as it did. -/
def numFoursUptoRow : OpenClaim := { program := "ytnjdehldlcmojaa", sum := "e96e105bb6cbb637273be46f32889b3d4b8fcb91c6d3a8de4e4e9f1fb03ced4b", func := "thresher/thresherlaw1.NumFours", spec := "numFours", apart := false, narrowed := true }
def NumFoursUptoSaid : Prop := numFoursUptoRow.holds Try.pinned (OpenSpec.upto numFoursSpec)

/-- 'thresherlaw1.NumShifts', WHERE WHAT IT READS IS OF BULK AT MOST 1048576: true; the input reads as it did. -/
def numShiftsUptoRow : OpenClaim := { program := "ytnjdehldlcmojaa", sum := "e96e105bb6cbb637273be46f32889b3d4b8fcb91c6d3a8de4e4e9f1fb03ced4b", func := "thresher/thresherlaw1.NumShifts", spec := "numShifts", apart := false, narrowed := true }
def NumShiftsUptoSaid : Prop := numShiftsUptoRow.holds Try.pinned (OpenSpec.upto numShiftsSpec)

/-- 'thresherlaw1.ShiftLefts', WHERE WHAT IT READS IS OF BULK AT MOST 1048576: true; the input reads as it did. -/
def shiftLeftsUptoRow : OpenClaim := { program := "ytnjdehldlcmojaa", sum := "e96e105bb6cbb637273be46f32889b3d4b8fcb91c6d3a8de4e4e9f1fb03ced4b", func := "thresher/thresherlaw1.ShiftLefts", spec := "shiftLefts", apart := false, narrowed := true }
def ShiftLeftsUptoSaid : Prop := shiftLeftsUptoRow.holds Try.pinned (OpenSpec.upto shiftLeftsSpec)

/-- 'thresherlaw1.ShiftRights', WHERE WHAT IT READS IS OF BULK AT MOST 1048576: true; the input reads as it did. -/
def shiftRightsUptoRow : OpenClaim := { program := "ytnjdehldlcmojaa", sum := "e96e105bb6cbb637273be46f32889b3d4b8fcb91c6d3a8de4e4e9f1fb03ced4b", func := "thresher/thresherlaw1.ShiftRights", spec := "shiftRights", apart := false, narrowed := true }
def ShiftRightsUptoSaid : Prop := shiftRightsUptoRow.holds Try.pinned (OpenSpec.upto shiftRightsSpec)

/-- 'thresherlaw1.ShiftPlains', WHERE WHAT IT READS IS OF BULK AT MOST 1048576: true; the input reads as it did. -/
def shiftPlainsUptoRow : OpenClaim := { program := "ytnjdehldlcmojaa", sum := "e96e105bb6cbb637273be46f32889b3d4b8fcb91c6d3a8de4e4e9f1fb03ced4b", func := "thresher/thresherlaw1.ShiftPlains", spec := "shiftPlains", apart := false, narrowed := true }
def ShiftPlainsUptoSaid : Prop := shiftPlainsUptoRow.holds Try.pinned (OpenSpec.upto shiftPlainsSpec)

/-- 'thresherlaw1.NumCuts', WHERE WHAT IT READS IS OF BULK AT MOST 1048576: true; the input reads as it did. -/
def numCutsUptoRow : OpenClaim := { program := "ytnjdehldlcmojaa", sum := "e96e105bb6cbb637273be46f32889b3d4b8fcb91c6d3a8de4e4e9f1fb03ced4b", func := "thresher/thresherlaw1.NumCuts", spec := "numCuts", apart := false, narrowed := true }
def NumCutsUptoSaid : Prop := numCutsUptoRow.holds Try.pinned (OpenSpec.upto numCutsSpec)

/-- 'thresherlaw1.CutBytes8', WHERE WHAT IT READS IS OF BULK AT MOST 1048576: true; the input reads as it did. -/
def cutBytes8UptoRow : OpenClaim := { program := "ytnjdehldlcmojaa", sum := "e96e105bb6cbb637273be46f32889b3d4b8fcb91c6d3a8de4e4e9f1fb03ced4b", func := "thresher/thresherlaw1.CutBytes8", spec := "cutBytes8", apart := false, narrowed := true }
def CutBytes8UptoSaid : Prop := cutBytes8UptoRow.holds Try.pinned (OpenSpec.upto cutBytes8Spec)

/-- 'thresherlaw1.CutBytes16', WHERE WHAT IT READS IS OF BULK AT MOST 1048576: true; the input reads as it did. -/
def cutBytes16UptoRow : OpenClaim := { program := "ytnjdehldlcmojaa", sum := "e96e105bb6cbb637273be46f32889b3d4b8fcb91c6d3a8de4e4e9f1fb03ced4b", func := "thresher/thresherlaw1.CutBytes16", spec := "cutBytes16", apart := false, narrowed := true }
def CutBytes16UptoSaid : Prop := cutBytes16UptoRow.holds Try.pinned (OpenSpec.upto cutBytes16Spec)

/-- 'thresherlaw1.CutBytes32', WHERE WHAT IT READS IS OF BULK AT MOST 1048576: true; the input reads as it did. -/
def cutBytes32UptoRow : OpenClaim := { program := "ytnjdehldlcmojaa", sum := "e96e105bb6cbb637273be46f32889b3d4b8fcb91c6d3a8de4e4e9f1fb03ced4b", func := "thresher/thresherlaw1.CutBytes32", spec := "cutBytes32", apart := false, narrowed := true }
def CutBytes32UptoSaid : Prop := cutBytes32UptoRow.holds Try.pinned (OpenSpec.upto cutBytes32Spec)

/-- 'thresherlaw1.CutSigns8', WHERE WHAT IT READS IS OF BULK AT MOST 1048576: true; the input reads as it did. -/
def cutSigns8UptoRow : OpenClaim := { program := "ytnjdehldlcmojaa", sum := "e96e105bb6cbb637273be46f32889b3d4b8fcb91c6d3a8de4e4e9f1fb03ced4b", func := "thresher/thresherlaw1.CutSigns8", spec := "cutSigns8", apart := false, narrowed := true }
def CutSigns8UptoSaid : Prop := cutSigns8UptoRow.holds Try.pinned (OpenSpec.upto cutSigns8Spec)

/-- 'thresherlaw1.CutSigns16', WHERE WHAT IT READS IS OF BULK AT MOST 1048576: true; the input reads as it did. -/
def cutSigns16UptoRow : OpenClaim := { program := "ytnjdehldlcmojaa", sum := "e96e105bb6cbb637273be46f32889b3d4b8fcb91c6d3a8de4e4e9f1fb03ced4b", func := "thresher/thresherlaw1.CutSigns16", spec := "cutSigns16", apart := false, narrowed := true }
def CutSigns16UptoSaid : Prop := cutSigns16UptoRow.holds Try.pinned (OpenSpec.upto cutSigns16Spec)

/-- 'thresherlaw1.CutSigns32', WHERE WHAT IT READS IS OF BULK AT MOST 1048576: true; the input reads as it did. -/
def cutSigns32UptoRow : OpenClaim := { program := "ytnjdehldlcmojaa", sum := "e96e105bb6cbb637273be46f32889b3d4b8fcb91c6d3a8de4e4e9f1fb03ced4b", func := "thresher/thresherlaw1.CutSigns32", spec := "cutSigns32", apart := false, narrowed := true }
def CutSigns32UptoSaid : Prop := cutSigns32UptoRow.holds Try.pinned (OpenSpec.upto cutSigns32Spec)

end Rows
end Go.Proofs.Ytnjdehldlcmojaa
