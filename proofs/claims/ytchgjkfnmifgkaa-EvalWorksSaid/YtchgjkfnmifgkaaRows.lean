/-
  NARROWER THAN 'FOR EVERY INPUT', by the rows' own cells (each row's printed sentence says how): CheckParts: loops · CheckNeeds: loops · EvalRuns: loops · EvalFuel: loops · EvalWorks: loops · EvalSums: loops · EvalRests: loops · EvalBits: loops · EvalShifts: loops · EvalAsks: loops · EvalTurns: loops.
  DERIVED. THE GIVEN ROWS OF THIS SEAT. 11 by the template 'for every input the law returns true; each argument reads behind the call as it read before'; 0 by the template 'total and deterministic' (their statements: YtchgjkfnmifgkaaTotals.lean).
  GIVEN WITH THE SEED: the statements are not yours to turn. If you find one false, say at which input.
  Laid BY PROGRAM, IN A SANDBOX (cutbox-rows.mjs): the forced cells as the released guide's own fill.sh prints them over the translation 9d43f585e3ad22ec… (all of the seat's roots in one cut). By AI agents, Wed Nov 11 2026. No macro, syntax, notation, axiom, sorry.
-/
import Derived.Test.YtchgjkfnmifgkaaChecked
import GoSem.Claim
import GoSem.ClaimJoined
import GoSem.ClaimMapViews
import Derived.JoinedTies
import Derived.KernelRfl
namespace Go.Proofs.Ytchgjkfnmifgkaa
/- THE CELL 'sum', in the pinned program and in every row, IS THE sha256 OF THE DUMP (.gsa) THAT YtchgjkfnmifgkaaProg.lean LOADS. Nothing in Lean hashes anything: it is a label: what it is worth is what the hold of that sum in a sandbox is worth. -/
noncomputable def Try.pinned : Pinned := { name := "ytchgjkfnmifgkaa", sum := "9d43f585e3ad22ecd5fcfdda586fb4692b35a540f332d34a6b271503dd109d48", checked := Try.checked }
namespace Rows
def none {H : Type} : Left H := { results := [], args := [] }

/-- 'thresherlaw7.CheckParts': WHATEVER THE INPUT: true; the input reads as it did. -/
def checkPartsSpec : ChangeSpec := { name := "checkParts", fn := fun _ => fun
  | [d] => { results := [.lit (.bool true)], args := [d] }
  | _ => none }
def checkPartsRow : OpenClaim := { program := "ytchgjkfnmifgkaa", sum := "9d43f585e3ad22ecd5fcfdda586fb4692b35a540f332d34a6b271503dd109d48", func := "thresher/thresherlaw7.CheckParts", spec := "checkParts", recurses := true, loops := true, apart := false }
def CheckPartsSaid : Prop := checkPartsRow.holds Try.pinned (OpenSpec.ofChange checkPartsSpec)

/-- ITS FALSE NEIGHBOUR: 'it returns false'. Refute it at one input. -/
def checkPartsWrong : ChangeSpec := { name := "checkParts", fn := fun _ => fun
  | [d] => { results := [.lit (.bool false)], args := [d] }
  | _ => none }
def CheckPartsWrongFalsely : Prop := checkPartsRow.holds Try.pinned (OpenSpec.ofChange checkPartsWrong)

/-- 'thresherlaw7.CheckNeeds': WHATEVER THE INPUT: true; the input reads as it did. -/
def checkNeedsSpec : ChangeSpec := { name := "checkNeeds", fn := fun _ => fun
  | [d] => { results := [.lit (.bool true)], args := [d] }
  | _ => none }
def checkNeedsRow : OpenClaim := { program := "ytchgjkfnmifgkaa", sum := "9d43f585e3ad22ecd5fcfdda586fb4692b35a540f332d34a6b271503dd109d48", func := "thresher/thresherlaw7.CheckNeeds", spec := "checkNeeds", recurses := true, loops := true, apart := false }
def CheckNeedsSaid : Prop := checkNeedsRow.holds Try.pinned (OpenSpec.ofChange checkNeedsSpec)

/-- ITS FALSE NEIGHBOUR: 'it returns false'. Refute it at one input. -/
def checkNeedsWrong : ChangeSpec := { name := "checkNeeds", fn := fun _ => fun
  | [d] => { results := [.lit (.bool false)], args := [d] }
  | _ => none }
def CheckNeedsWrongFalsely : Prop := checkNeedsRow.holds Try.pinned (OpenSpec.ofChange checkNeedsWrong)

/-- 'thresherlaw8.EvalRuns': WHATEVER THE INPUT: true; the input reads as it did. -/
def evalRunsSpec : ChangeSpec := { name := "evalRuns", fn := fun _ => fun
  | [d] => { results := [.lit (.bool true)], args := [d] }
  | _ => none }
def evalRunsRow : OpenClaim := { program := "ytchgjkfnmifgkaa", sum := "9d43f585e3ad22ecd5fcfdda586fb4692b35a540f332d34a6b271503dd109d48", func := "thresher/thresherlaw8.EvalRuns", spec := "evalRuns", recurses := true, loops := true, apart := false }
def EvalRunsSaid : Prop := evalRunsRow.holds Try.pinned (OpenSpec.ofChange evalRunsSpec)

/-- ITS FALSE NEIGHBOUR: 'it returns false'. Refute it at one input. -/
def evalRunsWrong : ChangeSpec := { name := "evalRuns", fn := fun _ => fun
  | [d] => { results := [.lit (.bool false)], args := [d] }
  | _ => none }
def EvalRunsWrongFalsely : Prop := evalRunsRow.holds Try.pinned (OpenSpec.ofChange evalRunsWrong)

/-- 'thresherlaw8.EvalFuel': WHATEVER THE INPUT: true; the input reads as it did. -/
def evalFuelSpec : ChangeSpec := { name := "evalFuel", fn := fun _ => fun
  | [d] => { results := [.lit (.bool true)], args := [d] }
  | _ => none }
def evalFuelRow : OpenClaim := { program := "ytchgjkfnmifgkaa", sum := "9d43f585e3ad22ecd5fcfdda586fb4692b35a540f332d34a6b271503dd109d48", func := "thresher/thresherlaw8.EvalFuel", spec := "evalFuel", recurses := true, loops := true, apart := false }
def EvalFuelSaid : Prop := evalFuelRow.holds Try.pinned (OpenSpec.ofChange evalFuelSpec)

/-- ITS FALSE NEIGHBOUR: 'it returns false'. Refute it at one input. -/
def evalFuelWrong : ChangeSpec := { name := "evalFuel", fn := fun _ => fun
  | [d] => { results := [.lit (.bool false)], args := [d] }
  | _ => none }
def EvalFuelWrongFalsely : Prop := evalFuelRow.holds Try.pinned (OpenSpec.ofChange evalFuelWrong)

/-- 'thresherlaw8.EvalWorks': WHATEVER THE INPUT: true; the input reads as it did. -/
def evalWorksSpec : ChangeSpec := { name := "evalWorks", fn := fun _ => fun
  | [d] => { results := [.lit (.bool true)], args := [d] }
  | _ => none }
def evalWorksRow : OpenClaim := { program := "ytchgjkfnmifgkaa", sum := "9d43f585e3ad22ecd5fcfdda586fb4692b35a540f332d34a6b271503dd109d48", func := "thresher/thresherlaw8.EvalWorks", spec := "evalWorks", recurses := true, loops := true, apart := false }
def EvalWorksSaid : Prop := evalWorksRow.holds Try.pinned (OpenSpec.ofChange evalWorksSpec)

/-- ITS FALSE NEIGHBOUR: 'it returns false'. Refute it at one input. -/
def evalWorksWrong : ChangeSpec := { name := "evalWorks", fn := fun _ => fun
  | [d] => { results := [.lit (.bool false)], args := [d] }
  | _ => none }
def EvalWorksWrongFalsely : Prop := evalWorksRow.holds Try.pinned (OpenSpec.ofChange evalWorksWrong)

/-- 'thresherlaw8.EvalSums': WHATEVER THE INPUT: true; the input reads as it did. -/
def evalSumsSpec : ChangeSpec := { name := "evalSums", fn := fun _ => fun
  | [d] => { results := [.lit (.bool true)], args := [d] }
  | _ => none }
def evalSumsRow : OpenClaim := { program := "ytchgjkfnmifgkaa", sum := "9d43f585e3ad22ecd5fcfdda586fb4692b35a540f332d34a6b271503dd109d48", func := "thresher/thresherlaw8.EvalSums", spec := "evalSums", recurses := true, loops := true, apart := false }
def EvalSumsSaid : Prop := evalSumsRow.holds Try.pinned (OpenSpec.ofChange evalSumsSpec)

/-- ITS FALSE NEIGHBOUR: 'it returns false'. Refute it at one input. -/
def evalSumsWrong : ChangeSpec := { name := "evalSums", fn := fun _ => fun
  | [d] => { results := [.lit (.bool false)], args := [d] }
  | _ => none }
def EvalSumsWrongFalsely : Prop := evalSumsRow.holds Try.pinned (OpenSpec.ofChange evalSumsWrong)

/-- 'thresherlaw8.EvalRests': WHATEVER THE INPUT: true; the input reads as it did. -/
def evalRestsSpec : ChangeSpec := { name := "evalRests", fn := fun _ => fun
  | [d] => { results := [.lit (.bool true)], args := [d] }
  | _ => none }
def evalRestsRow : OpenClaim := { program := "ytchgjkfnmifgkaa", sum := "9d43f585e3ad22ecd5fcfdda586fb4692b35a540f332d34a6b271503dd109d48", func := "thresher/thresherlaw8.EvalRests", spec := "evalRests", recurses := true, loops := true, apart := false }
def EvalRestsSaid : Prop := evalRestsRow.holds Try.pinned (OpenSpec.ofChange evalRestsSpec)

/-- ITS FALSE NEIGHBOUR: 'it returns false'. Refute it at one input. -/
def evalRestsWrong : ChangeSpec := { name := "evalRests", fn := fun _ => fun
  | [d] => { results := [.lit (.bool false)], args := [d] }
  | _ => none }
def EvalRestsWrongFalsely : Prop := evalRestsRow.holds Try.pinned (OpenSpec.ofChange evalRestsWrong)

/-- 'thresherlaw8.EvalBits': WHATEVER THE INPUT: true; the input reads as it did. -/
def evalBitsSpec : ChangeSpec := { name := "evalBits", fn := fun _ => fun
  | [d] => { results := [.lit (.bool true)], args := [d] }
  | _ => none }
def evalBitsRow : OpenClaim := { program := "ytchgjkfnmifgkaa", sum := "9d43f585e3ad22ecd5fcfdda586fb4692b35a540f332d34a6b271503dd109d48", func := "thresher/thresherlaw8.EvalBits", spec := "evalBits", recurses := true, loops := true, apart := false }
def EvalBitsSaid : Prop := evalBitsRow.holds Try.pinned (OpenSpec.ofChange evalBitsSpec)

/-- ITS FALSE NEIGHBOUR: 'it returns false'. Refute it at one input. -/
def evalBitsWrong : ChangeSpec := { name := "evalBits", fn := fun _ => fun
  | [d] => { results := [.lit (.bool false)], args := [d] }
  | _ => none }
def EvalBitsWrongFalsely : Prop := evalBitsRow.holds Try.pinned (OpenSpec.ofChange evalBitsWrong)

/-- 'thresherlaw8.EvalShifts': WHATEVER THE INPUT: true; the input reads as it did. -/
def evalShiftsSpec : ChangeSpec := { name := "evalShifts", fn := fun _ => fun
  | [d] => { results := [.lit (.bool true)], args := [d] }
  | _ => none }
def evalShiftsRow : OpenClaim := { program := "ytchgjkfnmifgkaa", sum := "9d43f585e3ad22ecd5fcfdda586fb4692b35a540f332d34a6b271503dd109d48", func := "thresher/thresherlaw8.EvalShifts", spec := "evalShifts", recurses := true, loops := true, apart := false }
def EvalShiftsSaid : Prop := evalShiftsRow.holds Try.pinned (OpenSpec.ofChange evalShiftsSpec)

/-- ITS FALSE NEIGHBOUR: 'it returns false'. Refute it at one input. -/
def evalShiftsWrong : ChangeSpec := { name := "evalShifts", fn := fun _ => fun
  | [d] => { results := [.lit (.bool false)], args := [d] }
  | _ => none }
def EvalShiftsWrongFalsely : Prop := evalShiftsRow.holds Try.pinned (OpenSpec.ofChange evalShiftsWrong)

/-- 'thresherlaw8.EvalAsks': WHATEVER THE INPUT: true; the input reads as it did. -/
def evalAsksSpec : ChangeSpec := { name := "evalAsks", fn := fun _ => fun
  | [d] => { results := [.lit (.bool true)], args := [d] }
  | _ => none }
def evalAsksRow : OpenClaim := { program := "ytchgjkfnmifgkaa", sum := "9d43f585e3ad22ecd5fcfdda586fb4692b35a540f332d34a6b271503dd109d48", func := "thresher/thresherlaw8.EvalAsks", spec := "evalAsks", recurses := true, loops := true, apart := false }
def EvalAsksSaid : Prop := evalAsksRow.holds Try.pinned (OpenSpec.ofChange evalAsksSpec)

/-- ITS FALSE NEIGHBOUR: 'it returns false'. Refute it at one input. -/
def evalAsksWrong : ChangeSpec := { name := "evalAsks", fn := fun _ => fun
  | [d] => { results := [.lit (.bool false)], args := [d] }
  | _ => none }
def EvalAsksWrongFalsely : Prop := evalAsksRow.holds Try.pinned (OpenSpec.ofChange evalAsksWrong)

/-- 'thresherlaw8.EvalTurns': WHATEVER THE INPUT: true; the input reads as it did. -/
def evalTurnsSpec : ChangeSpec := { name := "evalTurns", fn := fun _ => fun
  | [d] => { results := [.lit (.bool true)], args := [d] }
  | _ => none }
def evalTurnsRow : OpenClaim := { program := "ytchgjkfnmifgkaa", sum := "9d43f585e3ad22ecd5fcfdda586fb4692b35a540f332d34a6b271503dd109d48", func := "thresher/thresherlaw8.EvalTurns", spec := "evalTurns", recurses := true, loops := true, apart := false }
def EvalTurnsSaid : Prop := evalTurnsRow.holds Try.pinned (OpenSpec.ofChange evalTurnsSpec)

/-- ITS FALSE NEIGHBOUR: 'it returns false'. Refute it at one input. -/
def evalTurnsWrong : ChangeSpec := { name := "evalTurns", fn := fun _ => fun
  | [d] => { results := [.lit (.bool false)], args := [d] }
  | _ => none }
def EvalTurnsWrongFalsely : Prop := evalTurnsRow.holds Try.pinned (OpenSpec.ofChange evalTurnsWrong)

/- THE SECOND FORM. 'bulk': how many values and letters a reading holds, each counted each time it is reached (what is shared counts as often as it is met; a slice's spare places count too). A statement '..UptoSaid' is the law's where the arguments, and the package variables that the reading takes, are together of bulk at most 1048576: NARROWER than '..Said'. Prove '..Said' where nothing that the law and all that it calls make is longer than what came in: it says more and counts as full. Else prove '..UptoSaid'. A law counts once. -/
mutual
def uptoBulk {H : Type} : DataW H → Nat
  | .lit (.string bytes) => bytes.length + 1
  | .lit _ => 1
  | .nil => 1
  | .ptr d => uptoBulk d + 1
  | .slice elems spare => uptoBulkAll elems + uptoBulkAll spare + 1
  | .agg parts => uptoBulkAll parts + 1
  | .iface _ d => uptoBulk d + 1
  | .map entries => uptoBulkEntries entries + 1
  | .held _ => 1
def uptoBulkAll {H : Type} : List (DataW H) → Nat
  | [] => 0
  | d :: r => uptoBulk d + uptoBulkAll r
def uptoBulkEntries {H : Type} : List (Lit × DataW H) → Nat
  | [] => 0
  | x :: r => uptoBulkEntry x + uptoBulkEntries r
def uptoBulkEntry {H : Type} : Lit × DataW H → Nat
  | (.string bytes, d) => bytes.length + uptoBulk d + 1
  | (_, d) => uptoBulk d + 1
 end
def uptoSmall : (H : Type) → List (DataW H) → Bool := fun _ ds => decide (uptoBulkAll ds ≤ 1048576)
def OpenSpec.upto (s : _root_.Go.ChangeSpec) : _root_.Go.OpenSpec := { _root_.Go.OpenSpec.ofChange s with cond := some uptoSmall }

/-- 'thresherlaw7.CheckParts', WHERE WHAT IT READS IS OF BULK AT MOST 1048576: true; the input reads as it did. -/
def checkPartsUptoRow : OpenClaim := { program := "ytchgjkfnmifgkaa", sum := "9d43f585e3ad22ecd5fcfdda586fb4692b35a540f332d34a6b271503dd109d48", func := "thresher/thresherlaw7.CheckParts", spec := "checkParts", recurses := true, loops := true, apart := false, narrowed := true }
def CheckPartsUptoSaid : Prop := checkPartsUptoRow.holds Try.pinned (OpenSpec.upto checkPartsSpec)

/-- 'thresherlaw7.CheckNeeds', WHERE WHAT IT READS IS OF BULK AT MOST 1048576: true; the input reads as it did. -/
def checkNeedsUptoRow : OpenClaim := { program := "ytchgjkfnmifgkaa", sum := "9d43f585e3ad22ecd5fcfdda586fb4692b35a540f332d34a6b271503dd109d48", func := "thresher/thresherlaw7.CheckNeeds", spec := "checkNeeds", recurses := true, loops := true, apart := false, narrowed := true }
def CheckNeedsUptoSaid : Prop := checkNeedsUptoRow.holds Try.pinned (OpenSpec.upto checkNeedsSpec)

/-- 'thresherlaw8.EvalRuns', WHERE WHAT IT READS IS OF BULK AT MOST 1048576: true; the input reads as it did. -/
def evalRunsUptoRow : OpenClaim := { program := "ytchgjkfnmifgkaa", sum := "9d43f585e3ad22ecd5fcfdda586fb4692b35a540f332d34a6b271503dd109d48", func := "thresher/thresherlaw8.EvalRuns", spec := "evalRuns", recurses := true, loops := true, apart := false, narrowed := true }
def EvalRunsUptoSaid : Prop := evalRunsUptoRow.holds Try.pinned (OpenSpec.upto evalRunsSpec)

/-- 'thresherlaw8.EvalFuel', WHERE WHAT IT READS IS OF BULK AT MOST 1048576: true; the input reads as it did. -/
def evalFuelUptoRow : OpenClaim := { program := "ytchgjkfnmifgkaa", sum := "9d43f585e3ad22ecd5fcfdda586fb4692b35a540f332d34a6b271503dd109d48", func := "thresher/thresherlaw8.EvalFuel", spec := "evalFuel", recurses := true, loops := true, apart := false, narrowed := true }
def EvalFuelUptoSaid : Prop := evalFuelUptoRow.holds Try.pinned (OpenSpec.upto evalFuelSpec)

/-- 'thresherlaw8.EvalWorks', WHERE WHAT IT READS IS OF BULK AT MOST 1048576: true; the input reads as it did. -/
def evalWorksUptoRow : OpenClaim := { program := "ytchgjkfnmifgkaa", sum := "9d43f585e3ad22ecd5fcfdda586fb4692b35a540f332d34a6b271503dd109d48", func := "thresher/thresherlaw8.EvalWorks", spec := "evalWorks", recurses := true, loops := true, apart := false, narrowed := true }
def EvalWorksUptoSaid : Prop := evalWorksUptoRow.holds Try.pinned (OpenSpec.upto evalWorksSpec)

/-- 'thresherlaw8.EvalSums', WHERE WHAT IT READS IS OF BULK AT MOST 1048576: true; the input reads as it did. -/
def evalSumsUptoRow : OpenClaim := { program := "ytchgjkfnmifgkaa", sum := "9d43f585e3ad22ecd5fcfdda586fb4692b35a540f332d34a6b271503dd109d48", func := "thresher/thresherlaw8.EvalSums", spec := "evalSums", recurses := true, loops := true, apart := false, narrowed := true }
def EvalSumsUptoSaid : Prop := evalSumsUptoRow.holds Try.pinned (OpenSpec.upto evalSumsSpec)

/-- 'thresherlaw8.EvalRests', WHERE WHAT IT READS IS OF BULK AT MOST 1048576: true; the input reads as it did. -/
def evalRestsUptoRow : OpenClaim := { program := "ytchgjkfnmifgkaa", sum := "9d43f585e3ad22ecd5fcfdda586fb4692b35a540f332d34a6b271503dd109d48", func := "thresher/thresherlaw8.EvalRests", spec := "evalRests", recurses := true, loops := true, apart := false, narrowed := true }
def EvalRestsUptoSaid : Prop := evalRestsUptoRow.holds Try.pinned (OpenSpec.upto evalRestsSpec)

/-- 'thresherlaw8.EvalBits', WHERE WHAT IT READS IS OF BULK AT MOST 1048576: true; the input reads as it did. -/
def evalBitsUptoRow : OpenClaim := { program := "ytchgjkfnmifgkaa", sum := "9d43f585e3ad22ecd5fcfdda586fb4692b35a540f332d34a6b271503dd109d48", func := "thresher/thresherlaw8.EvalBits", spec := "evalBits", recurses := true, loops := true, apart := false, narrowed := true }
def EvalBitsUptoSaid : Prop := evalBitsUptoRow.holds Try.pinned (OpenSpec.upto evalBitsSpec)

/-- 'thresherlaw8.EvalShifts', WHERE WHAT IT READS IS OF BULK AT MOST 1048576: true; the input reads as it did. -/
def evalShiftsUptoRow : OpenClaim := { program := "ytchgjkfnmifgkaa", sum := "9d43f585e3ad22ecd5fcfdda586fb4692b35a540f332d34a6b271503dd109d48", func := "thresher/thresherlaw8.EvalShifts", spec := "evalShifts", recurses := true, loops := true, apart := false, narrowed := true }
def EvalShiftsUptoSaid : Prop := evalShiftsUptoRow.holds Try.pinned (OpenSpec.upto evalShiftsSpec)

/-- 'thresherlaw8.EvalAsks', WHERE WHAT IT READS IS OF BULK AT MOST 1048576: true; the input reads as it did. -/
def evalAsksUptoRow : OpenClaim := { program := "ytchgjkfnmifgkaa", sum := "9d43f585e3ad22ecd5fcfdda586fb4692b35a540f332d34a6b271503dd109d48", func := "thresher/thresherlaw8.EvalAsks", spec := "evalAsks", recurses := true, loops := true, apart := false, narrowed := true }
def EvalAsksUptoSaid : Prop := evalAsksUptoRow.holds Try.pinned (OpenSpec.upto evalAsksSpec)

/-- 'thresherlaw8.EvalTurns', WHERE WHAT IT READS IS OF BULK AT MOST 1048576: true; the input reads as it did. -/
def evalTurnsUptoRow : OpenClaim := { program := "ytchgjkfnmifgkaa", sum := "9d43f585e3ad22ecd5fcfdda586fb4692b35a540f332d34a6b271503dd109d48", func := "thresher/thresherlaw8.EvalTurns", spec := "evalTurns", recurses := true, loops := true, apart := false, narrowed := true }
def EvalTurnsUptoSaid : Prop := evalTurnsUptoRow.holds Try.pinned (OpenSpec.upto evalTurnsSpec)

end Rows
end Go.Proofs.Ytchgjkfnmifgkaa
