/-
  No cell of these rows narrows 'for every input' (looked for: loops, veiled, ifaces, maps, wideKeys, modest, calm, conditions, laid).
  DERIVED. THE GIVEN ROWS OF THIS SEAT. 5 by the template 'for every input the law returns true; each argument reads behind the call as it read before'; 0 by the template 'total and deterministic' (their statements: YtgchbhepnfnhpaaTotals.lean).
  GIVEN WITH THE SEED: the statements are not yours to turn. If you find one false, say at which input.
  Laid BY PROGRAM, IN A SANDBOX (cutbox-rows.mjs): the forced cells as the released guide's own fill.sh prints them over the translation 0d17b3a703e76550… (all of the seat's roots in one cut). By AI agents, Wed Nov 11 2026. No macro, syntax, notation, axiom, sorry.
-/
import Derived.Test.YtgchbhepnfnhpaaChecked
import GoSem.Claim
import GoSem.ClaimJoined
import GoSem.ClaimMapViews
import Derived.JoinedTies
import Derived.KernelRfl
namespace Go.Proofs.Ytgchbhepnfnhpaa
/- THE CELL 'sum', in the pinned program and in every row, IS THE sha256 OF THE DUMP (.gsa) THAT YtgchbhepnfnhpaaProg.lean LOADS. Nothing in Lean hashes anything: it is a label: what it is worth is what the hold of that sum in a sandbox is worth. -/
noncomputable def Try.pinned : Pinned := { name := "ytgchbhepnfnhpaa", sum := "0d17b3a703e76550eafb004868d49aac225c95345d17e16f0c38cf579849388f", checked := Try.checked }
namespace Rows
def none {H : Type} : Left H := { results := [], args := [] }

/-- 'thresherlaw4.RecBytes': WHATEVER THE INPUT: true; the input reads as it did. -/
def recBytesSpec : ChangeSpec := { name := "recBytes", fn := fun _ => fun
  | [d] => { results := [.lit (.bool true)], args := [d] }
  | _ => none }
def recBytesRow : OpenClaim := { program := "ytgchbhepnfnhpaa", sum := "0d17b3a703e76550eafb004868d49aac225c95345d17e16f0c38cf579849388f", func := "thresher/thresherlaw4.RecBytes", spec := "recBytes", apart := false }
def RecBytesSaid : Prop := recBytesRow.holds Try.pinned (OpenSpec.ofChange recBytesSpec)

/-- ITS FALSE NEIGHBOUR: 'it returns false'. Refute it at one input. -/
def recBytesWrong : ChangeSpec := { name := "recBytes", fn := fun _ => fun
  | [d] => { results := [.lit (.bool false)], args := [d] }
  | _ => none }
def RecBytesWrongFalsely : Prop := recBytesRow.holds Try.pinned (OpenSpec.ofChange recBytesWrong)

/-- 'thresherlaw4.RecAlls': WHATEVER THE INPUT: true; the input reads as it did. -/
def recAllsSpec : ChangeSpec := { name := "recAlls", fn := fun _ => fun
  | [d] => { results := [.lit (.bool true)], args := [d] }
  | _ => none }
def recAllsRow : OpenClaim := { program := "ytgchbhepnfnhpaa", sum := "0d17b3a703e76550eafb004868d49aac225c95345d17e16f0c38cf579849388f", func := "thresher/thresherlaw4.RecAlls", spec := "recAlls", apart := false }
def RecAllsSaid : Prop := recAllsRow.holds Try.pinned (OpenSpec.ofChange recAllsSpec)

/-- ITS FALSE NEIGHBOUR: 'it returns false'. Refute it at one input. -/
def recAllsWrong : ChangeSpec := { name := "recAlls", fn := fun _ => fun
  | [d] => { results := [.lit (.bool false)], args := [d] }
  | _ => none }
def RecAllsWrongFalsely : Prop := recAllsRow.holds Try.pinned (OpenSpec.ofChange recAllsWrong)

/-- 'thresherlaw4.RecBack': WHATEVER THE INPUT: true; the input reads as it did. -/
def recBackSpec : ChangeSpec := { name := "recBack", fn := fun _ => fun
  | [d] => { results := [.lit (.bool true)], args := [d] }
  | _ => none }
def recBackRow : OpenClaim := { program := "ytgchbhepnfnhpaa", sum := "0d17b3a703e76550eafb004868d49aac225c95345d17e16f0c38cf579849388f", func := "thresher/thresherlaw4.RecBack", spec := "recBack", apart := false }
def RecBackSaid : Prop := recBackRow.holds Try.pinned (OpenSpec.ofChange recBackSpec)

/-- ITS FALSE NEIGHBOUR: 'it returns false'. Refute it at one input. -/
def recBackWrong : ChangeSpec := { name := "recBack", fn := fun _ => fun
  | [d] => { results := [.lit (.bool false)], args := [d] }
  | _ => none }
def RecBackWrongFalsely : Prop := recBackRow.holds Try.pinned (OpenSpec.ofChange recBackWrong)

/-- 'thresherlaw12.SplitTurns': WHATEVER THE INPUT: true; the input reads as it did. -/
def splitTurnsSpec : ChangeSpec := { name := "splitTurns", fn := fun _ => fun
  | [d] => { results := [.lit (.bool true)], args := [d] }
  | _ => none }
def splitTurnsRow : OpenClaim := { program := "ytgchbhepnfnhpaa", sum := "0d17b3a703e76550eafb004868d49aac225c95345d17e16f0c38cf579849388f", func := "thresher/thresherlaw12.SplitTurns", spec := "splitTurns", apart := false }
def SplitTurnsSaid : Prop := splitTurnsRow.holds Try.pinned (OpenSpec.ofChange splitTurnsSpec)

/-- ITS FALSE NEIGHBOUR: 'it returns false'. Refute it at one input. -/
def splitTurnsWrong : ChangeSpec := { name := "splitTurns", fn := fun _ => fun
  | [d] => { results := [.lit (.bool false)], args := [d] }
  | _ => none }
def SplitTurnsWrongFalsely : Prop := splitTurnsRow.holds Try.pinned (OpenSpec.ofChange splitTurnsWrong)

/-- 'thresherlaw12.SplitFinds': WHATEVER THE INPUT: true; the input reads as it did. -/
def splitFindsSpec : ChangeSpec := { name := "splitFinds", fn := fun _ => fun
  | [d] => { results := [.lit (.bool true)], args := [d] }
  | _ => none }
def splitFindsRow : OpenClaim := { program := "ytgchbhepnfnhpaa", sum := "0d17b3a703e76550eafb004868d49aac225c95345d17e16f0c38cf579849388f", func := "thresher/thresherlaw12.SplitFinds", spec := "splitFinds", apart := false }
def SplitFindsSaid : Prop := splitFindsRow.holds Try.pinned (OpenSpec.ofChange splitFindsSpec)

/-- ITS FALSE NEIGHBOUR: 'it returns false'. Refute it at one input. -/
def splitFindsWrong : ChangeSpec := { name := "splitFinds", fn := fun _ => fun
  | [d] => { results := [.lit (.bool false)], args := [d] }
  | _ => none }
def SplitFindsWrongFalsely : Prop := splitFindsRow.holds Try.pinned (OpenSpec.ofChange splitFindsWrong)

/- THE SECOND FORM. 'bulk': how many values and letters a reading holds, each counted each time it is reached (what is shared counts as often as it is met; a slice's spare places count too). A statement '..UptoSaid' is the law's where the arguments, and the package variables that the reading takes, are together of bulk at most 1048576: NARROWER than '..Said'. Prove '..Said' where nothing that the law and all that it calls make is longer than what came in: it says more and counts as full. Else prove '..UptoSaid'. A law counts once. -/
mutual
def uptoBulk {H : Type} : DataW H → Nat
  | .lit (.string bytes) => bytes.length + 1
  | .lit _ => 1
  | .nil => 1
  | .ptr d => uptoBulk d + 1
  | .slice elems spare => uptoBulkAll elems + uptoBulkAll spare + 1
  | .agg parts => uptoBulkAll parts + 1
  | .iface _ d => uptoBulk d + 1
  | .map entries => uptoBulkEntries entries + 1
  | .held _ => 1
def uptoBulkAll {H : Type} : List (DataW H) → Nat
  | [] => 0
  | d :: r => uptoBulk d + uptoBulkAll r
def uptoBulkEntries {H : Type} : List (Lit × DataW H) → Nat
  | [] => 0
  | x :: r => uptoBulkEntry x + uptoBulkEntries r
def uptoBulkEntry {H : Type} : Lit × DataW H → Nat
  | (.string bytes, d) => bytes.length + uptoBulk d + 1
  | (_, d) => uptoBulk d + 1
 end
def uptoSmall : (H : Type) → List (DataW H) → Bool := fun _ ds => decide (uptoBulkAll ds ≤ 1048576)
def OpenSpec.upto (s : _root_.Go.ChangeSpec) : _root_.Go.OpenSpec := { _root_.Go.OpenSpec.ofChange s with cond := some uptoSmall }

/-- 'thresherlaw4.RecBytes', WHERE WHAT IT READS IS OF BULK AT MOST 1048576: true; the input reads as it did. -/
def recBytesUptoRow : OpenClaim := { program := "ytgchbhepnfnhpaa", sum := "0d17b3a703e76550eafb004868d49aac225c95345d17e16f0c38cf579849388f", func := "thresher/thresherlaw4.RecBytes", spec := "recBytes", apart := false, narrowed := true }
def RecBytesUptoSaid : Prop := recBytesUptoRow.holds Try.pinned (OpenSpec.upto recBytesSpec)

/-- 'thresherlaw4.RecAlls', WHERE WHAT IT READS IS OF BULK AT MOST 1048576: true; the input reads as it did. -/
def recAllsUptoRow : OpenClaim := { program := "ytgchbhepnfnhpaa", sum := "0d17b3a703e76550eafb004868d49aac225c95345d17e16f0c38cf579849388f", func := "thresher/thresherlaw4.RecAlls", spec := "recAlls", apart := false, narrowed := true }
def RecAllsUptoSaid : Prop := recAllsUptoRow.holds Try.pinned (OpenSpec.upto recAllsSpec)

/-- 'thresherlaw4.RecBack', WHERE WHAT IT READS IS OF BULK AT MOST 1048576: true; the input reads as it did. -/
def recBackUptoRow : OpenClaim := { program := "ytgchbhepnfnhpaa", sum := "0d17b3a703e76550eafb004868d49aac225c95345d17e16f0c38cf579849388f", func := "thresher/thresherlaw4.RecBack", spec := "recBack", apart := false, narrowed := true }
def RecBackUptoSaid : Prop := recBackUptoRow.holds Try.pinned (OpenSpec.upto recBackSpec)

/-- 'thresherlaw12.SplitTurns', WHERE WHAT IT READS IS OF BULK AT MOST 1048576: true; the input reads as it did. -/
def splitTurnsUptoRow : OpenClaim := { program := "ytgchbhepnfnhpaa", sum := "0d17b3a703e76550eafb004868d49aac225c95345d17e16f0c38cf579849388f", func := "thresher/thresherlaw12.SplitTurns", spec := "splitTurns", apart := false, narrowed := true }
def SplitTurnsUptoSaid : Prop := splitTurnsUptoRow.holds Try.pinned (OpenSpec.upto splitTurnsSpec)

/-- 'thresherlaw12.SplitFinds', WHERE WHAT IT READS IS OF BULK AT MOST 1048576: true; the input reads as it did. -/
def splitFindsUptoRow : OpenClaim := { program := "ytgchbhepnfnhpaa", sum := "0d17b3a703e76550eafb004868d49aac225c95345d17e16f0c38cf579849388f", func := "thresher/thresherlaw12.SplitFinds", spec := "splitFinds", apart := false, narrowed := true }
def SplitFindsUptoSaid : Prop := splitFindsUptoRow.holds Try.pinned (OpenSpec.upto splitFindsSpec)

end Rows
end Go.Proofs.Ytgchbhepnfnhpaa
