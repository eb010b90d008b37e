/- slices.Reverse of two numbers, by hand. -/
import Derived.Test.YtchgjkfnmifgkaaQEx0
import Derived.BigRegion
namespace Go.Proofs.Ytchgjkfnmifgkaa.QE
open Go.RowKit Go.Proofs.YtchgjkfnmifgkaaW.PrintWords Go.Proofs.YtchgjkfnmifgkaaW.PrintLast Go.Proofs.YtchgjkfnmifgkaaW.PrintMore
set_option linter.unusedVariables false
set_option linter.unusedSimpArgs false

set_option maxHeartbeats 8000000 in
set_option maxRecDepth 100000 in
theorem rev2.calls (w : World) (gs m c : Nat) (p q : Int) (h0 : w.cell? ⟨gs, m, none⟩ = some (.int .i64 p)) (h1 : w.cell? ⟨gs, m + 1, none⟩ = some (.int .i64 q)) (f0 : w.frozen? ⟨gs, m, none⟩ = false) (f1 : w.frozen? ⟨gs, m + 1, none⟩ = false) (hc : 2 ≤ c) :
    Calls Try.prog 62 #[.slice (some ⟨gs, m, none⟩) 2 c] w fun e w' => e = .returned (.tuple #[]) ∧ Drawn0 ((w.setCell ⟨gs, m, none⟩ (.int .i64 q)).setCell ⟨gs, m + 1, none⟩ (.int .i64 p)) w' := by
  go_enter Try.func62, Try.ntmps62
  go_wp2
  go_loopg [2, 3] 1 (fun kq v2 v3 w' => (kq = 1 ∧ v2 = .int .i64 0 ∧ v3 = .int .i64 1 ∧ Aside0 (w' = w)) ∨ (kq = 0 ∧ v2 = .int .i64 1 ∧ v3 = .int .i64 0 ∧ Drawn0 ((w.setCell ⟨gs, m, none⟩ (.int .i64 q)).setCell ⟨gs, m + 1, none⟩ (.int .i64 p)) w'))
  case atStart => exact .inl ⟨rfl, rfl, rfl, ⟨rfl⟩⟩
  case round =>
    rcases hrel with ⟨rfl, rfl, rfl, hw⟩ | ⟨rfl, rfl, rfl, hw⟩
    · obtain rfl := hw.out
      go_wp2
      go_region
      go_wp2
      go_roundg 0
      case measure => omega
      case rel => exact .inr ⟨rfl, rfl, rfl, ⟨⟨1, rfl⟩⟩⟩
    · go_wp2
      go_end0
      exact ⟨rfl, hw⟩
end Go.Proofs.Ytchgjkfnmifgkaa.QE
