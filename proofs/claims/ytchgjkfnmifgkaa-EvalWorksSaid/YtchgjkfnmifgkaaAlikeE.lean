/- Of two numbers, and of one, the program makes a number of 64 bits. -/
import Derived.Test.YtchgjkfnmifgkaaEvLaws
import Derived.Test.YtchgjkfnmifgkaaEvMath
import Derived.Test.YtchgjkfnmifgkaaEvRun
namespace Go.Proofs.Ytchgjkfnmifgkaa.QE
open Go.RowKit Go.Proofs.YtchgjkfnmifgkaaW.PrintWords Go.Proofs.YtchgjkfnmifgkaaW.PrintLast Go.Proofs.YtchgjkfnmifgkaaW.PrintMore Go.Proofs.Ytchgjkfnmifgkaa.Math
set_option linter.unusedVariables false
set_option linter.unusedSimpArgs false

theorem eshift_f (n by_ kind : Int) (hk : kind = 0 ∨ kind = 1 ∨ kind = 2) : num_Shift.f n by_ kind = some (shv kind n (by_ % 64), 0) := by
 unfold num_Shift.f
 rw [(by64 by_).1]
 have h0 : 0 ≤ by_ % 64 := by omega
 have h1 : by_ % 64 < 64 := by omega
 rcases hk with rfl | rfl | rfl
 ·
  rw [if_pos rfl, if_pos h0, shl_of h0 h1, shv0]
 ·
  rw [if_neg (by decide), if_pos rfl, if_pos h0, shr_of .i64 rfl h0 h1, shv1]
 ·
  rw [if_neg (by decide), if_neg (by decide), if_pos rfl, if_pos h0, shr_of .u64 rfl h0 h1, shv2, IntKind.wrap_u64]
theorem ecut_f (n b : Int) (s : Bool) (hb : b = 8 ∨ b = 16 ∨ b = 32) (k : Nat) : num_Cut.f (k + 3) n b s = some (cutv b s n, 0) := by
 unfold num_Cut.f cutv lows
 rcases hb with rfl | rfl | rfl <;> cases s <;> simp [num_Cut.j0, num_Cut.j1, num_Cut.j2, i8_of, i16_of, u16_of, i32_of]
theorem wrap_I64 (n : Int) : I64 (wrap64 n) := by unfold I64 wrap64; omega
theorem wrapk_I64 (n : Int) : I64 (IntKind.i64.wrap n) := by rw [IntKind.wrap_i64]; unfold I64; omega
theorem bits_I64 (o : BinOp) (n m : Int) : I64 (bits o .i64 n m) := by
 unfold bits
 exact wrapk_I64 _
theorem truth_I64 (c : Prop) [Decidable c] : I64 (if c then 1 else 0) := by unfold I64; split <;> omega
theorem cutv_I64 (b : Int) (s : Bool) (n : Int) : I64 (cutv b s n) := by
 unfold I64 cutv lows
 repeat (first | omega | split)

theorem tmod_I64 {n m : Int} (hn : I64 n) (hm : I64 m) (h0 : m ≠ 0) : I64 (Int.tmod n m) := by
 have h1 : (Int.tmod n m).natAbs = n.natAbs % m.natAbs := by rw [Int.natAbs_tmod]
 have h2 : n.natAbs % m.natAbs < m.natAbs := Nat.mod_lt _ (by omega)
 unfold I64 at *
 omega
theorem etwo_ev {k n m : Int} (h1 : 5 ≤ k) (h2 : k ≤ 17) (hn : I64 n) (hm : I64 m) : ∃ r, etwo k n m = some r ∧ I64 r := by
 have hk : k = 5 ∨ k = 6 ∨ k = 7 ∨ k = 8 ∨ k = 9 ∨ k = 10 ∨ k = 11 ∨ k = 12 ∨ k = 13 ∨ k = 14 ∨ k = 15 ∨ k = 16 ∨ k = 17 := by omega
 unfold etwo eval_two.f
 rcases hk with rfl | rfl | rfl | rfl | rfl | rfl | rfl | rfl | rfl | rfl | rfl | rfl | rfl
 ·
  exact ⟨_, by simp; rfl, wrap_I64 _⟩
 ·
  exact ⟨_, by simp; rfl, wrap_I64 _⟩
 ·
  exact ⟨_, by simp; rfl, wrap_I64 _⟩
 ·
  refine ⟨if m = 0 then 0 else wrap64 (Int.tdiv n m), ?_, ?_⟩
  ·
   by_cases c : m = 0 <;> simp [eval_two.j0, eval_parted.f, c]
  ·
   by_cases c : m = 0
   ·
    rw [if_pos c]; unfold I64; omega
   ·
    rw [if_neg c]; exact wrap_I64 _
 ·
  refine ⟨if m = 0 then 0 else Int.tmod n m, ?_, ?_⟩
  ·
   by_cases c : m = 0 <;> simp [eval_two.j0, eval_parted.f, c]
  ·
   by_cases c : m = 0
   ·
    rw [if_pos c]; unfold I64; omega
   ·
    rw [if_neg c]; exact tmod_I64 hn hm c
 ·
  exact ⟨_, by simp; rfl, bits_I64 _ _ _⟩
 ·
  exact ⟨_, by simp; rfl, bits_I64 _ _ _⟩
 ·
  exact ⟨_, by simp; rfl, bits_I64 _ _ _⟩
 ·
  have hw : wrap64 (0 : Int) = 0 := by unfold wrap64; omega
  exact ⟨shv 0 n (m % 64), by simp [eval_two.j0, hw, eshift_f n m 0 (.inl rfl)], shv_lo _ _ _ hn.1 hn.2⟩
 ·
  have hw : wrap64 (1 : Int) = 1 := by unfold wrap64; omega
  exact ⟨shv 1 n (m % 64), by simp [eval_two.j0, hw, eshift_f n m 1 (.inr (.inl rfl))], shv_lo _ _ _ hn.1 hn.2⟩
 ·
  have hw : wrap64 (2 : Int) = 2 := by unfold wrap64; omega
  exact ⟨shv 2 n (m % 64), by simp [eval_two.j0, hw, eshift_f n m 2 (.inr (.inr rfl))], shv_lo _ _ _ hn.1 hn.2⟩
 ·
  refine ⟨if n < m then 1 else 0, ?_, truth_I64 _⟩
  by_cases c : n < m <;> simp [eval_truth.f, c]
 ·
  refine ⟨if n = m then 1 else 0, ?_, truth_I64 _⟩
  by_cases c : n = m <;> simp [eval_truth.f, c]
theorem width_ok (k : Int) : width k = 8 ∨ width k = 16 ∨ width k = 32 := by
 unfold width
 by_cases d1 : k = 19 ∨ k = 22
 ·
  rw [if_pos d1]; exact .inl rfl
 ·
  rw [if_neg d1]
  by_cases d2 : k = 20 ∨ k = 23
  ·
   rw [if_pos d2]; exact .inr (.inl rfl)
  ·
   rw [if_neg d2]; exact .inr (.inr rfl)
theorem eone_ev {k n : Int} (h1 : 18 ≤ k) (h2 : k ≤ 24) (hn : I64 n) : ∃ r, eone k n = some r ∧ I64 r := by
 by_cases c : k = 18
 ·
  exact ⟨if n = 0 then 1 else 0, by unfold eone; rw [if_pos c], truth_I64 _⟩
 ·
  refine ⟨cutv (width k) (decide (k ≥ 22)) n, ?_, cutv_I64 _ _ _⟩
  unfold eone
  rw [if_neg c, ecut_f n _ _ (width_ok k) 6, Option.bind_some]
theorem alike_own : Alike etwo etwo eone eone := ⟨fun k n m h1 h2 h3 h4 => by obtain ⟨r, a, c⟩ := etwo_ev h1 h2 h3 h4; exact ⟨r, a, a, c⟩, fun k n h1 h2 h3 => by obtain ⟨r, a, c⟩ := eone_ev h1 h2 h3; exact ⟨r, a, a, c⟩⟩
end Go.Proofs.Ytchgjkfnmifgkaa.QE
