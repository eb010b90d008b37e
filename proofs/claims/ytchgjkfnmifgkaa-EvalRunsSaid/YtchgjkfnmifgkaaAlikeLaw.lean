/- Of two numbers, and of one, the program and the page make the same. -/
import Derived.Test.YtchgjkfnmifgkaaAlikeE
import Derived.Test.YtchgjkfnmifgkaaEvRef
namespace Go.Proofs.Ytchgjkfnmifgkaa.QE
open Go.RowKit Go.Proofs.YtchgjkfnmifgkaaW.PrintWords Go.Proofs.YtchgjkfnmifgkaaW.PrintLast Go.Proofs.YtchgjkfnmifgkaaW.PrintMore Go.Proofs.Ytchgjkfnmifgkaa.Math
set_option linter.unusedVariables false
set_option linter.unusedSimpArgs false

theorem rshift_f (n by_ kind : Int) (hk : kind = 0 ∨ kind = 1 ∨ kind = 2) : thresherref1_Shift.f n by_ kind = some (shv kind n (by_ % 64)) := by
 unfold thresherref1_Shift.f
 rw [(by64 by_).2]
 have h0 : 0 ≤ by_ % 64 := by omega
 have h1 : by_ % 64 < 64 := by omega
 rcases hk with rfl | rfl | rfl
 ·
  rw [if_pos rfl, if_pos h0, shl_of h0 h1, shv0]
 ·
  rw [if_neg (by decide), if_pos rfl, if_pos h0, shr_of .i64 rfl h0 h1, shv1]
 ·
  rw [if_neg (by decide), if_neg (by decide), if_pos h0, shr_of .u64 rfl h0 h1, shv2, IntKind.wrap_u64]
theorem rcut_f (n b : Int) (s : Bool) (hb : b = 8 ∨ b = 16 ∨ b = 32) : thresherref1_Cut.f n b s = some (cutv b s n) := by
 obtain ⟨i, hi, rfl⟩ : ∃ i : Nat, (i = 8 ∨ i = 16 ∨ i = 32) ∧ b = (i : Int) := by
  rcases hb with rfl | rfl | rfl
  ·
   exact ⟨8, by simp, rfl⟩
  ·
   exact ⟨16, by simp, rfl⟩
  ·
   exact ⟨32, by simp, rfl⟩
 obtain ⟨hm, hr⟩ := ref_cut n i hi
 have hp : (0 : Int) < 2 ^ i := Int.pow_pos (by decide)
 obtain ⟨ho, hs⟩ := hr (n % 2 ^ i) (Int.emod_nonneg _ (by omega)) (Int.emod_lt_of_pos _ hp)
 unfold thresherref1_Cut.f
 rw [hm, if_pos (by omega), hs, ho]
 cases s
 ·
  rw [if_neg (by decide)]
  unfold cutv lows
  rcases hi with rfl | rfl | rfl <;> simp <;> unfold wrap64 <;> omega
 ·
  rw [if_pos rfl, if_pos (by rw [w64 (by omega) (by omega)]; omega)]
  unfold cutv
  rcases hi with rfl | rfl | rfl <;> simp <;> split <;> simp <;> unfold wrap64 <;> omega

theorem neg_one {n : Int} (hn : I64 n) : wrap64 (IntKind.u64.wrap ((bits .xor .u64 18446744073709551615 (IntKind.u64.wrap n)) + 1)) = wrap64 (Int.tdiv n (-1)) ∧ Int.tmod n (-1) = 0 := by
 have h0 : 0 ≤ IntKind.u64.wrap n := by rw [IntKind.wrap_u64]; omega
 have h1 : IntKind.u64.wrap n < 18446744073709551616 := by rw [IntKind.wrap_u64]; omega
 constructor
 ·
  rw [xor_comm, xoru_ones _ h0 h1, Int.tdiv_neg, Int.tdiv_one, IntKind.wrap_u64, IntKind.wrap_u64]
  unfold wrap64
  omega
 ·
  rw [Int.tmod_neg, Int.tmod_one]
theorem rdivide_f {n m : Int} (hn : I64 n) : thresherref6_divide.f n m = some (if m = 0 then 0 else wrap64 (Int.tdiv n m), if m = 0 then 0 else Int.tmod n m) := by
 unfold thresherref6_divide.f
 by_cases c : m = 0
 ·
  rw [if_pos c, if_pos c, if_pos c]
 ·
  rw [if_neg c, if_neg c, if_neg c]
  by_cases c2 : m = -1
  ·
   subst c2
   rw [if_pos rfl, (neg_one hn).1, (neg_one hn).2]
  ·
   rw [if_neg c2]

theorem alike : Alike etwo rtwo eone rone where
 two_ := by
  intro k n m h1 h2 hn hm
  have hd : thresherref6_divide.f n m = some (if m = 0 then 0 else wrap64 (Int.tdiv n m), if m = 0 then 0 else Int.tmod n m) := rdivide_f hn
  have hk : k = 5 ∨ k = 6 ∨ k = 7 ∨ k = 8 ∨ k = 9 ∨ k = 10 ∨ k = 11 ∨ k = 12 ∨ k = 13 ∨ k = 14 ∨ k = 15 ∨ k = 16 ∨ k = 17 := by omega
  unfold etwo rtwo eval_two.f thresherref6_binary.f
  rw [hd, Option.bind_some]
  rcases hk with rfl | rfl | rfl | rfl | rfl | rfl | rfl | rfl | rfl | rfl | rfl | rfl | rfl
  ·
   exact ⟨_, by simp; rfl, by simp, wrap_I64 _⟩
  ·
   exact ⟨_, by simp; rfl, by simp, wrap_I64 _⟩
  ·
   exact ⟨_, by simp; rfl, by simp, wrap_I64 _⟩
  ·
   refine ⟨if m = 0 then 0 else wrap64 (Int.tdiv n m), ?_, by simp, ?_⟩
   ·
    by_cases c : m = 0 <;> simp [eval_two.j0, eval_parted.f, c]
   ·
    by_cases c : m = 0
    ·
     rw [if_pos c]; unfold I64; omega
    ·
     rw [if_neg c]; exact wrap_I64 _
  ·
   refine ⟨if m = 0 then 0 else Int.tmod n m, ?_, by simp, ?_⟩
   ·
    by_cases c : m = 0 <;> simp [eval_two.j0, eval_parted.f, c]
   ·
    by_cases c : m = 0
    ·
     rw [if_pos c]; unfold I64; omega
    ·
     rw [if_neg c]; exact tmod_I64 hn hm c
  ·
   exact ⟨_, by simp; rfl, by simp, bits_I64 _ _ _⟩
  ·
   exact ⟨_, by simp; rfl, by simp, bits_I64 _ _ _⟩
  ·
   exact ⟨_, by simp; rfl, by simp, bits_I64 _ _ _⟩
  ·
   have hw : wrap64 (0 : Int) = 0 := by unfold wrap64; omega
   exact ⟨shv 0 n (m % 64), by simp [eval_two.j0, hw, eshift_f n m 0 (.inl rfl)], by simp [rshift_f n m 0 (.inl rfl)], shv_lo _ _ _ hn.1 hn.2⟩
  ·
   have hw : wrap64 (1 : Int) = 1 := by unfold wrap64; omega
   exact ⟨shv 1 n (m % 64), by simp [eval_two.j0, hw, eshift_f n m 1 (.inr (.inl rfl))], by simp [rshift_f n m 1 (.inr (.inl rfl))], shv_lo _ _ _ hn.1 hn.2⟩
  ·
   have hw : wrap64 (2 : Int) = 2 := by unfold wrap64; omega
   exact ⟨shv 2 n (m % 64), by simp [eval_two.j0, hw, eshift_f n m 2 (.inr (.inr rfl))], by simp [rshift_f n m 2 (.inr (.inr rfl))], shv_lo _ _ _ hn.1 hn.2⟩
  ·
   refine ⟨if n < m then 1 else 0, ?_, ?_, truth_I64 _⟩
   ·
    by_cases c : n < m <;> simp [eval_truth.f, c]
   ·
    by_cases c : n < m <;> simp [thresherref6_truth.f, c]
  ·
   refine ⟨if n = m then 1 else 0, ?_, ?_, truth_I64 _⟩
   ·
    by_cases c : n = m <;> simp [eval_truth.f, c]
   ·
    by_cases c : n = m <;> simp [thresherref6_truth.f, c]
 one_ := by
  intro k n h1 h2 hn
  by_cases c : k = 18
  ·
   exact ⟨if n = 0 then 1 else 0, by unfold eone; rw [if_pos c], by unfold rone; rw [if_pos c], truth_I64 _⟩
  ·
   have hw := width_ok k
   refine ⟨cutv (width k) (decide (k ≥ 22)) n, ?_, ?_, cutv_I64 _ _ _⟩
   ·
    unfold eone
    rw [if_neg c, ecut_f n _ _ hw 6, Option.bind_some]
   ·
    unfold rone
    rw [if_neg c]
    exact rcut_f n (width k) _ hw

theorem mayrun_f (a : Int) (b : ByteArray) (v fu : Int) : thresherref6_MayRun.f a b v fu = some (decide ((b.size : Int) ≤ 64 ∧ 0 ≤ fu ∧ fu ≤ 2000)) := by
 unfold thresherref6_MayRun.f thresherref3_Key.f thresherref0_Num.f
 rw [Option.bind_some]
 by_cases c : (b.size : Int) ≤ 64
 ·
  rw [if_pos (decide_eq_true c)]
  by_cases c2 : fu ≥ 0
  ·
   rw [if_pos c2, Option.bind_some, decide_eq_decide.mpr]
   exact ⟨fun h => ⟨c, c2, h⟩, fun h => h.2.2⟩
  ·
   rw [if_neg c2, Option.bind_some, decide_eq_false (fun h => c2 h.2.1)]
 ·
  rw [if_neg (by simpa using c), decide_eq_false (fun h => c h.1)]
end Go.Proofs.Ytchgjkfnmifgkaa.QE
