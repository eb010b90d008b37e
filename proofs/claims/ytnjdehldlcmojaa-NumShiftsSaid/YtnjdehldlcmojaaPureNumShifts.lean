/- The law NumShifts, in plain numbers: any number shifted by any other one, each way, is the page's, or refused. -/
import Derived.Test.YtnjdehldlcmojaaPrNumShifts
import Derived.Test.YtnjdehldlcmojaaGlNumShifts
import Derived.Test.YtnjdehldlcmojaaMath2
namespace Go.Proofs.Ytnjdehldlcmojaa.PNumShifts.Pure
open Go.RowKit Go.Proofs.Ytnjdehldlcmojaa Go.Proofs.YtnjdehldlcmojaaW.PrintWords Go.Proofs.YtnjdehldlcmojaaW.PrintLast Go.Proofs.YtnjdehldlcmojaaW.PrintMore Go.Proofs.Ytnjdehldlcmojaa.Math Go.Proofs.Ytnjdehldlcmojaa.PNumShifts
set_option linter.unusedVariables false
set_option linter.unusedSimpArgs false

theorem shift_f (n by_ kind : Int) (hk : kind = 0 ∨ kind = 1 ∨ kind = 2) : num_Shift.f n by_ kind = some (shv kind n (by_ % 64), 0) := by
  unfold num_Shift.f
  rw [(by64 by_).1]
  have h0 : 0 ≤ by_ % 64 := by omega
  have h1 : by_ % 64 < 64 := by omega
  rcases hk with rfl | rfl | rfl
  · rw [if_pos rfl, if_pos h0, shl_of h0 h1, shv0]
  · rw [if_neg (by decide), if_pos rfl, if_pos h0, shr_of .i64 rfl h0 h1, shv1]
  · rw [if_neg (by decide), if_neg (by decide), if_pos rfl, if_pos h0, shr_of .u64 rfl h0 h1, shv2, IntKind.wrap_u64]
theorem shift_no (n by_ kind : Int) (hk : ¬ (kind = 0 ∨ kind = 1 ∨ kind = 2)) : num_Shift.f n by_ kind = some (0, 1) := by
  unfold num_Shift.f
  rw [if_neg (by omega), if_neg (by omega), if_neg (by omega)]
theorem refshift_f (n by_ kind : Int) (hk : kind = 0 ∨ kind = 1 ∨ kind = 2) : thresherref1_Shift.f n by_ kind = some (shv kind n (by_ % 64)) := by
  unfold thresherref1_Shift.f
  rw [(by64 by_).2]
  have h0 : 0 ≤ by_ % 64 := by omega
  have h1 : by_ % 64 < 64 := by omega
  rcases hk with rfl | rfl | rfl
  · rw [if_pos rfl, if_pos h0, shl_of h0 h1, shv0]
  · rw [if_neg (by decide), if_pos rfl, if_pos h0, shr_of .i64 rfl h0 h1, shv1]
  · rw [if_neg (by decide), if_neg (by decide), if_pos h0, shr_of .u64 rfl h0 h1, shv2, IntKind.wrap_u64]
theorem may_f (kind : Int) : thresherref0_Num.f kind 2 = some (decide (kind = 0 ∨ kind = 1 ∨ kind = 2)) := by
  unfold thresherref0_Num.f
  by_cases h : kind ≥ 0
  · rw [if_pos h]
    congr 1
    rw [decide_eq_decide]
    omega
  · rw [if_neg h]
    congr 1
    rw [eq_comm, decide_eq_false_iff_not]
    omega

theorem shifts_l2 (l : List S25) (i kind : Int) (hi0 : 0 ≤ i) (hi : i < l.length) (rest : Ev (fun k => thresherlaw1_NumShifts.l1 k l i (wrap64 (kind + 1))) true) :
    ∀ (d : Nat) (j : Int), 0 ≤ j → j ≤ 3 → 3 - j = d → Ev (fun k => thresherlaw1_NumShifts.l2 k l i kind j) true := by
  intro d
  induction d with
  | zero =>
    intro j hj0 hj1 hd
    refine Ev.step (f := fun k => thresherlaw1_NumShifts.l1 k l i (wrap64 (kind + 1))) (fun k => ?_) rest
    simp only [thresherlaw1_NumShifts.l2]
    rw [if_neg (by omega)]
  | succ d ih =>
    intro j hj0 hj1 hd
    refine Ev.step (f := fun k => thresherlaw1_NumShifts.l2 k l i kind (wrap64 (j + 1))) (fun k => ?_) ?_
    · simp only [thresherlaw1_NumShifts.l2]
      rw [if_pos (by omega), if_pos hi0, if_pos hi]
      simp only [Option.bind_some]
      rw [if_pos hj0, if_pos (by simp; omega), may_f]
      by_cases hk : kind = 0 ∨ kind = 1 ∨ kind = 2
      · rw [shift_f _ _ _ hk, refshift_f _ _ _ hk]
        simp [hk]
      · rw [shift_no _ _ _ hk]
        simp [hk]
    · rw [w64 (by omega) (by omega)]
      exact ih (j + 1) (by omega) (by omega) (by omega)

theorem shifts_l1 (l : List S25) (i : Int) (hi0 : 0 ≤ i) (hi : i < l.length) (rest : Ev (fun k => thresherlaw1_NumShifts.l0 k l (wrap64 (i + 1))) true) :
    ∀ (d : Nat) (j : Int), -1 ≤ j → j ≤ 4 → 4 - j = d → Ev (fun k => thresherlaw1_NumShifts.l1 k l i j) true := by
  intro d
  induction d with
  | zero =>
    intro j hj0 hj1 hd
    refine Ev.step (f := fun k => thresherlaw1_NumShifts.l0 k l (wrap64 (i + 1))) (fun k => ?_) rest
    simp only [thresherlaw1_NumShifts.l1]
    rw [if_neg (by omega)]
  | succ d ih =>
    intro j hj0 hj1 hd
    refine Ev.step (f := fun k => thresherlaw1_NumShifts.l2 k l i j 0) (fun k => ?_) ?_
    · simp only [thresherlaw1_NumShifts.l1]
      rw [if_pos (by omega)]
    · refine shifts_l2 l i j hi0 hi ?_ 3 0 (by omega) (by omega) (by omega)
      rw [w64 (by omega) (by omega)]
      exact ih (j + 1) (by omega) (by omega) (by omega)

theorem shifts_l0 (l : List S25) : ∀ (d : Nat) (i : Int), 0 ≤ i → i ≤ 15 → 15 - i ≤ d → Ev (fun k => thresherlaw1_NumShifts.l0 k l i) true := by
  have hend : ∀ i, Ev (fun k => thresherlaw1_NumShifts.j1 k l i false) true := by
    intro i
    refine Ev.step (f := fun k => (thresherlaw1_wakes.f k).bind fun t => some t) (fun k => ?_) ?_
    · simp only [thresherlaw1_NumShifts.j1]
      rw [if_neg (by decide)]
    · exact Ev.bind (f := fun _ t => some t) wakes_ev (Ev.now _)
  intro d
  induction d with
  | zero =>
    intro i h0 h1 hd
    refine Ev.step (f := fun k => thresherlaw1_NumShifts.j1 k l i false) (fun k => ?_) (hend i)
    simp only [thresherlaw1_NumShifts.l0]
    rw [show decide (i < 15) = false by simp; omega]
    split <;> rfl
  | succ d ih =>
    intro i h0 h1 hd
    by_cases hc : i < l.length ∧ i < 15
    · refine Ev.step (f := fun k => thresherlaw1_NumShifts.j1 k l i true) (fun k => ?_) ?_
      · simp only [thresherlaw1_NumShifts.l0]
        rw [if_pos hc.1, show decide (i < 15) = true by simp; omega]
      · refine Ev.step (f := fun k => thresherlaw1_NumShifts.l1 k l i (-1)) (fun k => ?_) ?_
        · simp only [thresherlaw1_NumShifts.j1, if_true]
        · refine shifts_l1 l i h0 hc.1 ?_ 5 (-1) (by omega) (by omega) (by omega)
          rw [w64 (by omega) (by omega)]
          exact ih (i + 1) (by omega) (by omega) (by omega)
    · refine Ev.step (f := fun k => thresherlaw1_NumShifts.j1 k l i false) (fun k => ?_) (hend i)
      simp only [thresherlaw1_NumShifts.l0]
      by_cases h : i < (l.length : Int)
      · rw [if_pos h, show decide (i < 15) = false by simp; omega]
      · rw [if_neg h]

theorem NumShifts : NumShiftsPure := by
  intro l hl
  exact (shifts_l0 l 15 0 (by omega) (by omega) (by omega)).rounds
end Go.Proofs.Ytnjdehldlcmojaa.PNumShifts.Pure
