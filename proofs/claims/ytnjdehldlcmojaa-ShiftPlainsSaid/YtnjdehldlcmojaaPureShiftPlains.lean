/- The law ShiftPlains, in plain numbers: any number shifted one way, place by place, against doubling and halving. -/
import Derived.Test.YtnjdehldlcmojaaPrShiftPlains
import Derived.Test.YtnjdehldlcmojaaGlShiftPlains
import Derived.Test.YtnjdehldlcmojaaMath2
namespace Go.Proofs.Ytnjdehldlcmojaa.PShiftPlains.Pure
open Go.RowKit Go.Proofs.Ytnjdehldlcmojaa Go.Proofs.YtnjdehldlcmojaaW.PrintWords Go.Proofs.YtnjdehldlcmojaaW.PrintLast Go.Proofs.YtnjdehldlcmojaaW.PrintMore Go.Proofs.Ytnjdehldlcmojaa.Math Go.Proofs.Ytnjdehldlcmojaa.PShiftPlains
set_option linter.unusedVariables false
set_option linter.unusedSimpArgs false

theorem good_rd {l : List S25} (h : ∀ y ∈ l, Good25 y) {i : Int} (h0 : 0 ≤ i) (h1 : i < l.length) : Good25 (rd_T25 l i) := by
  unfold rd_T25
  have hl : i.toNat < l.length := by omega
  rw [List.getD_eq_getElem?_getD, List.getElem?_eq_getElem hl]
  exact h _ (List.getElem_mem hl)

theorem shift_f (n by_ kind : Int) (hk : kind = 0 ∨ kind = 1 ∨ kind = 2) : num_Shift.f n by_ kind = some (shv kind n (by_ % 64), 0) := by
  unfold num_Shift.f
  rw [(by64 by_).1]
  have h0 : 0 ≤ by_ % 64 := by omega
  have h1 : by_ % 64 < 64 := by omega
  rcases hk with rfl | rfl | rfl
  · rw [if_pos rfl, if_pos h0, shl_of h0 h1, shv0]
  · rw [if_neg (by decide), if_pos rfl, if_pos h0, shr_of .i64 rfl h0 h1, shv1]
  · rw [if_neg (by decide), if_neg (by decide), if_pos rfl, if_pos h0, shr_of .u64 rfl h0 h1, shv2, IntKind.wrap_u64]

theorem shift_l1 (l : List S25) (i : Int) (n : Int) (h0 : -9223372036854775808 ≤ n) (h1 : n ≤ 9223372036854775807) (rest : Ev (fun k => thresherlaw1_shift.l0 k l 2 (wrap64 (i + 1))) true) :
    ∀ (d : Nat) (j : Int), 0 ≤ j → j ≤ 64 → 64 - j = d → Ev (fun k => thresherlaw1_shift.l1 k l 2 i n j) true := by
  intro d
  induction d with
  | zero =>
    intro j hj0 hj1 hd
    refine Ev.step (f := fun k => thresherlaw1_shift.l0 k l 2 (wrap64 (i + 1))) (fun k => ?_) rest
    simp only [thresherlaw1_shift.l1]
    rw [if_neg (by omega)]
  | succ d ih =>
    intro j hj0 hj1 hd
    have hj : j < 64 := by omega
    obtain ⟨v0, v1⟩ := shv_lo 2 n j h0 h1
    obtain ⟨t0, t1, t2⟩ := shv_twice v0 v1
    have hs := shv_succ 2 n j (by decide) hj0
    refine Ev.step (f := fun k => thresherlaw1_shift.j3 k l 2 i n j (shv 2 n j) false) (fun k => ?_) ?_
    · simp only [thresherlaw1_shift.l1]
      rw [if_pos hj, shift_f n j 2 (by decide), shift_f n _ 2 (by decide), w64 (by omega) (by omega), show (j - 64) % 64 = j % 64 by omega, show j % 64 = j by omega]
      simp
    · refine Ev.step (f := fun k => thresherlaw1_shift.j4 k l 2 i n j (shv 2 n j) (shv 2 (shv 2 n j) 1) false) (fun k => ?_) ?_
      · simp only [thresherlaw1_shift.j3]
        rw [if_neg (by decide), shift_f _ 1 2 (by decide), shift_f n _ 2 (by decide), w64 (by omega) (by omega), show (1 : Int) % 64 = 1 from rfl]
        by_cases h63 : j = 63
        · subst h63
          rw [show ((63 : Int) + 1) % 64 = 0 from rfl, shv_zero 2 n h0 h1]
          simp
        · rw [show (j + 1) % 64 = j + 1 by omega, hs]
          simp [h63, show j < 63 by omega]
      · refine Ev.step (f := fun k => thresherlaw1_shift.l1 k l 2 i n (wrap64 (j + 1))) (fun k => ?_) ?_
        · simp only [thresherlaw1_shift.j4]
          rw [if_neg (by decide)]
          simp [t0, t1, t2]
        · rw [w64 (by omega) (by omega)]
          exact ih (j + 1) (by omega) (by omega) (by omega)

theorem shift_l0 (l : List S25) (hl : ∀ y ∈ l, Good25 y) : ∀ (d : Nat) (i : Int), 0 ≤ i → i ≤ 15 → 15 - i ≤ d → Ev (fun k => thresherlaw1_shift.l0 k l 2 i) true := by
  have hend : ∀ i, Ev (fun k => thresherlaw1_shift.j1 k l 2 i false) true := by
    intro i
    refine Ev.step (f := fun k => (thresherlaw1_wakes.f k).bind fun t => some t) (fun k => ?_) ?_
    · simp only [thresherlaw1_shift.j1]
      rw [if_neg (by decide)]
    · exact Ev.bind (f := fun _ t => some t) wakes_ev (Ev.now _)
  intro d
  induction d with
  | zero =>
    intro i h0 h1 hd
    refine Ev.step (f := fun k => thresherlaw1_shift.j1 k l 2 i false) (fun k => ?_) (hend i)
    simp only [thresherlaw1_shift.l0]
    rw [show decide (i < 15) = false by simp; omega]
    split <;> rfl
  | succ d ih =>
    intro i h0 h1 hd
    by_cases hc : i < l.length ∧ i < 15
    · refine Ev.step (f := fun k => thresherlaw1_shift.j1 k l 2 i true) (fun k => ?_) ?_
      · simp only [thresherlaw1_shift.l0]
        rw [if_pos hc.1, show decide (i < 15) = true by simp; omega]
      · refine Ev.step (f := fun k => thresherlaw1_shift.l1 k l 2 i (rd_T25 l i).f0 0) (fun k => ?_) ?_
        · simp only [thresherlaw1_shift.j1, if_true]
          rw [if_pos h0, if_pos hc.1]
        · obtain ⟨hg, _⟩ := good_rd hl h0 hc.1
          have hx := wf_i64 hg
          refine shift_l1 l i _ hx.1 hx.2 ?_ 64 0 (by omega) (by omega) (by omega)
          rw [w64 (by omega) (by omega)]
          exact ih (i + 1) (by omega) (by omega) (by omega)
    · refine Ev.step (f := fun k => thresherlaw1_shift.j1 k l 2 i false) (fun k => ?_) (hend i)
      simp only [thresherlaw1_shift.l0]
      by_cases h : i < (l.length : Int)
      · rw [if_pos h, show decide (i < 15) = false by simp; omega]
      · rw [if_neg h]

theorem ShiftPlains : ShiftPlainsPure := by
  intro l hl
  have h := shift_l0 l hl.2.2 15 0 (by omega) (by omega) (by omega)
  obtain ⟨k, hk⟩ := h.rounds
  refine ⟨k, ?_⟩
  unfold thresherlaw1_ShiftPlains.f thresherlaw1_shift.f
  rw [hk]
  rfl
end Go.Proofs.Ytnjdehldlcmojaa.PShiftPlains.Pure
