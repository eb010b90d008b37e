/- The law CutSigns32, in plain numbers: any number cut to so many bits is what a conversion makes of it, and the page's. -/
import Derived.Test.YtnjdehldlcmojaaPrCutSigns32
import Derived.Test.YtnjdehldlcmojaaGlCutSigns32
import Derived.Test.YtnjdehldlcmojaaMath2
namespace Go.Proofs.Ytnjdehldlcmojaa.PCutSigns32.Pure
open Go.RowKit Go.Proofs.Ytnjdehldlcmojaa Go.Proofs.YtnjdehldlcmojaaW.PrintWords Go.Proofs.YtnjdehldlcmojaaW.PrintLast Go.Proofs.YtnjdehldlcmojaaW.PrintMore Go.Proofs.Ytnjdehldlcmojaa.Math Go.Proofs.Ytnjdehldlcmojaa.PCutSigns32
set_option linter.unusedVariables false
set_option linter.unusedSimpArgs false

theorem good_rd {l : List S25} (h : ∀ y ∈ l, Good25 y) {i : Int} (h0 : 0 ≤ i) (h1 : i < l.length) : Good25 (rd_T25 l i) := by
  unfold rd_T25
  have hl : i.toNat < l.length := by omega
  rw [List.getD_eq_getElem?_getD, List.getElem?_eq_getElem hl]
  exact h _ (List.getElem_mem hl)

theorem cut_f (n b : Int) (s : Bool) (hb : b = 8 ∨ b = 16 ∨ b = 32) : Ev (fun k => num_Cut.f k n b s) (cutv b s n, 0) := by
  have h : ∀ k, num_Cut.f (k + 3) n b s = some (cutv b s n, 0) := by
    intro k
    unfold num_Cut.f cutv lows
    rcases hb with rfl | rfl | rfl <;> cases s <;> simp [num_Cut.j0, num_Cut.j1, num_Cut.j2, i8_of, i16_of, u16_of, i32_of]
  exact ⟨3, fun k hk => by obtain ⟨j, rfl⟩ : ∃ j, k = j + 3 := ⟨k - 3, by omega⟩; exact h j⟩

theorem refcut_f (n b : Int) (s : Bool) (hb : b = 8 ∨ b = 16 ∨ b = 32) : thresherref1_Cut.f n b s = some (cutv b s n) := by
  obtain ⟨i, hi, rfl⟩ : ∃ i : Nat, (i = 8 ∨ i = 16 ∨ i = 32) ∧ b = (i : Int) := by
    rcases hb with rfl | rfl | rfl
    · exact ⟨8, by simp, rfl⟩
    · exact ⟨16, by simp, rfl⟩
    · exact ⟨32, by simp, rfl⟩
  obtain ⟨hm, hr⟩ := ref_cut n i hi
  have hp : (0 : Int) < 2 ^ i := Int.pow_pos (by decide)
  obtain ⟨ho, hs⟩ := hr (n % 2 ^ i) (Int.emod_nonneg _ (by omega)) (Int.emod_lt_of_pos _ hp)
  unfold thresherref1_Cut.f
  rw [hm, if_pos (by omega), hs, ho]
  cases s
  · rw [if_neg (by decide)]
    unfold cutv lows
    rcases hi with rfl | rfl | rfl <;> simp <;> unfold wrap64 <;> omega
  · rw [if_pos rfl, if_pos (by rw [w64 (by omega) (by omega)]; omega)]
    unfold cutv
    rcases hi with rfl | rfl | rfl <;> simp <;> split <;> simp <;> unfold wrap64 <;> omega

theorem cut_l1 (l : List S25) (hl : ∀ y ∈ l, Good25 y) (i : Int) (hi0 : 0 ≤ i) (hi : i < l.length)
    (rest : Ev (fun k => thresherlaw1_cut.l0 k l 32 true (wrap64 (i + 1))) true) :
    ∀ (d : Nat) (j : Int), 0 ≤ j → j ≤ 70 → 70 - j ≤ d → Ev (fun k => thresherlaw1_cut.l1 k l 32 true i j) true := by
  intro d
  induction d with
  | zero =>
    intro j h0 h1 hd
    refine Ev.step (f := fun k => thresherlaw1_cut.l0 k l 32 true (wrap64 (i + 1))) (fun k => ?_) rest
    simp only [thresherlaw1_cut.l1]
    rw [if_neg (by omega)]
  | succ d ih =>
    intro j h0 h1 hd
    by_cases hj : j < 64
    · obtain ⟨hg, _⟩ := good_rd hl hi0 hi
      have hx := wf_i64 hg
      have hnext : Ev (fun k => thresherlaw1_cut.l1 k l 32 true i (wrap64 (j + 5))) true := by
        rw [w64 (by omega) (by omega)]
        exact ih (j + 5) (by omega) (by omega) (by omega)
      generalize hn : shr .i64 (rd_T25 l i).f0 j = n
      refine Ev.step (f := fun k => (num_Cut.f k n 32 true).bind fun bt => if bt = (cutv 32 true n, 0) then thresherlaw1_cut.l1 k l 32 true i (wrap64 (j + 5)) else some false) (fun k => ?_) ?_
      · simp only [thresherlaw1_cut.l1]
        rw [if_pos hj, if_pos hi0, if_pos hi, if_pos h0, hn]
        congr 1
        funext bt
        rw [refcut_f n 32 true (by decide)]
        simp [i8_of, i16_of, u16_of, i32_of, cutv, lows, Prod.ext_iff]
        by_cases h1 : bt.2 = 0 <;> by_cases h2 : bt.1 = cutv 32 true n <;> simp_all [cutv, lows]
      · exact Ev.bind (f := fun k bt => if bt = (cutv 32 true n, 0) then thresherlaw1_cut.l1 k l 32 true i (wrap64 (j + 5)) else some false) (cut_f n 32 true (by decide)) (by simpa using hnext)
    · refine Ev.step (f := fun k => thresherlaw1_cut.l0 k l 32 true (wrap64 (i + 1))) (fun k => ?_) rest
      simp only [thresherlaw1_cut.l1]
      rw [if_neg (by omega)]

theorem cut_l0 (l : List S25) (hl : ∀ y ∈ l, Good25 y) : ∀ (d : Nat) (i : Int), 0 ≤ i → i ≤ 15 → 15 - i ≤ d → Ev (fun k => thresherlaw1_cut.l0 k l 32 true i) true := by
  have hend : ∀ i, Ev (fun k => thresherlaw1_cut.j1 k l 32 true i false) true := by
    intro i
    refine Ev.step (f := fun k => (thresherlaw1_wakes.f k).bind fun t => some t) (fun k => ?_) ?_
    · simp only [thresherlaw1_cut.j1]
      rw [if_neg (by decide)]
    · exact Ev.bind (f := fun _ t => some t) wakes_ev (Ev.now _)
  intro d
  induction d with
  | zero =>
    intro i h0 h1 hd
    refine Ev.step (f := fun k => thresherlaw1_cut.j1 k l 32 true i false) (fun k => ?_) (hend i)
    simp only [thresherlaw1_cut.l0]
    rw [show decide (i < 15) = false by simp; omega]
    split <;> rfl
  | succ d ih =>
    intro i h0 h1 hd
    by_cases hc : i < l.length ∧ i < 15
    · refine Ev.step (f := fun k => thresherlaw1_cut.j1 k l 32 true i true) (fun k => ?_) ?_
      · simp only [thresherlaw1_cut.l0]
        rw [if_pos hc.1, show decide (i < 15) = true by simp; omega]
      · refine Ev.step (f := fun k => thresherlaw1_cut.l1 k l 32 true i 0) (fun k => ?_) ?_
        · simp only [thresherlaw1_cut.j1, if_true]
        · refine cut_l1 l hl i h0 hc.1 ?_ 70 0 (by omega) (by omega) (by omega)
          rw [w64 (by omega) (by omega)]
          exact ih (i + 1) (by omega) (by omega) (by omega)
    · refine Ev.step (f := fun k => thresherlaw1_cut.j1 k l 32 true i false) (fun k => ?_) (hend i)
      simp only [thresherlaw1_cut.l0]
      by_cases h : i < (l.length : Int)
      · rw [if_pos h, show decide (i < 15) = false by simp; omega]
      · rw [if_neg h]

theorem CutSigns32 : CutSigns32Pure := by
  intro l hl
  have h := cut_l0 l hl.2.2 15 0 (by omega) (by omega) (by omega)
  obtain ⟨k, hk⟩ := h.rounds
  refine ⟨k, ?_⟩
  unfold thresherlaw1_CutSigns32.f thresherlaw1_cut.f
  rw [hk]
  rfl
end Go.Proofs.Ytnjdehldlcmojaa.PCutSigns32.Pure
