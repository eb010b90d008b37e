/- The law NumCuts, in plain numbers: what any number is, cut to any bits, with a sign and without, is the page's, or refused. -/
import Derived.Test.YtnjdehldlcmojaaPrNumCuts
import Derived.Test.YtnjdehldlcmojaaGlNumCuts
import Derived.Test.YtnjdehldlcmojaaMath2
namespace Go.Proofs.Ytnjdehldlcmojaa.QNumCuts.Pure
open Go.RowKit Go.Proofs.Ytnjdehldlcmojaa Go.Proofs.YtnjdehldlcmojaaW.PrintWords Go.Proofs.YtnjdehldlcmojaaW.PrintLast Go.Proofs.YtnjdehldlcmojaaW.PrintMore Go.Proofs.Ytnjdehldlcmojaa.Math Go.Proofs.Ytnjdehldlcmojaa.QNumCuts
set_option linter.unusedVariables false
set_option linter.unusedSimpArgs false

theorem cut_f (n b : Int) (s : Bool) (hb : b = 8 ∨ b = 16 ∨ b = 32) : Ev (fun k => num_Cut.f k n b s) (cutv b s n, 0) := by
  have h : ∀ k, num_Cut.f (k + 3) n b s = some (cutv b s n, 0) := by
    intro k
    unfold num_Cut.f cutv lows
    rcases hb with rfl | rfl | rfl <;> cases s <;> simp [num_Cut.j0, num_Cut.j1, num_Cut.j2, i8_of, i16_of, u16_of, i32_of]
  exact ⟨3, fun k hk => by obtain ⟨j, rfl⟩ : ∃ j, k = j + 3 := ⟨k - 3, by omega⟩; exact h j⟩

theorem refcut_f (n b : Int) (s : Bool) (hb : b = 8 ∨ b = 16 ∨ b = 32) : thresherref1_Cut.f n b s = some (cutv b s n) := by
  obtain ⟨i, hi, rfl⟩ : ∃ i : Nat, (i = 8 ∨ i = 16 ∨ i = 32) ∧ b = (i : Int) := by
    rcases hb with rfl | rfl | rfl
    · exact ⟨8, by simp, rfl⟩
    · exact ⟨16, by simp, rfl⟩
    · exact ⟨32, by simp, rfl⟩
  obtain ⟨hm, hr⟩ := ref_cut n i hi
  have hp : (0 : Int) < 2 ^ i := Int.pow_pos (by decide)
  obtain ⟨ho, hs⟩ := hr (n % 2 ^ i) (Int.emod_nonneg _ (by omega)) (Int.emod_lt_of_pos _ hp)
  unfold thresherref1_Cut.f
  rw [hm, if_pos (by omega), hs, ho]
  cases s
  · rw [if_neg (by decide)]
    unfold cutv lows
    rcases hi with rfl | rfl | rfl <;> simp <;> unfold wrap64 <;> omega
  · rw [if_pos rfl, if_pos (by rw [w64 (by omega) (by omega)]; omega)]
    unfold cutv
    rcases hi with rfl | rfl | rfl <;> simp <;> split <;> simp <;> unfold wrap64 <;> omega

theorem cut_no (n b : Int) (s : Bool) (hb : ¬ (b = 8 ∨ b = 16 ∨ b = 32)) : Ev (fun k => num_Cut.f k n b s) (0, 1) := by
  have h : ∀ k, num_Cut.f (k + 3) n b s = some (0, 1) := by
    intro k
    unfold num_Cut.f
    rw [if_neg (by omega)]
    simp only [num_Cut.j0, num_Cut.j1, num_Cut.j2]
    rw [if_neg (by decide), if_neg (by omega), if_neg (by omega), if_neg (by decide), if_neg (by omega), if_neg (by omega), if_neg (by decide), if_neg (by omega)]
  exact ⟨3, fun k hk => by obtain ⟨j, rfl⟩ : ∃ j, k = j + 3 := ⟨k - 3, by omega⟩; exact h j⟩

theorem cuts_l2 (l : List S25) (i : Int) (bs : List Int) (p : Int) (hi0 : 0 ≤ i) (hi : i < l.length) (hp0 : 0 ≤ p) (hp : p < bs.length) (rest : Ev (fun k => thresherlaw1_NumCuts.l1 k l i bs (wrap64 (p + 1))) true) :
    ∀ (d : Nat) (j : Int), 0 ≤ j → j ≤ 2 → 2 - j = d → Ev (fun k => thresherlaw1_NumCuts.l2 k l i bs p j) true := by
  intro d
  induction d with
  | zero =>
    intro j hj0 hj1 hd
    refine Ev.step (f := fun k => thresherlaw1_NumCuts.l1 k l i bs (wrap64 (p + 1))) (fun k => ?_) rest
    simp only [thresherlaw1_NumCuts.l2]
    rw [if_neg (by omega)]
  | succ d ih =>
    intro j hj0 hj1 hd
    have next : Ev (fun k => thresherlaw1_NumCuts.l2 k l i bs p (wrap64 (j + 1))) true := by
      rw [w64 (by omega) (by omega)]
      exact ih (j + 1) (by omega) (by omega) (by omega)
    generalize hb : rd bs p = b
    generalize hn : (rd_T25 l i).f0 = n
    generalize hs : (j == 1) = s
    by_cases hk : b = 8 ∨ b = 16 ∨ b = 32
    · refine Ev.step (f := fun k => (num_Cut.f k n b s).bind fun bt => if bt = (cutv b s n, 0) then thresherlaw1_NumCuts.l2 k l i bs p (wrap64 (j + 1)) else some false) (fun k => ?_) ?_
      · simp only [thresherlaw1_NumCuts.l2]
        rw [if_pos (by omega), if_pos hi0, if_pos hi, if_pos hp0, if_pos hp, hb, hn, hs, refcut_f n b s hk]
        congr 1
        funext bt
        obtain ⟨v, e⟩ := bt
        generalize cutv b s n = z
        rcases hk with rfl | rfl | rfl <;> by_cases h1 : e = 0 <;> by_cases h2 : v = z <;> simp [h1, h2]
      · exact Ev.bind (f := fun k bt => if bt = (cutv b s n, 0) then thresherlaw1_NumCuts.l2 k l i bs p (wrap64 (j + 1)) else some false) (cut_f n b s hk) (by simpa using next)
    · refine Ev.step (f := fun k => (num_Cut.f k n b s).bind fun bt => if bt = (0, 1) then thresherlaw1_NumCuts.l2 k l i bs p (wrap64 (j + 1)) else some false) (fun k => ?_) ?_
      · simp only [thresherlaw1_NumCuts.l2]
        rw [if_pos (by omega), if_pos hi0, if_pos hi, if_pos hp0, if_pos hp, hb, hn, hs]
        congr 1
        funext bt
        obtain ⟨v, e⟩ := bt
        rw [if_neg (by omega), if_neg (by omega), if_neg (by omega)]
        by_cases h0 : e = 0
        · simp [h0]
        · by_cases h1 : e = 1 <;> by_cases h2 : v = 0 <;> simp [h0, h1, h2]
      · exact Ev.bind (f := fun k bt => if bt = (0, 1) then thresherlaw1_NumCuts.l2 k l i bs p (wrap64 (j + 1)) else some false) (cut_no n b s hk) (by simpa using next)

theorem cuts_l1 (l : List S25) (i : Int) (bs : List Int) (hbs : bs.length = 7) (hi0 : 0 ≤ i) (hi : i < l.length) (rest : Ev (fun k => thresherlaw1_NumCuts.l0 k l (wrap64 (i + 1))) true) :
    ∀ (d : Nat) (p : Int), 0 ≤ p → p ≤ 7 → 7 - p = d → Ev (fun k => thresherlaw1_NumCuts.l1 k l i bs p) true := by
  intro d
  induction d with
  | zero =>
    intro p hp0 hp1 hd
    refine Ev.step (f := fun k => thresherlaw1_NumCuts.l0 k l (wrap64 (i + 1))) (fun k => ?_) rest
    simp only [thresherlaw1_NumCuts.l1]
    rw [if_neg (by omega)]
  | succ d ih =>
    intro p hp0 hp1 hd
    refine Ev.step (f := fun k => thresherlaw1_NumCuts.l2 k l i bs p 0) (fun k => ?_) ?_
    · simp only [thresherlaw1_NumCuts.l1]
      rw [if_pos (by omega)]
    · refine cuts_l2 l i bs p hi0 hi hp0 (by omega) ?_ 2 0 (by omega) (by omega) (by omega)
      rw [w64 (by omega) (by omega)]
      exact ih (p + 1) (by omega) (by omega) (by omega)

theorem cuts_l0 (l : List S25) : ∀ (d : Nat) (i : Int), 0 ≤ i → i ≤ 15 → 15 - i ≤ d → Ev (fun k => thresherlaw1_NumCuts.l0 k l i) true := by
  have hend : ∀ i, Ev (fun k => thresherlaw1_NumCuts.j1 k l i false) true := by
    intro i
    refine Ev.step (f := fun k => (thresherlaw1_wakes.f k).bind fun t => some t) (fun k => ?_) ?_
    · simp only [thresherlaw1_NumCuts.j1]
      rw [if_neg (by decide)]
    · exact Ev.bind (f := fun _ t => some t) wakes_ev (Ev.now _)
  intro d
  induction d with
  | zero =>
    intro i h0 h1 hd
    refine Ev.step (f := fun k => thresherlaw1_NumCuts.j1 k l i false) (fun k => ?_) (hend i)
    simp only [thresherlaw1_NumCuts.l0]
    rw [show decide (i < 15) = false by simp; omega]
    split <;> rfl
  | succ d ih =>
    intro i h0 h1 hd
    by_cases hc : i < l.length ∧ i < 15
    · refine Ev.step (f := fun k => thresherlaw1_NumCuts.j1 k l i true) (fun k => ?_) ?_
      · simp only [thresherlaw1_NumCuts.l0]
        rw [if_pos hc.1, show decide (i < 15) = true by simp; omega]
      · refine Ev.step (f := fun k => thresherlaw1_NumCuts.l1 k l i ([8, 16, 32, 0, 64, (-8), (rd_T25 l i).f2] : List Int) 0) (fun k => ?_) ?_
        · simp only [thresherlaw1_NumCuts.j1, if_true]
          rw [if_pos h0, if_pos hc.1]
        · refine cuts_l1 l i _ rfl h0 hc.1 ?_ 7 0 (by omega) (by omega) (by omega)
          rw [w64 (by omega) (by omega)]
          exact ih (i + 1) (by omega) (by omega) (by omega)
    · refine Ev.step (f := fun k => thresherlaw1_NumCuts.j1 k l i false) (fun k => ?_) (hend i)
      simp only [thresherlaw1_NumCuts.l0]
      by_cases h : i < (l.length : Int)
      · rw [if_pos h, show decide (i < 15) = false by simp; omega]
      · rw [if_neg h]

theorem NumCuts : NumCutsPure := by
  intro l hl
  exact (cuts_l0 l 15 0 (by omega) (by omega) (by omega)).rounds
end Go.Proofs.Ytnjdehldlcmojaa.QNumCuts.Pure
