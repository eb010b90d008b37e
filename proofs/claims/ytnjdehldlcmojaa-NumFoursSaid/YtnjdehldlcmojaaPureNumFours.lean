/- The law NumFours, in plain numbers: four bytes of any number, and which number any bytes begin with, are the page's. -/
import Derived.Test.YtnjdehldlcmojaaPrNumFours
import Derived.Test.YtnjdehldlcmojaaGlNumFours
import Derived.Test.YtnjdehldlcmojaaMath3
namespace Go.Proofs.Ytnjdehldlcmojaa.PNumFours.Pure
open Go.RowKit Go.Proofs.Ytnjdehldlcmojaa Go.Proofs.YtnjdehldlcmojaaW.PrintWords Go.Proofs.YtnjdehldlcmojaaW.PrintLast Go.Proofs.YtnjdehldlcmojaaW.PrintMore Go.Proofs.Ytnjdehldlcmojaa.Math Go.Proofs.Ytnjdehldlcmojaa.PNumFours
set_option linter.unusedVariables false
set_option linter.unusedSimpArgs false

theorem wraps_u32 (n : Int) (h0 : 0 ≤ n) (h1 : n < 2 ^ 32) : IntKind.u32.wrap n = n := by rw [IntKind.wrap_u32]; omega
theorem or32 {x y : Int} (i : Nat) (hx0 : 0 ≤ x) (hx : x % 2 ^ i = 0) (hx1 : x < 4294967296) (hy0 : 0 ≤ y) (hy : y < 2 ^ i) (hy1 : y < 4294967296) : bits .or .u32 x y = x + y :=
  bits_join .u32 32 (by decide) wraps_u32 i x y hx0 hx hx1 hy0 hy hy1
theorem four_or {a b c d : Int} (ha0 : 0 ≤ a) (ha : a < 256) (hb0 : 0 ≤ b) (hb : b < 256) (hc0 : 0 ≤ c) (hc : c < 256) (hd0 : 0 ≤ d) (hd : d < 256) :
    Go.bits .or .u32 (Go.bits .or .u32 (Go.bits .or .u32 (((a % 4294967296) * 16777216) % 4294967296) (((b % 4294967296) * 65536) % 4294967296)) (((c % 4294967296) * 256) % 4294967296)) (d % 4294967296) = a * 16777216 + b * 65536 + c * 256 + d := by
  rw [show ((a % 4294967296) * 16777216) % 4294967296 = a * 16777216 by omega, show ((b % 4294967296) * 65536) % 4294967296 = b * 65536 by omega, show ((c % 4294967296) * 256) % 4294967296 = c * 256 by omega, show d % 4294967296 = d by omega]
  rw [or32 24 (x := a * 16777216) (y := b * 65536) (by omega) (by omega) (by omega) (by omega) (by omega) (by omega)]
  rw [or32 16 (x := a * 16777216 + b * 65536) (y := c * 256) (by omega) (by omega) (by omega) (by omega) (by omega) (by omega)]
  rw [or32 8 (x := a * 16777216 + b * 65536 + c * 256) (y := d) (by omega) (by omega) (by omega) (by omega) (by omega) (by omega)]

def fourv (s : ByteArray) : Int := bt s 0 * 16777216 + bt s 1 * 65536 + bt s 2 * 256 + bt s 3
theorem take4 (s : ByteArray) : num_TakeFour.f s = some (if s.size < 4 then (0, 6) else (fourv s, 0)) := by
  obtain ⟨a0, a1⟩ := bt_lo s 0
  obtain ⟨b0, b1⟩ := bt_lo s 1
  obtain ⟨c0, c1⟩ := bt_lo s 2
  obtain ⟨d0, d1⟩ := bt_lo s 3
  unfold num_TakeFour.f
  by_cases h : s.size < 4
  · rw [if_pos (by omega), if_pos h]
  · rw [if_neg (by omega), if_pos (by omega), if_pos (by omega), if_pos (by omega), if_pos (by omega), if_neg h, four_or a0 a1 b0 b1 c0 c1 d0 d1]
    rfl
theorem reftake4 (s : ByteArray) : thresherref1_TakeFour.f s = some (if s.size < 4 then (0, false) else (fourv s, true)) := by
  obtain ⟨a0, a1⟩ := bt_lo s 0
  obtain ⟨b0, b1⟩ := bt_lo s 1
  obtain ⟨c0, c1⟩ := bt_lo s 2
  obtain ⟨d0, d1⟩ := bt_lo s 3
  unfold thresherref1_TakeFour.f
  by_cases h : s.size < 4
  · rw [if_pos (by omega), if_pos h]
  · rw [if_neg (by omega), if_pos (by omega), if_pos (by omega), if_pos (by omega), if_pos (by omega), if_neg h, four_or a0 a1 b0 b1 c0 c1 d0 d1]
    rfl
def fourL (n : Int) : List Int := [n / 16777216 % 256, n / 65536 % 256, n / 256 % 256, n % 256]
theorem fourL_range (n : Int) : ∀ x ∈ fourL n, 0 ≤ x ∧ x < 256 := by
  intro x hx
  simp [fourL] at hx
  omega
theorem four_back {n : Int} (h0 : 0 ≤ n) (h1 : n < 4294967296) (s : ByteArray) : fourv (strOfNums (fourL n) ++ s) = n := by
  unfold fourv
  simp only [bt_bs, bs_append, bs_str (fourL_range n)]
  simp [fourL]
  omega

theorem fours_l0 (l : List S25) (hl : ∀ y ∈ l, Good25 y) : ∀ (d : Nat) (i : Int), 0 ≤ i → i ≤ 15 → 15 - i ≤ d → Ev (fun k => thresherlaw1_NumFours.l0 k l i) true := by
  have hend : ∀ i, Ev (fun k => thresherlaw1_NumFours.j1 k l i false) true := by
    intro i
    refine Ev.step (f := fun k => (thresherlaw1_wakes.f k).bind fun t => some t) (fun k => ?_) ?_
    · simp only [thresherlaw1_NumFours.j1]
      rw [if_neg (by decide)]
    · exact Ev.bind (f := fun _ t => some t) wakes_ev (Ev.now _)
  intro d
  induction d with
  | zero =>
    intro i h0 h1 hd
    refine Ev.step (f := fun k => thresherlaw1_NumFours.j1 k l i false) (fun k => ?_) (hend i)
    simp only [thresherlaw1_NumFours.l0]
    rw [show decide (i < 15) = false by simp; omega]
    split <;> rfl
  | succ d ih =>
    intro i h0 h1 hd
    by_cases hc : i < l.length ∧ i < 15
    · refine Ev.step (f := fun k => thresherlaw1_NumFours.j1 k l i true) (fun k => ?_) ?_
      · simp only [thresherlaw1_NumFours.l0]
        rw [if_pos hc.1, show decide (i < 15) = true by simp; omega]
      · generalize hX : (rd_T25 l i).f3 = X
        generalize hN : (rd_T25 l i).f0 % 4294967296 = n
        have hn0 : 0 ≤ n := by omega
        have hn1 : n < 4294967296 := by omega
        by_cases hv : X.size ≤ 3000
        · refine Ev.step (f := fun k => thresherlaw1_NumFours.l0 k l (wrap64 (i + 1))) (fun k => ?_) ?_
          · simp only [thresherlaw1_NumFours.j1, if_true, thresherlaw1_heavy.f]
            rw [if_pos h0, if_pos hc.1, hX, hN]
            simp only [Option.bind_some]
            rw [if_neg (by simp; omega), take4, reftake4]
            simp only [Option.bind_some, num_Four.f, thresherref1_Four.f]
            rw [if_pos (by rw [strOfNums_size]; simp; omega), take4]
            simp only [Option.bind_some]
            have hs : ¬ (strOfNums (fourL n) ++ X).size < 4 := by
              rw [ByteArray.size_append, strOfNums_size]
              simp [fourL]
            have hb := four_back hn0 hn1 X
            unfold fourL at hs hb
            rw [if_neg hs, hb]
            by_cases h : X.size < 4
            · rw [if_pos h, if_pos h]
              simp
            · rw [if_neg h, if_neg h]
              simp
          · rw [w64 (by omega) (by omega)]
            exact ih (i + 1) (by omega) (by omega) (by omega)
        · refine Ev.step (f := fun k => some true) (fun k => ?_) (Ev.now _)
          simp only [thresherlaw1_NumFours.j1, if_true, thresherlaw1_heavy.f]
          rw [if_pos h0, if_pos hc.1, hX]
          simp only [Option.bind_some]
          rw [if_pos (by simp; omega)]
    · refine Ev.step (f := fun k => thresherlaw1_NumFours.j1 k l i false) (fun k => ?_) (hend i)
      simp only [thresherlaw1_NumFours.l0]
      by_cases h : i < (l.length : Int)
      · rw [if_pos h, show decide (i < 15) = false by simp; omega]
      · rw [if_neg h]

theorem NumFours : NumFoursPure := by
  intro l hl
  exact (fours_l0 l hl.2.2 15 0 (by omega) (by omega) (by omega)).rounds
end Go.Proofs.Ytnjdehldlcmojaa.PNumFours.Pure
