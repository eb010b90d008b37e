/- What the program's number functions come to: the turned number, its bytes, what bytes begin with. -/
import Derived.Test.YtgchbhepnfnhpaaQSplitx5
import Derived.Test.YtgchbhepnfnhpaaMath
namespace Go.Proofs.Ytgchbhepnfnhpaa.QSplit
open Go.RowKit Go.Proofs.Ytgchbhepnfnhpaa Go.Proofs.YtgchbhepnfnhpaaW.PrintWords Go.Proofs.YtgchbhepnfnhpaaW.PrintLast Go.Proofs.YtgchbhepnfnhpaaW.PrintMore Go.Proofs.Ytgchbhepnfnhpaa.Math
set_option linter.unusedVariables false
set_option linter.unusedSimpArgs false

theorem back_f {u : Int} (h0 : 0 ≤ u) (h1 : u < 18446744073709551616) : num_back.f u = some (zag u) := by
  unfold num_back.f
  congr 1
  rw [and1 h0 h1, w64 (n := u / 2) (by omega) (by omega), w64 (n := u % 2) (by omega) (by omega), w64 (by omega) (by omega)]
  unfold zag
  by_cases h : u % 2 = 0
  · rw [if_pos h, h, show (-0 : Int) = 0 from rfl, xor64_zero _ (by omega) (by omega)]
  · rw [if_neg h, show u % 2 = 1 by omega, xor64_ones _ (by omega) (by omega)]

theorem take_l0 (s : ByteArray) : ∀ (d : Nat) (i u : Int), i + d = 10 → 0 ≤ i → i ≤ 9 → 0 ≤ u → u < 2 ^ (7 * i).toNat → Ev (fun k => num_Take.l0 k s i u) (take s d i u) := by
  intro d
  induction d with
  | zero => intro i u hd h0 h9; omega
  | succ d ih =>
    intro i u hd h0 h9 hu0 hu
    by_cases h1 : (s.size : Int) ≤ i
    · refine Ev.step (f := fun _ => some (0, 0, 6)) (fun k => ?_) ?_
      · simp only [num_Take.l0]
        rw [if_neg (by omega)]
      · simp only [take]
        rw [if_pos h1]
        exact Ev.now _
    · obtain ⟨hb0, hb1⟩ := bt_lo s i
      refine Ev.step (f := fun k => num_Take.j1 k s i u (bt s i) (decide (i = 9 ∧ 1 < bt s i))) (fun k => ?_) ?_
      · simp only [num_Take.l0]
        rw [if_pos (by omega), if_pos h0]
        by_cases hi : i = 9
        · rw [if_pos hi]
          congr 1
          simp [hi]
        · rw [if_neg hi]
          congr 1
          simp [hi]
      · by_cases h2 : i = 9 ∧ 1 < bt s i
        · refine Ev.step (f := fun _ => some (0, 0, 7)) (fun k => ?_) ?_
          · simp only [num_Take.j1]
            rw [if_pos (by simpa using h2)]
          · simp only [take]
            rw [if_neg h1, if_pos h2]
            exact Ev.now _
        · have hst := step_lt (i := i) (c := bt s i % 128) (u := u) h0 h9 hu (by omega) (by omega) (by intro h; have : ¬ 1 < bt s i := fun h' => h2 ⟨h, h'⟩; omega)
          have hp : (0 : Int) < 2 ^ (7 * i).toNat := Int.pow_pos (by decide)
          have hc0 : 0 ≤ bt s i % 128 * 2 ^ (7 * i).toNat := Int.mul_nonneg (by omega) (Int.le_of_lt hp)
          have hsh : Go.bits .or .u64 u (shl .u64 (IntKind.u64.wrap (Go.bits .and .u8 (bt s i) 127)) (wrap64 (7 * i))) = u + bt s i % 128 * 2 ^ (7 * i).toNat := by
            rw [and127 hb0 hb1, wu64 (by omega) (by omega), w64 (by omega) (by omega)]
            unfold shl
            rw [show min (7 * i).toNat IntKind.u64.bits = (7 * i).toNat by simp only [IntKind.bits]; omega, wu64 hc0 hst.2.1]
            exact or_add hu0 hu (by omega) (by omega) hst.2.1
          by_cases h3 : 128 ≤ bt s i
          · refine Ev.step (f := fun k => num_Take.l0 k s (i + 1) (u + bt s i % 128 * 2 ^ (7 * i).toNat)) (fun k => ?_) ?_
            · simp only [num_Take.j1]
              rw [if_neg (by simpa using h2), if_pos (by rw [w64 (by omega) (by omega)]; omega), if_pos (by omega), hsh, w64 (n := i + 1) (by omega) (by omega)]
            · simp only [take]
              rw [if_neg h1, if_neg h2, if_pos h3]
              exact ih (i + 1) _ (by omega) (by omega) (by by_cases hi : i = 9 <;> omega) (by omega) hst.1
          · by_cases h4 : bt s i = 0 ∧ 0 < i
            · refine Ev.step (f := fun _ => some (0, 0, 7)) (fun k => ?_) ?_
              · simp only [num_Take.j1]
                rw [if_neg (by simpa using h2), if_pos (by rw [w64 (by omega) (by omega)]; omega), if_neg (by omega), if_pos h4.1, if_pos (by rw [w64 (n := i + 1) (by omega) (by omega)]; omega)]
              · simp only [take]
                rw [if_neg h1, if_neg h2, if_neg h3, if_pos h4]
                exact Ev.now _
            · refine Ev.step (f := fun _ => some (zag (u + bt s i % 128 * 2 ^ (7 * i).toNat), i + 1, 0)) (fun k => ?_) ?_
              · simp only [num_Take.j1]
                rw [if_neg (by simpa using h2), if_pos (by rw [w64 (by omega) (by omega)]; omega), if_neg (by omega), hsh, back_f (by omega) hst.2.2, w64 (n := i + 1) (by omega) (by omega)]
                by_cases h5 : bt s i = 0
                · rw [if_pos h5, if_neg (by omega)]
                  rfl
                · rw [if_neg h5]
                  rfl
              · simp only [take]
                rw [if_neg h1, if_neg h2, if_neg h3, if_neg h4]
                exact Ev.now _

theorem take_ev (s : ByteArray) : Ev (fun k => num_Take.f k s) (took s) :=
  Ev.congr (f := fun k => num_Take.l0 k s 0 0) (fun k => rfl) (take_l0 s 10 0 0 (by omega) (by omega) (by omega) (by omega) (by decide))

end Go.Proofs.Ytgchbhepnfnhpaa.QSplit
