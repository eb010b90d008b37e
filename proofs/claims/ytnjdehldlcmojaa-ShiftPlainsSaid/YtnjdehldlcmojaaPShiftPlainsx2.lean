-- PRINTED BY print.sh 35421559b90ae4d0a3588c463048766b98c2df88dd9212a6774a882060cdf62d: not written by this session
import Derived.Test.YtnjdehldlcmojaaPShiftPlainsx0
import Derived.Test.YtnjdehldlcmojaaPShiftPlainsx1
namespace Go.Proofs.Ytnjdehldlcmojaa.PShiftPlains
open Go.RowKit Go.Proofs.YtnjdehldlcmojaaW.PrintWords Go.Proofs.YtnjdehldlcmojaaW.PrintLast Go.Proofs.YtnjdehldlcmojaaW.PrintMore
attribute [local go_sem] max2_int min2_int max_two min_two max_three min_three max_four min_four   -- for this text's walks alone
set_option linter.unusedVariables false
set_option linter.unusedSimpArgs false

/-! ### thresherlaw1_shift: function 31 -/
mutual
def thresherlaw1_shift.l0 : Nat → List (S25) → Int → Int → Option (Bool)
  | 0, _, _, _ => none
  | k + 1, x0, x1, x5 => if x5 < (x0.length : Int) then (thresherlaw1_shift.j1 k x0 x1 x5 (decide (x5 < 15))) else (thresherlaw1_shift.j1 k x0 x1 x5 false)
def thresherlaw1_shift.j1 : Nat → List (S25) → Int → Int → Bool → Option (Bool)
  | 0, _, _, _, _ => none
  | k + 1, x0, x1, x5, x23 => if x23 = true then (if 0 ≤ x5 then (if x5 < (x0.length : Int) then (thresherlaw1_shift.l1 k x0 x1 x5 ((rd_T25 x0 x5).f0) 0) else (none)) else (none)) else ((thresherlaw1_wakes.f k).bind fun t117 => (some t117))
def thresherlaw1_shift.l1 : Nat → List (S25) → Int → Int → Int → Int → Option (Bool)
  | 0, _, _, _, _, _ => none
  | k + 1, x0, x1, x5, x6, x7 => if x7 < 64 then ((num_Shift.f x6 x7 x1).bind fun bt119 => ((num_Shift.f x6 (wrap64 (x7 - 64)) x1).bind fun bt121 => (if bt119.2 = 0 then (if bt121.2 = 0 then (thresherlaw1_shift.j3 k x0 x1 x5 x6 x7 bt119.1 (bt119.1 != bt121.1)) else (thresherlaw1_shift.j3 k x0 x1 x5 x6 x7 bt119.1 true)) else (thresherlaw1_shift.j3 k x0 x1 x5 x6 x7 bt119.1 true)))) else (thresherlaw1_shift.l0 k x0 x1 (wrap64 (x5 + 1)))
def thresherlaw1_shift.j3 : Nat → List (S25) → Int → Int → Int → Int → Int → Bool → Option (Bool)
  | 0, _, _, _, _, _, _, _ => none
  | k + 1, x0, x1, x5, x6, x7, x8, x60 => if x60 = true then (some false) else ((num_Shift.f x8 1 x1).bind fun bt123 => ((num_Shift.f x6 (wrap64 (x7 + 1)) x1).bind fun bt125 => (if bt123.2 = 0 then (if bt125.2 = 0 then (if x7 < 63 then (if bt123.1 = bt125.1 then (if x7 = 63 then (thresherlaw1_shift.j4 k x0 x1 x5 x6 x7 x8 bt123.1 (bt125.1 != x6)) else (thresherlaw1_shift.j4 k x0 x1 x5 x6 x7 x8 bt123.1 false)) else (thresherlaw1_shift.j4 k x0 x1 x5 x6 x7 x8 bt123.1 true)) else (if x7 = 63 then (thresherlaw1_shift.j4 k x0 x1 x5 x6 x7 x8 bt123.1 (bt125.1 != x6)) else (thresherlaw1_shift.j4 k x0 x1 x5 x6 x7 x8 bt123.1 false))) else (thresherlaw1_shift.j4 k x0 x1 x5 x6 x7 x8 bt123.1 true)) else (thresherlaw1_shift.j4 k x0 x1 x5 x6 x7 x8 bt123.1 true))))
def thresherlaw1_shift.j4 : Nat → List (S25) → Int → Int → Int → Int → Int → Int → Bool → Option (Bool)
  | 0, _, _, _, _, _, _, _, _ => none
  | k + 1, x0, x1, x5, x6, x7, x8, x12, x98 => if x98 = true then (some false) else (if x1 = 0 then (if x12 = (wrap64 (x8 + x8)) then (if x1 = 1 then (if (wrap64 (x12 + x12)) = (Go.bits .andNot .i64 x8 1) then (if x1 = 2 then (if (IntKind.u64.wrap (x12)) = (IntKind.u64.wrap (Int.tdiv (IntKind.u64.wrap (x8)) 2)) then (thresherlaw1_shift.l1 k x0 x1 x5 x6 (wrap64 (x7 + 1))) else (some false)) else (thresherlaw1_shift.l1 k x0 x1 x5 x6 (wrap64 (x7 + 1)))) else (some false)) else (if x1 = 2 then (if (IntKind.u64.wrap (x12)) = (IntKind.u64.wrap (Int.tdiv (IntKind.u64.wrap (x8)) 2)) then (thresherlaw1_shift.l1 k x0 x1 x5 x6 (wrap64 (x7 + 1))) else (some false)) else (thresherlaw1_shift.l1 k x0 x1 x5 x6 (wrap64 (x7 + 1))))) else (some false)) else (if x1 = 1 then (if (wrap64 (x12 + x12)) = (Go.bits .andNot .i64 x8 1) then (if x1 = 2 then (if (IntKind.u64.wrap (x12)) = (IntKind.u64.wrap (Int.tdiv (IntKind.u64.wrap (x8)) 2)) then (thresherlaw1_shift.l1 k x0 x1 x5 x6 (wrap64 (x7 + 1))) else (some false)) else (thresherlaw1_shift.l1 k x0 x1 x5 x6 (wrap64 (x7 + 1)))) else (some false)) else (if x1 = 2 then (if (IntKind.u64.wrap (x12)) = (IntKind.u64.wrap (Int.tdiv (IntKind.u64.wrap (x8)) 2)) then (thresherlaw1_shift.l1 k x0 x1 x5 x6 (wrap64 (x7 + 1))) else (some false)) else (thresherlaw1_shift.l1 k x0 x1 x5 x6 (wrap64 (x7 + 1))))))
end
def thresherlaw1_shift.f (k : Nat) (l0 : List (S25)) (a1 : Int) : Option (Bool) := thresherlaw1_shift.l0 k l0 a1 0
theorem thresherlaw1_shift.mono_l : ∀ k, (∀ y0 y1 y2, LeO (thresherlaw1_shift.l0 k y0 y1 y2) (thresherlaw1_shift.l0 (k + 1) y0 y1 y2)) ∧ (∀ y0 y1 y2 y3, LeO (thresherlaw1_shift.j1 k y0 y1 y2 y3) (thresherlaw1_shift.j1 (k + 1) y0 y1 y2 y3)) ∧ (∀ y0 y1 y2 y3 y4, LeO (thresherlaw1_shift.l1 k y0 y1 y2 y3 y4) (thresherlaw1_shift.l1 (k + 1) y0 y1 y2 y3 y4)) ∧ (∀ y0 y1 y2 y3 y4 y5 y6, LeO (thresherlaw1_shift.j3 k y0 y1 y2 y3 y4 y5 y6) (thresherlaw1_shift.j3 (k + 1) y0 y1 y2 y3 y4 y5 y6)) ∧ (∀ y0 y1 y2 y3 y4 y5 y6 y7, LeO (thresherlaw1_shift.j4 k y0 y1 y2 y3 y4 y5 y6 y7) (thresherlaw1_shift.j4 (k + 1) y0 y1 y2 y3 y4 y5 y6 y7))
  | 0 => ⟨fun _ _ _ r h => by simp [thresherlaw1_shift.l0] at h, fun _ _ _ _ r h => by simp [thresherlaw1_shift.j1] at h, fun _ _ _ _ _ r h => by simp [thresherlaw1_shift.l1] at h, fun _ _ _ _ _ _ _ r h => by simp [thresherlaw1_shift.j3] at h, fun _ _ _ _ _ _ _ _ r h => by simp [thresherlaw1_shift.j4] at h⟩
  | k + 1 => by
    obtain ⟨ih0, ih1, ih2, ih3, ih4⟩ := thresherlaw1_shift.mono_l k
    refine ⟨?_, ?_, ?_, ?_, ?_⟩
    · intro y0 y1 y2
      unfold thresherlaw1_shift.l0
      repeat' first
      | (with_reducible exact ih0 _ _ _)
      | (with_reducible exact ih1 _ _ _ _)
      | (with_reducible exact ih2 _ _ _ _ _)
      | (with_reducible exact ih3 _ _ _ _ _ _ _)
      | (with_reducible exact ih4 _ _ _ _ _ _ _ _)
      | (with_reducible exact thresherlaw1_wakes.mono _)
      | (with_reducible exact LeO.refl _)
      | (with_reducible exact LeO.none _)
      | (with_reducible refine LeO.ite ?_ ?_)
      | (with_reducible refine LeO.bind ?_ (fun _ => ?_))
      | exact ih0 _ _ _
      | exact ih1 _ _ _ _
      | exact ih2 _ _ _ _ _
      | exact ih3 _ _ _ _ _ _ _
      | exact ih4 _ _ _ _ _ _ _ _
      | exact thresherlaw1_wakes.mono _
      | exact LeO.none _
      | refine LeO.ite ?_ ?_
      | refine LeO.bind ?_ (fun _ => ?_)
    · intro y0 y1 y2 y3
      unfold thresherlaw1_shift.j1
      repeat' first
      | (with_reducible exact ih0 _ _ _)
      | (with_reducible exact ih1 _ _ _ _)
      | (with_reducible exact ih2 _ _ _ _ _)
      | (with_reducible exact ih3 _ _ _ _ _ _ _)
      | (with_reducible exact ih4 _ _ _ _ _ _ _ _)
      | (with_reducible exact thresherlaw1_wakes.mono _)
      | (with_reducible exact LeO.refl _)
      | (with_reducible exact LeO.none _)
      | (with_reducible refine LeO.ite ?_ ?_)
      | (with_reducible refine LeO.bind ?_ (fun _ => ?_))
      | exact ih0 _ _ _
      | exact ih1 _ _ _ _
      | exact ih2 _ _ _ _ _
      | exact ih3 _ _ _ _ _ _ _
      | exact ih4 _ _ _ _ _ _ _ _
      | exact thresherlaw1_wakes.mono _
      | exact LeO.none _
      | refine LeO.ite ?_ ?_
      | refine LeO.bind ?_ (fun _ => ?_)
    · intro y0 y1 y2 y3 y4
      unfold thresherlaw1_shift.l1
      repeat' first
      | (with_reducible exact ih0 _ _ _)
      | (with_reducible exact ih1 _ _ _ _)
      | (with_reducible exact ih2 _ _ _ _ _)
      | (with_reducible exact ih3 _ _ _ _ _ _ _)
      | (with_reducible exact ih4 _ _ _ _ _ _ _ _)
      | (with_reducible exact thresherlaw1_wakes.mono _)
      | (with_reducible exact LeO.refl _)
      | (with_reducible exact LeO.none _)
      | (with_reducible refine LeO.ite ?_ ?_)
      | (with_reducible refine LeO.bind ?_ (fun _ => ?_))
      | exact ih0 _ _ _
      | exact ih1 _ _ _ _
      | exact ih2 _ _ _ _ _
      | exact ih3 _ _ _ _ _ _ _
      | exact ih4 _ _ _ _ _ _ _ _
      | exact thresherlaw1_wakes.mono _
      | exact LeO.none _
      | refine LeO.ite ?_ ?_
      | refine LeO.bind ?_ (fun _ => ?_)
    · intro y0 y1 y2 y3 y4 y5 y6
      unfold thresherlaw1_shift.j3
      repeat' first
      | (with_reducible exact ih0 _ _ _)
      | (with_reducible exact ih1 _ _ _ _)
      | (with_reducible exact ih2 _ _ _ _ _)
      | (with_reducible exact ih3 _ _ _ _ _ _ _)
      | (with_reducible exact ih4 _ _ _ _ _ _ _ _)
      | (with_reducible exact thresherlaw1_wakes.mono _)
      | (with_reducible exact LeO.refl _)
      | (with_reducible exact LeO.none _)
      | (with_reducible refine LeO.ite ?_ ?_)
      | (with_reducible refine LeO.bind ?_ (fun _ => ?_))
      | exact ih0 _ _ _
      | exact ih1 _ _ _ _
      | exact ih2 _ _ _ _ _
      | exact ih3 _ _ _ _ _ _ _
      | exact ih4 _ _ _ _ _ _ _ _
      | exact thresherlaw1_wakes.mono _
      | exact LeO.none _
      | refine LeO.ite ?_ ?_
      | refine LeO.bind ?_ (fun _ => ?_)
    · intro y0 y1 y2 y3 y4 y5 y6 y7
      unfold thresherlaw1_shift.j4
      repeat' first
      | (with_reducible exact ih0 _ _ _)
      | (with_reducible exact ih1 _ _ _ _)
      | (with_reducible exact ih2 _ _ _ _ _)
      | (with_reducible exact ih3 _ _ _ _ _ _ _)
      | (with_reducible exact ih4 _ _ _ _ _ _ _ _)
      | (with_reducible exact thresherlaw1_wakes.mono _)
      | (with_reducible exact LeO.refl _)
      | (with_reducible exact LeO.none _)
      | (with_reducible refine LeO.ite ?_ ?_)
      | (with_reducible refine LeO.bind ?_ (fun _ => ?_))
      | exact ih0 _ _ _
      | exact ih1 _ _ _ _
      | exact ih2 _ _ _ _ _
      | exact ih3 _ _ _ _ _ _ _
      | exact ih4 _ _ _ _ _ _ _ _
      | exact thresherlaw1_wakes.mono _
      | exact LeO.none _
      | refine LeO.ite ?_ ?_
      | refine LeO.bind ?_ (fun _ => ?_)
theorem thresherlaw1_shift.mono : ∀ a0 a1 k, LeO (thresherlaw1_shift.f k a0 a1) (thresherlaw1_shift.f (k + 1) a0 a1) := by
  intro a0 a1 k
  obtain ⟨ih0, ih1, ih2, ih3, ih4⟩ := thresherlaw1_shift.mono_l k
  unfold thresherlaw1_shift.f
  repeat' first
      | (with_reducible exact ih0 _ _ _)
      | (with_reducible exact ih1 _ _ _ _)
      | (with_reducible exact ih2 _ _ _ _ _)
      | (with_reducible exact ih3 _ _ _ _ _ _ _)
      | (with_reducible exact ih4 _ _ _ _ _ _ _ _)
      | (with_reducible exact thresherlaw1_wakes.mono _)
      | (with_reducible exact LeO.refl _)
      | (with_reducible exact LeO.none _)
      | (with_reducible refine LeO.ite ?_ ?_)
      | (with_reducible refine LeO.bind ?_ (fun _ => ?_))
      | exact ih0 _ _ _
      | exact ih1 _ _ _ _
      | exact ih2 _ _ _ _ _
      | exact ih3 _ _ _ _ _ _ _
      | exact ih4 _ _ _ _ _ _ _ _
      | exact thresherlaw1_wakes.mono _
      | exact LeO.none _
      | refine LeO.ite ?_ ?_
      | refine LeO.bind ?_ (fun _ => ?_)
set_option maxHeartbeats 8000000 in
set_option maxRecDepth 100000 in
theorem thresherlaw1_shift.calls (k : Nat) (A0 : Option Addr) (c0 : Nat) (l0 : List (S25)) (a1 : Int) (r : Bool) (w : World) (hr0 : Kd.C k25 w A0 l0.length l0) (hc0 : l0.length ≤ c0) (h : thresherlaw1_shift.f k l0 a1 = some r) :
    Calls Try.prog 31 #[.slice A0 l0.length c0, .int .i64 a1] w fun e w' => e = .returned (.bool r) ∧ Below w.heap.size w w' := by
  have HR0 := Aside0.mk hr0
  have HC0 := Aside0.mk hc0
  clear hr0 hc0
  have HB := Aside0.mk (Below.refl w.heap.size w)
  have H : (thresherlaw1_shift.l0 k l0 a1 0) = some r := h
  clear h
  have H' := Aside0.mk H
  clear H
  go_enter Try.func31, Try.ntmps31
  go_wp2
  go_loopg [5] k (fun kq v5 w' => ∃ (x5_1 : Int), v5 = .int .i64 x5_1 ∧ Aside0 (thresherlaw1_shift.l0 kq l0 a1 x5_1 = some r) ∧ Aside0 (kq ≤ k) ∧ Aside0 (Below w.heap.size w w'))
  case atStart => exact ⟨(0), (by first | rfl | (simp; done) | (simp [*]; done)), H', ⟨Nat.le_refl _⟩, ⟨by repeat (first | (with_reducible first | exact HB.out | apply below_alloc | apply pw_below_drewN | apply below_drew1) | exact HB.out)⟩⟩
  case round =>
    clear H'
    try clear p2
    obtain ⟨x5_1, rfl, HA, HK1, HB⟩ := hrel
    cases gk with
    | zero => exact absurd HA.out (by simp [thresherlaw1_shift.l0])
    | succ k1 =>
      have H := HA.out
      clear HA
      simp only [thresherlaw1_shift.l0] at H
      have HC3 := Aside0.mk H
      clear H
      go_upto_region 2 with (fail)
      go_cut [23] (fun v23 wc => ∃ (kq : Nat) (x23_2 : Bool), v23 = .bool x23_2 ∧ Aside0 (thresherlaw1_shift.j1 kq l0 a1 x5_1 x23_2 = some r) ∧ Aside0 (kq ≤ k1) ∧ Aside0 (Below w.heap.size w wc))
      case first =>
        have H := HC3.out
        clear HC3
        by_cases c4 : x5_1 < (l0.length : Int)
        · rw [if_pos c4] at H
          have c4b0 : decide (x5_1 < (l0.length : Int)) = true := decide_eq_true c4
          clear c4
          (first | rw [c4b0] | (simp only [i64_w, i32_w]; rw [c4b0]) | skip)
          have H' := Aside0.mk H
          clear H
          go_wp2
          go_meet
          case rel => exact ⟨_, (decide (x5_1 < 15)), (by first | rfl | (simp; done) | (simp [*]; done)), H', ⟨by have := HK1.out; first | omega | exact Nat.le_refl _⟩, ⟨by repeat (first | (with_reducible first | exact HB.out | apply below_alloc | apply pw_below_drewN | apply below_drew1) | exact HB.out)⟩⟩
        · rw [if_neg c4] at H
          have c4b0 : decide (x5_1 < (l0.length : Int)) = false := decide_eq_false c4
          clear c4
          (first | rw [c4b0] | (simp only [i64_w, i32_w]; rw [c4b0]) | skip)
          have H' := Aside0.mk H
          clear H
          go_wp2
          go_meet
          case rel => exact ⟨_, (false), (by first | rfl | (simp; done) | (simp [*]; done)), H', ⟨by have := HK1.out; first | omega | exact Nat.le_refl _⟩, ⟨by repeat (first | (with_reducible first | exact HB.out | apply below_alloc | apply pw_below_drewN | apply below_drew1) | exact HB.out)⟩⟩
      case rest =>
        clear HC3
        try clear p2
        try clear c3
        try clear c4
        try clear c4b0
        try clear p2
        obtain ⟨kq, x23_2, rfl, HA, HJ2, HB⟩ := hcut
        cases kq with
        | zero => exact absurd HA.out (by simp [thresherlaw1_shift.j1])
        | succ kj2 =>
          have H := HA.out
          clear HA
          simp only [thresherlaw1_shift.j1] at H
          by_cases c5 : x23_2 = true
          · subst c5
            have H1 : (if 0 ≤ x5_1 then (if x5_1 < (l0.length : Int) then (thresherlaw1_shift.l1 kj2 l0 a1 x5_1 ((rd_T25 l0 x5_1).f0) 0) else (none)) else (none)) = some r := by rw [if_pos rfl] at H; exact H
            clear H
            have H := H1
            clear H1
            by_cases c6 : 0 ≤ x5_1
            · rw [if_pos c6] at H
              have c6b0 : decide (0 ≤ x5_1) = true := decide_eq_true c6
              clear c6
              by_cases c7 : x5_1 < (l0.length : Int)
              · rw [if_pos c7] at H
                have c7b0 : decide (x5_1 < (l0.length : Int)) = true := decide_eq_true c7
                clear c7
                have H' := Aside0.mk H
                clear H
                have p118 : 0 ≤ (x5_1 : Int) := of_decide_eq_true (by first | (with_reducible assumption) | assumption)
                have q118 : x5_1 < (l0.length : Int) := of_decide_eq_true (by first | (with_reducible assumption) | assumption)
                obtain ⟨ad118, e118, hx118_0, hx118_1, hx118_2, hx118_3⟩ := at_T25 HR0.out x5_1 p118 q118
                cases e118
                replace hx118_0 := (HB.out.cell (World.block_lt_of_cell? w _ hx118_0)).trans hx118_0
                replace hx118_1 := (HB.out.cell (World.block_lt_of_cell? w _ hx118_1)).trans hx118_1
                replace hx118_2 := (HB.out.cell (World.block_lt_of_cell? w _ hx118_2)).trans hx118_2
                replace hx118_3 := (HB.out.cell (World.block_lt_of_cell? w _ hx118_3)).trans hx118_3
                replace p118 := eq_true p118
                replace q118 := eq_true q118
                go_wp2
                go_loopg [7] kj2 (fun kq v7 w' => ∃ (x7_3 : Int), v7 = .int .i64 x7_3 ∧ Aside0 (thresherlaw1_shift.l1 kq l0 a1 x5_1 ((rd_T25 l0 x5_1).f0) x7_3 = some r) ∧ Aside0 (kq ≤ kj2) ∧ Aside0 (Below w.heap.size w w'))
                case atStart => exact ⟨(0), (by first | rfl | (simp; done) | (simp [*]; done)), H', ⟨Nat.le_refl _⟩, ⟨by repeat (first | (with_reducible first | exact HB.out | apply below_alloc | apply pw_below_drewN | apply below_drew1) | exact HB.out)⟩⟩
                case round =>
                  clear H'
                  try clear p1
                  try clear q1
                  try clear hx1
                  try clear p2
                  try clear c3
                  try clear c4
                  try clear c4b0
                  try clear c5
                  try clear c6
                  try clear c6b0
                  try clear c7
                  try clear c7b0
                  try clear hx118_0
                  try clear hx118_1
                  try clear hx118_2
                  try clear hx118_3
                  try clear p118
                  try clear p2
                  try clear q118
                  obtain ⟨x7_3, rfl, HA, HK3, HB⟩ := hrel
                  cases gk with
                  | zero => exact absurd HA.out (by simp [thresherlaw1_shift.l1])
                  | succ k3 =>
                    have H := HA.out
                    clear HA
                    simp only [thresherlaw1_shift.l1] at H
                    by_cases c8 : x7_3 < 64
                    · rw [if_pos c8] at H
                      have c8b0 : decide (x7_3 < 64) = true := decide_eq_true c8
                      clear c8
                      replace H := Option.bind_eq_some_iff.mp H
                      obtain ⟨⟨t119, t120⟩, A90, H⟩ := H
                      replace H : ((num_Shift.f ((rd_T25 l0 x5_1).f0) (wrap64 (x7_3 - 64)) a1).bind fun bt121 => (if t120 = 0 then (if bt121.2 = 0 then (thresherlaw1_shift.j3 k3 l0 a1 x5_1 ((rd_T25 l0 x5_1).f0) x7_3 t119 (t119 != bt121.1)) else (thresherlaw1_shift.j3 k3 l0 a1 x5_1 ((rd_T25 l0 x5_1).f0) x7_3 t119 true)) else (thresherlaw1_shift.j3 k3 l0 a1 x5_1 ((rd_T25 l0 x5_1).f0) x7_3 t119 true))) = some r := H
                      have A9 := Aside0.mk A90
                      clear A90
                      replace H := Option.bind_eq_some_iff.mp H
                      obtain ⟨⟨t121, t122⟩, A100, H⟩ := H
                      replace H : (if t120 = 0 then (if t122 = 0 then (thresherlaw1_shift.j3 k3 l0 a1 x5_1 ((rd_T25 l0 x5_1).f0) x7_3 t119 (t119 != t121)) else (thresherlaw1_shift.j3 k3 l0 a1 x5_1 ((rd_T25 l0 x5_1).f0) x7_3 t119 true)) else (thresherlaw1_shift.j3 k3 l0 a1 x5_1 ((rd_T25 l0 x5_1).f0) x7_3 t119 true)) = some r := H
                      have A10 := Aside0.mk A100
                      clear A100
                      have HC11 := Aside0.mk H
                      clear H
                      go_upto_region 10 with (first | ((with_reducible refine gate_callee (f := 28) rfl ?_); refine goesL_ (some 39) rfl rfl Try.func28 (by kernel_rfl) rfl #[.int .i64 ((rd_T25 l0 x5_1).f0), .int .i64 x7_3, .int .i64 a1] rfl (by (try simp only [List.map_toArray, List.map_cons, List.map_nil]); first | done | rfl | (simp only [List.length_drop, List.length_take]; rfl)) ?_; (with_reducible refine (num_Shift.calls ((rd_T25 l0 x5_1).f0) x7_3 a1 t119 t120 _ A9.out).mono ?_); rintro e w' ⟨rfl, ⟨nd, rfl⟩⟩; refine ⟨_, rfl, ?_⟩) | ((with_reducible refine gate_callee (f := 28) rfl ?_); refine goesL_ (some 47) rfl rfl Try.func28 (by kernel_rfl) rfl #[.int .i64 ((rd_T25 l0 x5_1).f0), .int .i64 (wrap64 (x7_3 - 64)), .int .i64 a1] rfl (by (try simp only [List.map_toArray, List.map_cons, List.map_nil]); first | done | rfl | (simp only [List.length_drop, List.length_take]; rfl)) ?_; (with_reducible refine (num_Shift.calls ((rd_T25 l0 x5_1).f0) (wrap64 (x7_3 - 64)) a1 t121 t122 _ A10.out).mono ?_); rintro e w' ⟨rfl, ⟨nd, rfl⟩⟩; refine ⟨_, rfl, ?_⟩))
                      (try simp only [Act.put, List.setIfInBounds_toArray, List.set_cons_zero, List.set_cons_succ])
                      go_cut [60] (fun v60 wc => ∃ (kq : Nat) (x60_10 : Bool), v60 = .bool x60_10 ∧ Aside0 (thresherlaw1_shift.j3 kq l0 a1 x5_1 ((rd_T25 l0 x5_1).f0) x7_3 t119 x60_10 = some r) ∧ Aside0 (kq ≤ k3) ∧ Aside0 (Below w.heap.size w wc))
                      case first =>
                        have H := HC11.out
                        clear HC11
                        by_cases c12 : t120 = 0
                        · rw [if_pos c12] at H
                          have c12b0 : (t120 == 0) = true := beq_iff_eq.mpr c12
                          have c12b1 : (t120 != 0) = false := bne_eq_false_iff_eq.mpr c12
                          clear c12
                          (first | rw [c12b0] | (simp only [i64_w, i32_w]; rw [c12b0]) | skip)
                          by_cases c13 : t122 = 0
                          · rw [if_pos c13] at H
                            have c13b0 : (t122 == 0) = true := beq_iff_eq.mpr c13
                            have c13b1 : (t122 != 0) = false := bne_eq_false_iff_eq.mpr c13
                            clear c13
                            have H' := Aside0.mk H
                            clear H
                            go_wp2
                            go_meet
                            case rel => exact ⟨_, ((t119 != t121)), (by first | rfl | (simp; done) | (simp [*]; done)), H', ⟨by have := HK1.out; have := HJ2.out; have := HK3.out; first | omega | exact Nat.le_refl _⟩, ⟨by repeat (first | (with_reducible first | exact HB.out | apply below_alloc | apply pw_below_drewN | apply below_drew1) | exact HB.out)⟩⟩
                          · rw [if_neg c13] at H
                            have c13b0 : (t122 == 0) = false := beq_eq_false_iff_ne.mpr c13
                            have c13b1 : (t122 != 0) = true := bne_iff_ne.mpr c13
                            have H' := Aside0.mk H
                            clear H
                            go_wp2
                            go_meet
                            case rel => exact ⟨_, (true), (by first | rfl | (simp; done) | (simp [*]; done)), H', ⟨by have := HK1.out; have := HJ2.out; have := HK3.out; first | omega | exact Nat.le_refl _⟩, ⟨by repeat (first | (with_reducible first | exact HB.out | apply below_alloc | apply pw_below_drewN | apply below_drew1) | exact HB.out)⟩⟩
                        · rw [if_neg c12] at H
                          have c12b0 : (t120 == 0) = false := beq_eq_false_iff_ne.mpr c12
                          have c12b1 : (t120 != 0) = true := bne_iff_ne.mpr c12
                          (first | rw [c12b0] | (simp only [i64_w, i32_w]; rw [c12b0]) | skip)
                          have H' := Aside0.mk H
                          clear H
                          go_wp2
                          go_meet
                          case rel => exact ⟨_, (true), (by first | rfl | (simp; done) | (simp [*]; done)), H', ⟨by have := HK1.out; have := HJ2.out; have := HK3.out; first | omega | exact Nat.le_refl _⟩, ⟨by repeat (first | (with_reducible first | exact HB.out | apply below_alloc | apply pw_below_drewN | apply below_drew1) | exact HB.out)⟩⟩
                      case rest =>
                        clear HC11
                        try clear c1
                        try clear p1
                        try clear q1
                        try clear hx1
                        try clear c2
                        try clear p2
                        try clear c3
                        try clear c4
                        try clear c4b0
                        try clear c5
                        try clear c6
                        try clear c6b0
                        try clear p6
                        try clear c7
                        try clear c7b0
                        try clear c8
                        try clear c8b0
                        try clear p11
                        try clear q11
                        try clear hx11
                        try clear c12
                        try clear c12b0
                        try clear c12b1
                        try clear c13
                        try clear c13b0
                        try clear c13b1
                        try clear hx118_0
                        try clear hx118_1
                        try clear hx118_2
                        try clear hx118_3
                        try clear p1
                        try clear p118
                        try clear p2
                        try clear q1
                        try clear q118
                        obtain ⟨kq, x60_10, rfl, HA, HJ10, HB⟩ := hcut
                        cases kq with
                        | zero => exact absurd HA.out (by simp [thresherlaw1_shift.j3])
                        | succ kj10 =>
                          have H := HA.out
                          clear HA
                          simp only [thresherlaw1_shift.j3] at H
                          by_cases c14 : x60_10 = true
                          · subst c14
                            have H1 : (some false) = some r := by rw [if_pos rfl] at H; exact H
                            clear H
                            have H := H1
                            clear H1
                            obtain rfl := Option.some.inj H
                            go_wp2
                            go_ret
                            exact ⟨by first | rfl | (simp [errW_none, errW_some] <;> rfl) | (simp [*, errW_none, errW_some] <;> rfl), by repeat (first | (with_reducible first | exact HB.out | apply below_alloc | apply pw_below_drewN | apply below_drew1) | exact HB.out)⟩
                          · replace c14 := Bool.eq_false_iff.mpr c14
                            subst c14
                            have H1 : ((num_Shift.f t119 1 a1).bind fun bt123 => ((num_Shift.f ((rd_T25 l0 x5_1).f0) (wrap64 (x7_3 + 1)) a1).bind fun bt125 => (if bt123.2 = 0 then (if bt125.2 = 0 then (if x7_3 < 63 then (if bt123.1 = bt125.1 then (if x7_3 = 63 then (thresherlaw1_shift.j4 kj10 l0 a1 x5_1 ((rd_T25 l0 x5_1).f0) x7_3 t119 bt123.1 (bt125.1 != ((rd_T25 l0 x5_1).f0))) else (thresherlaw1_shift.j4 kj10 l0 a1 x5_1 ((rd_T25 l0 x5_1).f0) x7_3 t119 bt123.1 false)) else (thresherlaw1_shift.j4 kj10 l0 a1 x5_1 ((rd_T25 l0 x5_1).f0) x7_3 t119 bt123.1 true)) else (if x7_3 = 63 then (thresherlaw1_shift.j4 kj10 l0 a1 x5_1 ((rd_T25 l0 x5_1).f0) x7_3 t119 bt123.1 (bt125.1 != ((rd_T25 l0 x5_1).f0))) else (thresherlaw1_shift.j4 kj10 l0 a1 x5_1 ((rd_T25 l0 x5_1).f0) x7_3 t119 bt123.1 false))) else (thresherlaw1_shift.j4 kj10 l0 a1 x5_1 ((rd_T25 l0 x5_1).f0) x7_3 t119 bt123.1 true)) else (thresherlaw1_shift.j4 kj10 l0 a1 x5_1 ((rd_T25 l0 x5_1).f0) x7_3 t119 bt123.1 true)))) = some r := by rw [if_neg (show ¬ (false = true) by decide)] at H; exact H
                            clear H
                            have H := H1
                            clear H1
                            replace H := Option.bind_eq_some_iff.mp H
                            obtain ⟨⟨t123, t124⟩, A150, H⟩ := H
                            replace H : ((num_Shift.f ((rd_T25 l0 x5_1).f0) (wrap64 (x7_3 + 1)) a1).bind fun bt125 => (if t124 = 0 then (if bt125.2 = 0 then (if x7_3 < 63 then (if t123 = bt125.1 then (if x7_3 = 63 then (thresherlaw1_shift.j4 kj10 l0 a1 x5_1 ((rd_T25 l0 x5_1).f0) x7_3 t119 t123 (bt125.1 != ((rd_T25 l0 x5_1).f0))) else (thresherlaw1_shift.j4 kj10 l0 a1 x5_1 ((rd_T25 l0 x5_1).f0) x7_3 t119 t123 false)) else (thresherlaw1_shift.j4 kj10 l0 a1 x5_1 ((rd_T25 l0 x5_1).f0) x7_3 t119 t123 true)) else (if x7_3 = 63 then (thresherlaw1_shift.j4 kj10 l0 a1 x5_1 ((rd_T25 l0 x5_1).f0) x7_3 t119 t123 (bt125.1 != ((rd_T25 l0 x5_1).f0))) else (thresherlaw1_shift.j4 kj10 l0 a1 x5_1 ((rd_T25 l0 x5_1).f0) x7_3 t119 t123 false))) else (thresherlaw1_shift.j4 kj10 l0 a1 x5_1 ((rd_T25 l0 x5_1).f0) x7_3 t119 t123 true)) else (thresherlaw1_shift.j4 kj10 l0 a1 x5_1 ((rd_T25 l0 x5_1).f0) x7_3 t119 t123 true))) = some r := H
                            have A15 := Aside0.mk A150
                            clear A150
                            replace H := Option.bind_eq_some_iff.mp H
                            obtain ⟨⟨t125, t126⟩, A160, H⟩ := H
                            replace H : (if t124 = 0 then (if t126 = 0 then (if x7_3 < 63 then (if t123 = t125 then (if x7_3 = 63 then (thresherlaw1_shift.j4 kj10 l0 a1 x5_1 ((rd_T25 l0 x5_1).f0) x7_3 t119 t123 (t125 != ((rd_T25 l0 x5_1).f0))) else (thresherlaw1_shift.j4 kj10 l0 a1 x5_1 ((rd_T25 l0 x5_1).f0) x7_3 t119 t123 false)) else (thresherlaw1_shift.j4 kj10 l0 a1 x5_1 ((rd_T25 l0 x5_1).f0) x7_3 t119 t123 true)) else (if x7_3 = 63 then (thresherlaw1_shift.j4 kj10 l0 a1 x5_1 ((rd_T25 l0 x5_1).f0) x7_3 t119 t123 (t125 != ((rd_T25 l0 x5_1).f0))) else (thresherlaw1_shift.j4 kj10 l0 a1 x5_1 ((rd_T25 l0 x5_1).f0) x7_3 t119 t123 false))) else (thresherlaw1_shift.j4 kj10 l0 a1 x5_1 ((rd_T25 l0 x5_1).f0) x7_3 t119 t123 true)) else (thresherlaw1_shift.j4 kj10 l0 a1 x5_1 ((rd_T25 l0 x5_1).f0) x7_3 t119 t123 true)) = some r := H
                            have A16 := Aside0.mk A160
                            clear A160
                            have HC17 := Aside0.mk H
                            clear H
                            go_upto_region 14 with (first | ((with_reducible refine gate_callee (f := 28) rfl ?_); refine goesL_ (some 64) rfl rfl Try.func28 (by kernel_rfl) rfl #[.int .i64 t119, .int .i64 1, .int .i64 a1] rfl (by (try simp only [List.map_toArray, List.map_cons, List.map_nil]); first | done | rfl | (simp only [List.length_drop, List.length_take]; rfl)) ?_; (with_reducible refine (num_Shift.calls t119 1 a1 t123 t124 _ A15.out).mono ?_); rintro e w' ⟨rfl, ⟨nd, rfl⟩⟩; refine ⟨_, rfl, ?_⟩) | ((with_reducible refine gate_callee (f := 28) rfl ?_); refine goesL_ (some 72) rfl rfl Try.func28 (by kernel_rfl) rfl #[.int .i64 ((rd_T25 l0 x5_1).f0), .int .i64 (wrap64 (x7_3 + 1)), .int .i64 a1] rfl (by (try simp only [List.map_toArray, List.map_cons, List.map_nil]); first | done | rfl | (simp only [List.length_drop, List.length_take]; rfl)) ?_; (with_reducible refine (num_Shift.calls ((rd_T25 l0 x5_1).f0) (wrap64 (x7_3 + 1)) a1 t125 t126 _ A16.out).mono ?_); rintro e w' ⟨rfl, ⟨nd, rfl⟩⟩; refine ⟨_, rfl, ?_⟩))
                            (try simp only [Act.put, List.setIfInBounds_toArray, List.set_cons_zero, List.set_cons_succ])
                            go_cut [98] (fun v98 wc => ∃ (kq : Nat) (x98_16 : Bool), v98 = .bool x98_16 ∧ Aside0 (thresherlaw1_shift.j4 kq l0 a1 x5_1 ((rd_T25 l0 x5_1).f0) x7_3 t119 t123 x98_16 = some r) ∧ Aside0 (kq ≤ kj10) ∧ Aside0 (Below w.heap.size w wc))
                            case first =>
                              have H := HC17.out
                              clear HC17
                              by_cases c18 : t124 = 0
                              · rw [if_pos c18] at H
                                have c18b0 : (t124 == 0) = true := beq_iff_eq.mpr c18
                                have c18b1 : (t124 != 0) = false := bne_eq_false_iff_eq.mpr c18
                                clear c18
                                (first | rw [c18b0] | (simp only [i64_w, i32_w]; rw [c18b0]) | skip)
                                by_cases c19 : t126 = 0
                                · rw [if_pos c19] at H
                                  have c19b0 : (t126 == 0) = true := beq_iff_eq.mpr c19
                                  have c19b1 : (t126 != 0) = false := bne_eq_false_iff_eq.mpr c19
                                  clear c19
                                  by_cases c20 : x7_3 < 63
                                  · rw [if_pos c20] at H
                                    have c20b0 : decide (x7_3 < 63) = true := decide_eq_true c20
                                    clear c20
                                    by_cases c21 : t123 = t125
                                    · rw [if_pos c21] at H
                                      have c21b0 : (t123 == t125) = true := beq_iff_eq.mpr c21
                                      have c21b1 : (t123 != t125) = false := bne_eq_false_iff_eq.mpr c21
                                      clear c21
                                      by_cases c22 : x7_3 = 63
                                      · rw [if_pos c22] at H
                                        have c22b0 : (x7_3 == 63) = true := beq_iff_eq.mpr c22
                                        have c22b1 : (x7_3 != 63) = false := bne_eq_false_iff_eq.mpr c22
                                        clear c22
                                        have H' := Aside0.mk H
                                        clear H
                                        go_wp2
                                        go_meet
                                        case rel => exact ⟨_, ((t125 != ((rd_T25 l0 x5_1).f0))), (by first | rfl | (simp; done) | (simp [*]; done)), H', ⟨by have := HK1.out; have := HJ2.out; have := HK3.out; have := HJ10.out; first | omega | exact Nat.le_refl _⟩, ⟨by repeat (first | (with_reducible first | exact HB.out | apply below_alloc | apply pw_below_drewN | apply below_drew1) | exact HB.out)⟩⟩
                                      · rw [if_neg c22] at H
                                        have c22b0 : (x7_3 == 63) = false := beq_eq_false_iff_ne.mpr c22
                                        have c22b1 : (x7_3 != 63) = true := bne_iff_ne.mpr c22
                                        have H' := Aside0.mk H
                                        clear H
                                        go_wp2
                                        go_meet
                                        case rel => exact ⟨_, (false), (by first | rfl | (simp; done) | (simp [*]; done)), H', ⟨by have := HK1.out; have := HJ2.out; have := HK3.out; have := HJ10.out; first | omega | exact Nat.le_refl _⟩, ⟨by repeat (first | (with_reducible first | exact HB.out | apply below_alloc | apply pw_below_drewN | apply below_drew1) | exact HB.out)⟩⟩
                                    · rw [if_neg c21] at H
                                      have c21b0 : (t123 == t125) = false := beq_eq_false_iff_ne.mpr c21
                                      have c21b1 : (t123 != t125) = true := bne_iff_ne.mpr c21
                                      have H' := Aside0.mk H
                                      clear H
                                      go_wp2
                                      go_meet
                                      case rel => exact ⟨_, (true), (by first | rfl | (simp; done) | (simp [*]; done)), H', ⟨by have := HK1.out; have := HJ2.out; have := HK3.out; have := HJ10.out; first | omega | exact Nat.le_refl _⟩, ⟨by repeat (first | (with_reducible first | exact HB.out | apply below_alloc | apply pw_below_drewN | apply below_drew1) | exact HB.out)⟩⟩
                                  · rw [if_neg c20] at H
                                    have c20b0 : decide (x7_3 < 63) = false := decide_eq_false c20
                                    clear c20
                                    by_cases c23 : x7_3 = 63
                                    · rw [if_pos c23] at H
                                      have c23b0 : (x7_3 == 63) = true := beq_iff_eq.mpr c23
                                      have c23b1 : (x7_3 != 63) = false := bne_eq_false_iff_eq.mpr c23
                                      clear c23
                                      have H' := Aside0.mk H
                                      clear H
                                      go_wp2
                                      go_meet
                                      case rel => exact ⟨_, ((t125 != ((rd_T25 l0 x5_1).f0))), (by first | rfl | (simp; done) | (simp [*]; done)), H', ⟨by have := HK1.out; have := HJ2.out; have := HK3.out; have := HJ10.out; first | omega | exact Nat.le_refl _⟩, ⟨by repeat (first | (with_reducible first | exact HB.out | apply below_alloc | apply pw_below_drewN | apply below_drew1) | exact HB.out)⟩⟩
                                    · rw [if_neg c23] at H
                                      have c23b0 : (x7_3 == 63) = false := beq_eq_false_iff_ne.mpr c23
                                      have c23b1 : (x7_3 != 63) = true := bne_iff_ne.mpr c23
                                      have H' := Aside0.mk H
                                      clear H
                                      go_wp2
                                      go_meet
                                      case rel => exact ⟨_, (false), (by first | rfl | (simp; done) | (simp [*]; done)), H', ⟨by have := HK1.out; have := HJ2.out; have := HK3.out; have := HJ10.out; first | omega | exact Nat.le_refl _⟩, ⟨by repeat (first | (with_reducible first | exact HB.out | apply below_alloc | apply pw_below_drewN | apply below_drew1) | exact HB.out)⟩⟩
                                · rw [if_neg c19] at H
                                  have c19b0 : (t126 == 0) = false := beq_eq_false_iff_ne.mpr c19
                                  have c19b1 : (t126 != 0) = true := bne_iff_ne.mpr c19
                                  have H' := Aside0.mk H
                                  clear H
                                  go_wp2
                                  go_meet
                                  case rel => exact ⟨_, (true), (by first | rfl | (simp; done) | (simp [*]; done)), H', ⟨by have := HK1.out; have := HJ2.out; have := HK3.out; have := HJ10.out; first | omega | exact Nat.le_refl _⟩, ⟨by repeat (first | (with_reducible first | exact HB.out | apply below_alloc | apply pw_below_drewN | apply below_drew1) | exact HB.out)⟩⟩
                              · rw [if_neg c18] at H
                                have c18b0 : (t124 == 0) = false := beq_eq_false_iff_ne.mpr c18
                                have c18b1 : (t124 != 0) = true := bne_iff_ne.mpr c18
                                (first | rw [c18b0] | (simp only [i64_w, i32_w]; rw [c18b0]) | skip)
                                have H' := Aside0.mk H
                                clear H
                                go_wp2
                                go_meet
                                case rel => exact ⟨_, (true), (by first | rfl | (simp; done) | (simp [*]; done)), H', ⟨by have := HK1.out; have := HJ2.out; have := HK3.out; have := HJ10.out; first | omega | exact Nat.le_refl _⟩, ⟨by repeat (first | (with_reducible first | exact HB.out | apply below_alloc | apply pw_below_drewN | apply below_drew1) | exact HB.out)⟩⟩
                            case rest =>
                              clear HC17
                              try clear c1
                              try clear p1
                              try clear q1
                              try clear hx1
                              try clear c2
                              try clear p2
                              try clear c3
                              try clear c4
                              try clear c4b0
                              try clear c5
                              try clear c6
                              try clear c6b0
                              try clear p6
                              try clear c7
                              try clear c7b0
                              try clear c8
                              try clear c8b0
                              try clear p11
                              try clear q11
                              try clear hx11
                              try clear c12
                              try clear c12b0
                              try clear c12b1
                              try clear c13
                              try clear c13b0
                              try clear c13b1
                              try clear c14
                              try clear c18
                              try clear c18b0
                              try clear c18b1
                              try clear c19
                              try clear c19b0
                              try clear c19b1
                              try clear c20
                              try clear c20b0
                              try clear c21
                              try clear c21b0
                              try clear c21b1
                              try clear c22
                              try clear c22b0
                              try clear c22b1
                              try clear c23
                              try clear c23b0
                              try clear c23b1
                              try clear hx118_0
                              try clear hx118_1
                              try clear hx118_2
                              try clear hx118_3
                              try clear p1
                              try clear p11
                              try clear p118
                              try clear p2
                              try clear p6
                              try clear q1
                              try clear q11
                              try clear q118
                              obtain ⟨kq, x98_16, rfl, HA, HJ16, HB⟩ := hcut
                              cases kq with
                              | zero => exact absurd HA.out (by simp [thresherlaw1_shift.j4])
                              | succ kj16 =>
                                have H := HA.out
                                clear HA
                                simp only [thresherlaw1_shift.j4] at H
                                by_cases c24 : x98_16 = true
                                · subst c24
                                  have H1 : (some false) = some r := by rw [if_pos rfl] at H; exact H
                                  clear H
                                  have H := H1
                                  clear H1
                                  obtain rfl := Option.some.inj H
                                  go_wp2
                                  go_ret
                                  exact ⟨by first | rfl | (simp [errW_none, errW_some] <;> rfl) | (simp [*, errW_none, errW_some] <;> rfl), by repeat (first | (with_reducible first | exact HB.out | apply below_alloc | apply pw_below_drewN | apply below_drew1) | exact HB.out)⟩
                                · replace c24 := Bool.eq_false_iff.mpr c24
                                  subst c24
                                  have H1 : (if a1 = 0 then (if t123 = (wrap64 (t119 + t119)) then (if a1 = 1 then (if (wrap64 (t123 + t123)) = (Go.bits .andNot .i64 t119 1) then (if a1 = 2 then (if (IntKind.u64.wrap (t123)) = (IntKind.u64.wrap (Int.tdiv (IntKind.u64.wrap (t119)) 2)) then (thresherlaw1_shift.l1 kj16 l0 a1 x5_1 ((rd_T25 l0 x5_1).f0) (wrap64 (x7_3 + 1))) else (some false)) else (thresherlaw1_shift.l1 kj16 l0 a1 x5_1 ((rd_T25 l0 x5_1).f0) (wrap64 (x7_3 + 1)))) else (some false)) else (if a1 = 2 then (if (IntKind.u64.wrap (t123)) = (IntKind.u64.wrap (Int.tdiv (IntKind.u64.wrap (t119)) 2)) then (thresherlaw1_shift.l1 kj16 l0 a1 x5_1 ((rd_T25 l0 x5_1).f0) (wrap64 (x7_3 + 1))) else (some false)) else (thresherlaw1_shift.l1 kj16 l0 a1 x5_1 ((rd_T25 l0 x5_1).f0) (wrap64 (x7_3 + 1))))) else (some false)) else (if a1 = 1 then (if (wrap64 (t123 + t123)) = (Go.bits .andNot .i64 t119 1) then (if a1 = 2 then (if (IntKind.u64.wrap (t123)) = (IntKind.u64.wrap (Int.tdiv (IntKind.u64.wrap (t119)) 2)) then (thresherlaw1_shift.l1 kj16 l0 a1 x5_1 ((rd_T25 l0 x5_1).f0) (wrap64 (x7_3 + 1))) else (some false)) else (thresherlaw1_shift.l1 kj16 l0 a1 x5_1 ((rd_T25 l0 x5_1).f0) (wrap64 (x7_3 + 1)))) else (some false)) else (if a1 = 2 then (if (IntKind.u64.wrap (t123)) = (IntKind.u64.wrap (Int.tdiv (IntKind.u64.wrap (t119)) 2)) then (thresherlaw1_shift.l1 kj16 l0 a1 x5_1 ((rd_T25 l0 x5_1).f0) (wrap64 (x7_3 + 1))) else (some false)) else (thresherlaw1_shift.l1 kj16 l0 a1 x5_1 ((rd_T25 l0 x5_1).f0) (wrap64 (x7_3 + 1)))))) = some r := by rw [if_neg (show ¬ (false = true) by decide)] at H; exact H
                                  clear H
                                  have H := H1
                                  clear H1
                                  by_cases c25 : a1 = 0
                                  · rw [if_pos c25] at H
                                    have c25b0 : (a1 == 0) = true := beq_iff_eq.mpr c25
                                    have c25b1 : (a1 != 0) = false := bne_eq_false_iff_eq.mpr c25
                                    clear c25
                                    by_cases c26 : t123 = (wrap64 (t119 + t119))
                                    · rw [if_pos c26] at H
                                      have c26b0 : (t123 == (wrap64 (t119 + t119))) = true := beq_iff_eq.mpr c26
                                      have c26b1 : (t123 != (wrap64 (t119 + t119))) = false := bne_eq_false_iff_eq.mpr c26
                                      clear c26
                                      by_cases c27 : a1 = 1
                                      · rw [if_pos c27] at H
                                        have c27b0 : (a1 == 1) = true := beq_iff_eq.mpr c27
                                        have c27b1 : (a1 != 1) = false := bne_eq_false_iff_eq.mpr c27
                                        clear c27
                                        by_cases c28 : (wrap64 (t123 + t123)) = (Go.bits .andNot .i64 t119 1)
                                        · rw [if_pos c28] at H
                                          have c28b0 : ((wrap64 (t123 + t123)) == (Go.bits .andNot .i64 t119 1)) = true := beq_iff_eq.mpr c28
                                          have c28b1 : ((wrap64 (t123 + t123)) != (Go.bits .andNot .i64 t119 1)) = false := bne_eq_false_iff_eq.mpr c28
                                          clear c28
                                          by_cases c29 : a1 = 2
                                          · rw [if_pos c29] at H
                                            have c29b0 : (a1 == 2) = true := beq_iff_eq.mpr c29
                                            have c29b1 : (a1 != 2) = false := bne_eq_false_iff_eq.mpr c29
                                            clear c29
                                            by_cases c30 : (IntKind.u64.wrap (t123)) = (IntKind.u64.wrap (Int.tdiv (IntKind.u64.wrap (t119)) 2))
                                            · rw [if_pos c30] at H
                                              have c30b0 : ((IntKind.u64.wrap (t123)) == (IntKind.u64.wrap (Int.tdiv (IntKind.u64.wrap (t119)) 2))) = true := beq_iff_eq.mpr c30
                                              have c30b1 : ((IntKind.u64.wrap (t123)) != (IntKind.u64.wrap (Int.tdiv (IntKind.u64.wrap (t119)) 2))) = false := bne_eq_false_iff_eq.mpr c30
                                              clear c30
                                              have H' := Aside0.mk H
                                              clear H
                                              go_wp2
                                              go_roundg kj16
                                              case measure => have := HK1.out; have := HJ2.out; have := HK3.out; have := HJ10.out; have := HJ16.out; omega
                                              case rel => exact ⟨(wrap64 (x7_3 + 1)), (by first | rfl | (simp; done) | (simp [*]; done)), H', ⟨by have := HK1.out; have := HJ2.out; have := HK3.out; have := HJ10.out; have := HJ16.out; omega⟩, ⟨by repeat (first | (with_reducible first | exact HB.out | apply below_alloc | apply pw_below_drewN | apply below_drew1) | exact HB.out)⟩⟩
                                            · rw [if_neg c30] at H
                                              have c30b0 : ((IntKind.u64.wrap (t123)) == (IntKind.u64.wrap (Int.tdiv (IntKind.u64.wrap (t119)) 2))) = false := beq_eq_false_iff_ne.mpr c30
                                              have c30b1 : ((IntKind.u64.wrap (t123)) != (IntKind.u64.wrap (Int.tdiv (IntKind.u64.wrap (t119)) 2))) = true := bne_iff_ne.mpr c30
                                              obtain rfl := Option.some.inj H
                                              go_wp2
                                              go_ret
                                              exact ⟨by first | rfl | (simp [errW_none, errW_some] <;> rfl) | (simp [*, errW_none, errW_some] <;> rfl), by repeat (first | (with_reducible first | exact HB.out | apply below_alloc | apply pw_below_drewN | apply below_drew1) | exact HB.out)⟩
                                          · rw [if_neg c29] at H
                                            have c29b0 : (a1 == 2) = false := beq_eq_false_iff_ne.mpr c29
                                            have c29b1 : (a1 != 2) = true := bne_iff_ne.mpr c29
                                            have H' := Aside0.mk H
                                            clear H
                                            go_wp2
                                            go_roundg kj16
                                            case measure => have := HK1.out; have := HJ2.out; have := HK3.out; have := HJ10.out; have := HJ16.out; omega
                                            case rel => exact ⟨(wrap64 (x7_3 + 1)), (by first | rfl | (simp; done) | (simp [*]; done)), H', ⟨by have := HK1.out; have := HJ2.out; have := HK3.out; have := HJ10.out; have := HJ16.out; omega⟩, ⟨by repeat (first | (with_reducible first | exact HB.out | apply below_alloc | apply pw_below_drewN | apply below_drew1) | exact HB.out)⟩⟩
                                        · rw [if_neg c28] at H
                                          have c28b0 : ((wrap64 (t123 + t123)) == (Go.bits .andNot .i64 t119 1)) = false := beq_eq_false_iff_ne.mpr c28
                                          have c28b1 : ((wrap64 (t123 + t123)) != (Go.bits .andNot .i64 t119 1)) = true := bne_iff_ne.mpr c28
                                          obtain rfl := Option.some.inj H
                                          go_wp2
                                          go_ret
                                          exact ⟨by first | rfl | (simp [errW_none, errW_some] <;> rfl) | (simp [*, errW_none, errW_some] <;> rfl), by repeat (first | (with_reducible first | exact HB.out | apply below_alloc | apply pw_below_drewN | apply below_drew1) | exact HB.out)⟩
                                      · rw [if_neg c27] at H
                                        have c27b0 : (a1 == 1) = false := beq_eq_false_iff_ne.mpr c27
                                        have c27b1 : (a1 != 1) = true := bne_iff_ne.mpr c27
                                        by_cases c31 : a1 = 2
                                        · rw [if_pos c31] at H
                                          have c31b0 : (a1 == 2) = true := beq_iff_eq.mpr c31
                                          have c31b1 : (a1 != 2) = false := bne_eq_false_iff_eq.mpr c31
                                          clear c31
                                          by_cases c32 : (IntKind.u64.wrap (t123)) = (IntKind.u64.wrap (Int.tdiv (IntKind.u64.wrap (t119)) 2))
                                          · rw [if_pos c32] at H
                                            have c32b0 : ((IntKind.u64.wrap (t123)) == (IntKind.u64.wrap (Int.tdiv (IntKind.u64.wrap (t119)) 2))) = true := beq_iff_eq.mpr c32
                                            have c32b1 : ((IntKind.u64.wrap (t123)) != (IntKind.u64.wrap (Int.tdiv (IntKind.u64.wrap (t119)) 2))) = false := bne_eq_false_iff_eq.mpr c32
                                            clear c32
                                            have H' := Aside0.mk H
                                            clear H
                                            go_wp2
                                            go_roundg kj16
                                            case measure => have := HK1.out; have := HJ2.out; have := HK3.out; have := HJ10.out; have := HJ16.out; omega
                                            case rel => exact ⟨(wrap64 (x7_3 + 1)), (by first | rfl | (simp; done) | (simp [*]; done)), H', ⟨by have := HK1.out; have := HJ2.out; have := HK3.out; have := HJ10.out; have := HJ16.out; omega⟩, ⟨by repeat (first | (with_reducible first | exact HB.out | apply below_alloc | apply pw_below_drewN | apply below_drew1) | exact HB.out)⟩⟩
                                          · rw [if_neg c32] at H
                                            have c32b0 : ((IntKind.u64.wrap (t123)) == (IntKind.u64.wrap (Int.tdiv (IntKind.u64.wrap (t119)) 2))) = false := beq_eq_false_iff_ne.mpr c32
                                            have c32b1 : ((IntKind.u64.wrap (t123)) != (IntKind.u64.wrap (Int.tdiv (IntKind.u64.wrap (t119)) 2))) = true := bne_iff_ne.mpr c32
                                            obtain rfl := Option.some.inj H
                                            go_wp2
                                            go_ret
                                            exact ⟨by first | rfl | (simp [errW_none, errW_some] <;> rfl) | (simp [*, errW_none, errW_some] <;> rfl), by repeat (first | (with_reducible first | exact HB.out | apply below_alloc | apply pw_below_drewN | apply below_drew1) | exact HB.out)⟩
                                        · rw [if_neg c31] at H
                                          have c31b0 : (a1 == 2) = false := beq_eq_false_iff_ne.mpr c31
                                          have c31b1 : (a1 != 2) = true := bne_iff_ne.mpr c31
                                          have H' := Aside0.mk H
                                          clear H
                                          go_wp2
                                          go_roundg kj16
                                          case measure => have := HK1.out; have := HJ2.out; have := HK3.out; have := HJ10.out; have := HJ16.out; omega
                                          case rel => exact ⟨(wrap64 (x7_3 + 1)), (by first | rfl | (simp; done) | (simp [*]; done)), H', ⟨by have := HK1.out; have := HJ2.out; have := HK3.out; have := HJ10.out; have := HJ16.out; omega⟩, ⟨by repeat (first | (with_reducible first | exact HB.out | apply below_alloc | apply pw_below_drewN | apply below_drew1) | exact HB.out)⟩⟩
                                    · rw [if_neg c26] at H
                                      have c26b0 : (t123 == (wrap64 (t119 + t119))) = false := beq_eq_false_iff_ne.mpr c26
                                      have c26b1 : (t123 != (wrap64 (t119 + t119))) = true := bne_iff_ne.mpr c26
                                      obtain rfl := Option.some.inj H
                                      go_wp2
                                      go_ret
                                      exact ⟨by first | rfl | (simp [errW_none, errW_some] <;> rfl) | (simp [*, errW_none, errW_some] <;> rfl), by repeat (first | (with_reducible first | exact HB.out | apply below_alloc | apply pw_below_drewN | apply below_drew1) | exact HB.out)⟩
                                  · rw [if_neg c25] at H
                                    have c25b0 : (a1 == 0) = false := beq_eq_false_iff_ne.mpr c25
                                    have c25b1 : (a1 != 0) = true := bne_iff_ne.mpr c25
                                    by_cases c33 : a1 = 1
                                    · rw [if_pos c33] at H
                                      have c33b0 : (a1 == 1) = true := beq_iff_eq.mpr c33
                                      have c33b1 : (a1 != 1) = false := bne_eq_false_iff_eq.mpr c33
                                      clear c33
                                      by_cases c34 : (wrap64 (t123 + t123)) = (Go.bits .andNot .i64 t119 1)
                                      · rw [if_pos c34] at H
                                        have c34b0 : ((wrap64 (t123 + t123)) == (Go.bits .andNot .i64 t119 1)) = true := beq_iff_eq.mpr c34
                                        have c34b1 : ((wrap64 (t123 + t123)) != (Go.bits .andNot .i64 t119 1)) = false := bne_eq_false_iff_eq.mpr c34
                                        clear c34
                                        by_cases c35 : a1 = 2
                                        · rw [if_pos c35] at H
                                          have c35b0 : (a1 == 2) = true := beq_iff_eq.mpr c35
                                          have c35b1 : (a1 != 2) = false := bne_eq_false_iff_eq.mpr c35
                                          clear c35
                                          by_cases c36 : (IntKind.u64.wrap (t123)) = (IntKind.u64.wrap (Int.tdiv (IntKind.u64.wrap (t119)) 2))
                                          · rw [if_pos c36] at H
                                            have c36b0 : ((IntKind.u64.wrap (t123)) == (IntKind.u64.wrap (Int.tdiv (IntKind.u64.wrap (t119)) 2))) = true := beq_iff_eq.mpr c36
                                            have c36b1 : ((IntKind.u64.wrap (t123)) != (IntKind.u64.wrap (Int.tdiv (IntKind.u64.wrap (t119)) 2))) = false := bne_eq_false_iff_eq.mpr c36
                                            clear c36
                                            have H' := Aside0.mk H
                                            clear H
                                            go_wp2
                                            go_roundg kj16
                                            case measure => have := HK1.out; have := HJ2.out; have := HK3.out; have := HJ10.out; have := HJ16.out; omega
                                            case rel => exact ⟨(wrap64 (x7_3 + 1)), (by first | rfl | (simp; done) | (simp [*]; done)), H', ⟨by have := HK1.out; have := HJ2.out; have := HK3.out; have := HJ10.out; have := HJ16.out; omega⟩, ⟨by repeat (first | (with_reducible first | exact HB.out | apply below_alloc | apply pw_below_drewN | apply below_drew1) | exact HB.out)⟩⟩
                                          · rw [if_neg c36] at H
                                            have c36b0 : ((IntKind.u64.wrap (t123)) == (IntKind.u64.wrap (Int.tdiv (IntKind.u64.wrap (t119)) 2))) = false := beq_eq_false_iff_ne.mpr c36
                                            have c36b1 : ((IntKind.u64.wrap (t123)) != (IntKind.u64.wrap (Int.tdiv (IntKind.u64.wrap (t119)) 2))) = true := bne_iff_ne.mpr c36
                                            obtain rfl := Option.some.inj H
                                            go_wp2
                                            go_ret
                                            exact ⟨by first | rfl | (simp [errW_none, errW_some] <;> rfl) | (simp [*, errW_none, errW_some] <;> rfl), by repeat (first | (with_reducible first | exact HB.out | apply below_alloc | apply pw_below_drewN | apply below_drew1) | exact HB.out)⟩
                                        · rw [if_neg c35] at H
                                          have c35b0 : (a1 == 2) = false := beq_eq_false_iff_ne.mpr c35
                                          have c35b1 : (a1 != 2) = true := bne_iff_ne.mpr c35
                                          have H' := Aside0.mk H
                                          clear H
                                          go_wp2
                                          go_roundg kj16
                                          case measure => have := HK1.out; have := HJ2.out; have := HK3.out; have := HJ10.out; have := HJ16.out; omega
                                          case rel => exact ⟨(wrap64 (x7_3 + 1)), (by first | rfl | (simp; done) | (simp [*]; done)), H', ⟨by have := HK1.out; have := HJ2.out; have := HK3.out; have := HJ10.out; have := HJ16.out; omega⟩, ⟨by repeat (first | (with_reducible first | exact HB.out | apply below_alloc | apply pw_below_drewN | apply below_drew1) | exact HB.out)⟩⟩
                                      · rw [if_neg c34] at H
                                        have c34b0 : ((wrap64 (t123 + t123)) == (Go.bits .andNot .i64 t119 1)) = false := beq_eq_false_iff_ne.mpr c34
                                        have c34b1 : ((wrap64 (t123 + t123)) != (Go.bits .andNot .i64 t119 1)) = true := bne_iff_ne.mpr c34
                                        obtain rfl := Option.some.inj H
                                        go_wp2
                                        go_ret
                                        exact ⟨by first | rfl | (simp [errW_none, errW_some] <;> rfl) | (simp [*, errW_none, errW_some] <;> rfl), by repeat (first | (with_reducible first | exact HB.out | apply below_alloc | apply pw_below_drewN | apply below_drew1) | exact HB.out)⟩
                                    · rw [if_neg c33] at H
                                      have c33b0 : (a1 == 1) = false := beq_eq_false_iff_ne.mpr c33
                                      have c33b1 : (a1 != 1) = true := bne_iff_ne.mpr c33
                                      by_cases c37 : a1 = 2
                                      · rw [if_pos c37] at H
                                        have c37b0 : (a1 == 2) = true := beq_iff_eq.mpr c37
                                        have c37b1 : (a1 != 2) = false := bne_eq_false_iff_eq.mpr c37
                                        clear c37
                                        by_cases c38 : (IntKind.u64.wrap (t123)) = (IntKind.u64.wrap (Int.tdiv (IntKind.u64.wrap (t119)) 2))
                                        · rw [if_pos c38] at H
                                          have c38b0 : ((IntKind.u64.wrap (t123)) == (IntKind.u64.wrap (Int.tdiv (IntKind.u64.wrap (t119)) 2))) = true := beq_iff_eq.mpr c38
                                          have c38b1 : ((IntKind.u64.wrap (t123)) != (IntKind.u64.wrap (Int.tdiv (IntKind.u64.wrap (t119)) 2))) = false := bne_eq_false_iff_eq.mpr c38
                                          clear c38
                                          have H' := Aside0.mk H
                                          clear H
                                          go_wp2
                                          go_roundg kj16
                                          case measure => have := HK1.out; have := HJ2.out; have := HK3.out; have := HJ10.out; have := HJ16.out; omega
                                          case rel => exact ⟨(wrap64 (x7_3 + 1)), (by first | rfl | (simp; done) | (simp [*]; done)), H', ⟨by have := HK1.out; have := HJ2.out; have := HK3.out; have := HJ10.out; have := HJ16.out; omega⟩, ⟨by repeat (first | (with_reducible first | exact HB.out | apply below_alloc | apply pw_below_drewN | apply below_drew1) | exact HB.out)⟩⟩
                                        · rw [if_neg c38] at H
                                          have c38b0 : ((IntKind.u64.wrap (t123)) == (IntKind.u64.wrap (Int.tdiv (IntKind.u64.wrap (t119)) 2))) = false := beq_eq_false_iff_ne.mpr c38
                                          have c38b1 : ((IntKind.u64.wrap (t123)) != (IntKind.u64.wrap (Int.tdiv (IntKind.u64.wrap (t119)) 2))) = true := bne_iff_ne.mpr c38
                                          obtain rfl := Option.some.inj H
                                          go_wp2
                                          go_ret
                                          exact ⟨by first | rfl | (simp [errW_none, errW_some] <;> rfl) | (simp [*, errW_none, errW_some] <;> rfl), by repeat (first | (with_reducible first | exact HB.out | apply below_alloc | apply pw_below_drewN | apply below_drew1) | exact HB.out)⟩
                                      · rw [if_neg c37] at H
                                        have c37b0 : (a1 == 2) = false := beq_eq_false_iff_ne.mpr c37
                                        have c37b1 : (a1 != 2) = true := bne_iff_ne.mpr c37
                                        have H' := Aside0.mk H
                                        clear H
                                        go_wp2
                                        go_roundg kj16
                                        case measure => have := HK1.out; have := HJ2.out; have := HK3.out; have := HJ10.out; have := HJ16.out; omega
                                        case rel => exact ⟨(wrap64 (x7_3 + 1)), (by first | rfl | (simp; done) | (simp [*]; done)), H', ⟨by have := HK1.out; have := HJ2.out; have := HK3.out; have := HJ10.out; have := HJ16.out; omega⟩, ⟨by repeat (first | (with_reducible first | exact HB.out | apply below_alloc | apply pw_below_drewN | apply below_drew1) | exact HB.out)⟩⟩
                    · rw [if_neg c8] at H
                      have c8b0 : decide (x7_3 < 64) = false := decide_eq_false c8
                      clear c8
                      have H' := Aside0.mk H
                      clear H
                      go_wp2
                      go_roundg k3
                      case measure => have := HK1.out; have := HJ2.out; have := HK3.out; omega
                      case rel => exact ⟨(wrap64 (x5_1 + 1)), (by first | rfl | (simp; done) | (simp [*]; done)), H', ⟨by have := HK1.out; have := HJ2.out; have := HK3.out; omega⟩, ⟨by repeat (first | (with_reducible first | exact HB.out | apply below_alloc | apply pw_below_drewN | apply below_drew1) | exact HB.out)⟩⟩
              · rw [if_neg c7] at H
                exact absurd H (by simp)
            · rw [if_neg c6] at H
              exact absurd H (by simp)
          · replace c5 := Bool.eq_false_iff.mpr c5
            subst c5
            have H1 : ((thresherlaw1_wakes.f kj2).bind fun t117 => (some t117)) = some r := by rw [if_neg (show ¬ (false = true) by decide)] at H; exact H
            clear H
            have H := H1
            clear H1
            replace H := Option.bind_eq_some_iff.mp H
            obtain ⟨t117, A390, H⟩ := H
            replace H : (some t117) = some r := H
            have A39 := Aside0.mk A390
            clear A390
            obtain rfl := Option.some.inj H
            go_wp2_with (first | ((with_reducible refine gate_callee (f := 22) rfl ?_); refine goesL_ (some 132) rfl rfl Try.func22 (by kernel_rfl) rfl #[] rfl (by (try simp only [List.map_toArray, List.map_cons, List.map_nil]); first | done | rfl | (simp only [List.length_drop, List.length_take]; rfl)) ?_; (with_reducible refine (thresherlaw1_wakes.calls kj2  t117 _ A39.out).mono ?_); rintro e w40 ⟨rfl, hb⟩; refine ⟨_, rfl, ?_⟩; have n0_ := Aside0.mk (below_step (by repeat (first | (with_reducible first | exact HB.out | apply below_alloc | apply pw_below_drewN | apply below_drew1) | exact HB.out)) hb); clear HB; have HB := n0_; clear n0_; (try clear hb); (try clear hb2); (try clear hk); (try clear hi)))
            go_ret
            exact ⟨by first | rfl | (simp [errW_none, errW_some] <;> rfl) | (simp [*, errW_none, errW_some] <;> rfl), by repeat (first | (with_reducible first | exact HB.out | apply below_alloc | apply pw_below_drewN | apply below_drew1) | exact HB.out)⟩

/-! ### thresherlaw1_ShiftPlains: function 9 -/
def thresherlaw1_ShiftPlains.f (k : Nat) (l0 : List (S25)) : Option (Bool) := (thresherlaw1_shift.f k l0 2).bind fun t127 => (some t127)
theorem thresherlaw1_ShiftPlains.mono : ∀ a0 k, LeO (thresherlaw1_ShiftPlains.f k a0) (thresherlaw1_ShiftPlains.f (k + 1) a0) := by
  intro a0 k
  unfold thresherlaw1_ShiftPlains.f
  repeat' first
      | (with_reducible exact thresherlaw1_shift.mono _ _ _)
      | (with_reducible exact LeO.refl _)
      | (with_reducible exact LeO.none _)
      | (with_reducible refine LeO.ite ?_ ?_)
      | (with_reducible refine LeO.bind ?_ (fun _ => ?_))
      | exact thresherlaw1_shift.mono _ _ _
      | exact LeO.none _
      | refine LeO.ite ?_ ?_
      | refine LeO.bind ?_ (fun _ => ?_)
set_option maxHeartbeats 8000000 in
set_option maxRecDepth 100000 in
theorem thresherlaw1_ShiftPlains.calls (k : Nat) (A0 : Option Addr) (c0 : Nat) (l0 : List (S25)) (r : Bool) (w : World) (hr0 : Kd.C k25 w A0 l0.length l0) (hc0 : l0.length ≤ c0) (h : thresherlaw1_ShiftPlains.f k l0 = some r) :
    Calls Try.prog 9 #[.slice A0 l0.length c0] w fun e w' => e = .returned (.bool r) ∧ Below w.heap.size w w' := by
  have HR0 := Aside0.mk hr0
  have HC0 := Aside0.mk hc0
  clear hr0 hc0
  have HB := Aside0.mk (Below.refl w.heap.size w)
  have H : ((thresherlaw1_shift.f k l0 2).bind fun t127 => (some t127)) = some r := h
  clear h
  replace H := Option.bind_eq_some_iff.mp H
  obtain ⟨t127, A20, H⟩ := H
  replace H : (some t127) = some r := H
  have A2 := Aside0.mk A20
  clear A20
  obtain rfl := Option.some.inj H
  go_enter Try.func9, Try.ntmps9
  go_wp2_with (first | ((with_reducible refine gate_callee (f := 31) rfl ?_); refine goesL_ (some 4) rfl rfl Try.func31 (by kernel_rfl) rfl #[.slice A0 l0.length c0, .int .i64 2] rfl (by (try simp only [List.map_toArray, List.map_cons, List.map_nil]); first | done | rfl | (simp only [List.length_drop, List.length_take]; rfl)) ?_; (with_reducible refine (thresherlaw1_shift.calls k _ _ l0 2 t127 _ ?side1 ?side2 A2.out).mono ?_); (case side1 => repeat (first | exact HR0.out | (with_reducible refine Kd.C_alloc ?_ _) | (with_reducible refine Kd.C_drewN ?_ _) | (with_reducible refine Kd.C_drew ?_))); (case side2 => exact HC0.out); rintro e w3 ⟨rfl, hb⟩; refine ⟨_, rfl, ?_⟩; have n0_ := Aside0.mk (below_step (by repeat (first | (with_reducible first | exact HB.out | apply below_alloc | apply pw_below_drewN | apply below_drew1) | exact HB.out)) hb); clear HB; have HB := n0_; clear n0_; (try clear hb); (try clear hb2); (try clear hk); (try clear hi)))
  go_ret
  exact ⟨by first | rfl | (simp [errW_none, errW_some] <;> rfl) | (simp [*, errW_none, errW_some] <;> rfl), by repeat (first | (with_reducible first | exact HB.out | apply below_alloc | apply pw_below_drewN | apply below_drew1) | exact HB.out)⟩

end Go.Proofs.Ytnjdehldlcmojaa.PShiftPlains
