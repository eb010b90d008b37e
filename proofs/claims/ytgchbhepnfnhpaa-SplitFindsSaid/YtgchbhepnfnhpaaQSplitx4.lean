-- Printed for this claim by a turned copy of the kit's print (wip/patch_print.py): a text of this session.
import Derived.Test.YtgchbhepnfnhpaaQSplitx0
import Derived.Test.YtgchbhepnfnhpaaSteps
import Derived.Test.YtgchbhepnfnhpaaQSplitx3
namespace Go.Proofs.Ytgchbhepnfnhpaa.QSplit
open Go.RowKit Go.Proofs.YtgchbhepnfnhpaaW.PrintWords Go.Proofs.YtgchbhepnfnhpaaW.PrintLast Go.Proofs.YtgchbhepnfnhpaaW.PrintMore Go.Proofs.Ytgchbhepnfnhpaa.Steps
attribute [local go_sem] max2_int min2_int max_two min_two max_three min_three max_four min_four   -- for this text's walks alone
set_option linter.unusedVariables false
set_option linter.unusedSimpArgs false

/-! ### thresherref11_Config: function 24 -/
mutual
def thresherref11_Config.j0 : Nat → Bool → Int → List (S61) → Int → Int → Option (Bool)
 | 0, _, _, _, _, _ => none
 | k + 1, x48, x136000, x136001, x136002, x136003 => if x48 = true then (some false) else (thresherref11_Config.l0 k 0 x136000 x136001 x136002 x136003)
def thresherref11_Config.l0 : Nat → Int → Int → List (S61) → Int → Int → Option (Bool)
 | 0, _, _, _, _, _ => none
 | k + 1, x3, x136000, x136001, x136002, x136003 => if x3 < (x136001.length : Int) then (if 0 ≤ x3 then ((thresherref3_All.f k ((rd_T61 x136001 x3).f1)).bind fun bt138 => ((thresherref0_ID.f ((rd_T61 x136001 x3).f0)).bind fun t142 => (if t142 = true then (if x3 > 0 then (if 0 ≤ (wrap64 (x3 - 1)) then (if (wrap64 (x3 - 1)) < (x136001.length : Int) then (if ((rd_T61 x136001 (wrap64 (x3 - 1))).f0) ≥ ((rd_T61 x136001 x3).f0) then (some false) else (if bt138.2 = 0 then (if (((rd_T61 x136001 x3).f2).length : Int) = 0 then (some false) else ((thresherref0_Rising.f k ((rd_T61 x136001 x3).f2) 1 x136000).bind fun t144 => (if t144 = true then (thresherref11_Config.l0 k (wrap64 (x3 + 1)) x136000 x136001 x136002 x136003) else (some false)))) else (some false))) else (none)) else (none)) else (if bt138.2 = 0 then (if (((rd_T61 x136001 x3).f2).length : Int) = 0 then (some false) else ((thresherref0_Rising.f k ((rd_T61 x136001 x3).f2) 1 x136000).bind fun t145 => (if t145 = true then (thresherref11_Config.l0 k (wrap64 (x3 + 1)) x136000 x136001 x136002 x136003) else (some false)))) else (some false))) else (some false)))) else (none)) else (some true)
end
def thresherref11_Config.f (k : Nat) (a0_0 : Int) (l0_1 : List (S61)) (a0_2 : Int) (a0_3 : Int) : Option (Bool) := if a0_0 < 1 then (thresherref11_Config.j0 k true a0_0 l0_1 a0_2 a0_3) else (if a0_0 > 3 then (thresherref11_Config.j0 k true a0_0 l0_1 a0_2 a0_3) else (if (l0_1.length : Int) > 6 then (thresherref11_Config.j0 k true a0_0 l0_1 a0_2 a0_3) else (if a0_2 < 1 then (thresherref11_Config.j0 k true a0_0 l0_1 a0_2 a0_3) else (if a0_2 > 16 then (thresherref11_Config.j0 k true a0_0 l0_1 a0_2 a0_3) else (if a0_3 < 16 then (thresherref11_Config.j0 k true a0_0 l0_1 a0_2 a0_3) else (if a0_3 > 64 then (thresherref11_Config.j0 k true a0_0 l0_1 a0_2 a0_3) else (thresherref11_Config.j0 k (decide (a0_3 < (wrap64 (2 * a0_2)))) a0_0 l0_1 a0_2 a0_3)))))))
theorem thresherref11_Config.mono_l : ∀ k, (∀ y0 y1 y2 y3 y4, LeO (thresherref11_Config.j0 k y0 y1 y2 y3 y4) (thresherref11_Config.j0 (k + 1) y0 y1 y2 y3 y4)) ∧ (∀ y0 y1 y2 y3 y4, LeO (thresherref11_Config.l0 k y0 y1 y2 y3 y4) (thresherref11_Config.l0 (k + 1) y0 y1 y2 y3 y4))
 | 0 => ⟨fun _ _ _ _ _ r h => by simp [thresherref11_Config.j0] at h, fun _ _ _ _ _ r h => by simp [thresherref11_Config.l0] at h⟩
 | k + 1 => by
  obtain ⟨ih0, ih1⟩ := thresherref11_Config.mono_l k
  refine ⟨?_, ?_⟩
  ·
   intro y0 y1 y2 y3 y4
   unfold thresherref11_Config.j0
   repeat' first
   | (with_reducible exact ih0 _ _ _ _ _)
   | (with_reducible exact ih1 _ _ _ _ _)
   | (with_reducible exact thresherref0_Rising.mono _ _ _ _)
   | (with_reducible exact thresherref3_All.mono _ _)
   | (with_reducible exact LeO.refl _)
   | (with_reducible exact LeO.none _)
   | (with_reducible refine LeO.ite ?_ ?_)
   | (with_reducible refine LeO.bind ?_ (fun _ => ?_))
   | exact ih0 _ _ _ _ _
   | exact ih1 _ _ _ _ _
   | exact thresherref0_Rising.mono _ _ _ _
   | exact thresherref3_All.mono _ _
   | exact LeO.none _
   | refine LeO.ite ?_ ?_
   | refine LeO.bind ?_ (fun _ => ?_)
  ·
   intro y0 y1 y2 y3 y4
   unfold thresherref11_Config.l0
   repeat' first
   | (with_reducible exact ih0 _ _ _ _ _)
   | (with_reducible exact ih1 _ _ _ _ _)
   | (with_reducible exact thresherref0_Rising.mono _ _ _ _)
   | (with_reducible exact thresherref3_All.mono _ _)
   | (with_reducible exact LeO.refl _)
   | (with_reducible exact LeO.none _)
   | (with_reducible refine LeO.ite ?_ ?_)
   | (with_reducible refine LeO.bind ?_ (fun _ => ?_))
   | exact ih0 _ _ _ _ _
   | exact ih1 _ _ _ _ _
   | exact thresherref0_Rising.mono _ _ _ _
   | exact thresherref3_All.mono _ _
   | exact LeO.none _
   | refine LeO.ite ?_ ?_
   | refine LeO.bind ?_ (fun _ => ?_)
theorem thresherref11_Config.mono : ∀ a0 a1 a2 a3 k, LeO (thresherref11_Config.f k a0 a1 a2 a3) (thresherref11_Config.f (k + 1) a0 a1 a2 a3) := by
 intro a0 a1 a2 a3 k
 obtain ⟨ih0, ih1⟩ := thresherref11_Config.mono_l k
 unfold thresherref11_Config.f
 repeat' first
   | (with_reducible exact ih0 _ _ _ _ _)
   | (with_reducible exact ih1 _ _ _ _ _)
   | (with_reducible exact thresherref0_Rising.mono _ _ _ _)
   | (with_reducible exact thresherref3_All.mono _ _)
   | (with_reducible exact LeO.refl _)
   | (with_reducible exact LeO.none _)
   | (with_reducible refine LeO.ite ?_ ?_)
   | (with_reducible refine LeO.bind ?_ (fun _ => ?_))
   | exact ih0 _ _ _ _ _
   | exact ih1 _ _ _ _ _
   | exact thresherref0_Rising.mono _ _ _ _
   | exact thresherref3_All.mono _ _
   | exact LeO.none _
   | refine LeO.ite ?_ ?_
   | refine LeO.bind ?_ (fun _ => ?_)
def thresherref11_Config.T8 : Bool × List (List Nat × List Nat) := (true, [([], []), ([0], [0]), ([1], [1]), ([2], [2]), ([3, 2], [3]), ([4], [4]), ([5, 4], [4, 5]), ([6, 4, 4], [4, 6]), ([7], [7]), ([8, 7], [7, 8]), ([7], [7]), ([10, 7], [7, 10]), ([9, 11, 7], [7, 9, 11]), ([12, 7], [7, 12]), ([13, 7], [7, 13]), ([7], [7]), ([15, 7], [7, 15]), ([14, 16, 7], [7, 14, 16]), ([7, 17, 4], [4, 7, 17]), ([4, 18], [4, 18]), ([19, 7], [19]), ([20], [20]), ([21, 20], [20, 21]), ([20, 22], [20, 22]), ([23, 20], [23]), ([24], [24]), ([25, 24], [24, 25]), ([26, 24], [24, 26]), ([27, 24], [24, 27]), ([24, 28], [24, 28]), ([29, 24], [29]), ([30], [30]), ([31, 30], [30, 31]), ([30], [30]), ([33, 30], [30, 33]), ([32, 34, 30, 30], [30, 32, 34]), ([35, 30], [30, 35]), ([30, 36], [30, 36])])
def thresherref11_Config.B8 : List Nat := [0, 1, 3, 7, 15, 31, 63, 127, 255, 511, 255, 1279, 4095, 8191, 16383, 255, 33023, 131071, 262143, 524287, 1048575, 2097151, 4194303, 8388607, 16777215, 33554431, 67108863, 134217727, 268435455, 536870911, 1073741823, 2147483647, 4294967295, 2147483647, 10737418239, 34359738367, 68719476735, 137438953471]
theorem thresherref11_Config.tab8 : rtab .any (opsOf Try.f24 8) = thresherref11_Config.T8 := by kernel_rfl
theorem thresherref11_Config.bits8 : waitsOk thresherref11_Config.T8.2 thresherref11_Config.B8 = true := by kernel_rfl
set_option maxHeartbeats 8000000 in
set_option maxRecDepth 100000 in
theorem thresherref11_Config.calls (k : Nat) (a0_0 : Int) (A0_1 : Option Addr) (c0_1 : Nat) (l0_1 : List (S61)) (a0_2 : Int) (a0_3 : Int) (r : Bool) (w : World) (hr0_1 : Kd.C k61 w A0_1 l0_1.length l0_1) (hc0_1 : l0_1.length ≤ c0_1) (h : thresherref11_Config.f k a0_0 l0_1 a0_2 a0_3 = some r) :
  Calls Try.prog 24 #[.agg #[.int .i64 a0_0, .slice A0_1 l0_1.length c0_1, .int .i64 a0_2, .int .i64 a0_3]] w fun e w' => e = .returned (.bool r) ∧ Below w.heap.size w w' := by
 have hu54 := Try.underlying54
 have hu61 := Try.underlying61
 have HR0_1 := Aside0.mk hr0_1
 have HC0_1 := Aside0.mk hc0_1
 clear hr0_1 hc0_1
 have HB := Aside0.mk (Below.refl w.heap.size w)
 have H : (if a0_0 < 1 then (thresherref11_Config.j0 k true a0_0 l0_1 a0_2 a0_3) else (if a0_0 > 3 then (thresherref11_Config.j0 k true a0_0 l0_1 a0_2 a0_3) else (if (l0_1.length : Int) > 6 then (thresherref11_Config.j0 k true a0_0 l0_1 a0_2 a0_3) else (if a0_2 < 1 then (thresherref11_Config.j0 k true a0_0 l0_1 a0_2 a0_3) else (if a0_2 > 16 then (thresherref11_Config.j0 k true a0_0 l0_1 a0_2 a0_3) else (if a0_3 < 16 then (thresherref11_Config.j0 k true a0_0 l0_1 a0_2 a0_3) else (if a0_3 > 64 then (thresherref11_Config.j0 k true a0_0 l0_1 a0_2 a0_3) else (thresherref11_Config.j0 k (decide (a0_3 < (wrap64 (2 * a0_2)))) a0_0 l0_1 a0_2 a0_3)))))))) = some r := h
 clear h
 have HC2 := Aside0.mk H
 clear H
 go_enter Try.func24, Try.ntmps24
 go_upto_region 1 with (first | ((with_reducible refine gate_dst (N := 1) rfl ?_); (try (refine gate_guard (by rfl) ?_; dsimp only)); refine box_event ?hg (N := 1) ?hd (cs := #[.int .i64 a0_0, .slice A0_1 l0_1.length c0_1, .int .i64 a0_2, .int .i64 a0_3]) (t := 54) ?hr ?_; (case hd => rfl); (case hg => rfl); (case hr => first | (go_simp; done) | (go_simp; rfl)); intro gb135 hg w3 hbox hb; have n0_ := Aside0.mk (below_step (be_ HB) hb); have n1_ := Aside0.mk (hbox); have n2_ := Aside0.mk ((by rw [hg]; exact (below_size (be_ HB)) : w.heap.size ≤ gb135)); have n3_ := Aside0.mk ((by rw [hg]; exact (below_size (be_ HB)) : w.heap.size ≤ gb135)); clear HB; have HB := n0_; have BK135 := n1_; have GW135 := n2_; have GE135 := n3_; clear n0_ n1_ n2_ n3_; clear hb hbox hg))
 (try simp only [Act.put, List.setIfInBounds_toArray, List.set_cons_zero, List.set_cons_succ])
 go_cut [48] (fun v48 wc => ∃ (kq : Nat) (x48_1 : Bool), v48 = .bool x48_1 ∧ Aside0 (thresherref11_Config.j0 kq x48_1 a0_0 l0_1 a0_2 a0_3 = some r) ∧ Aside0 (kq ≤ k) ∧ Aside0 (wc.heap[gb135]? = some (.cells #[.int .i64 a0_0, (.slice A0_1 l0_1.length c0_1), .int .i64 a0_2, .int .i64 a0_3] 54 (0, 0))) ∧ Aside0 (Below w.heap.size w wc))
 case first =>
  have H := HC2.out
  clear HC2
  by_cases c4 : a0_0 < 1
  ·
   rw [if_pos c4] at H
   have c4b0 : decide (a0_0 < 1) = true := decide_eq_true c4
   clear c4
   (first | rw [c4b0] | (simp only [i64_w, i32_w]; rw [c4b0]) | skip)
   have H' := Aside0.mk H
   clear H
   have hcz5_0 : w3.cell? ⟨gb135, 0, none⟩ = some (.int .i64 a0_0) := bc_ BK135 0
   have hcz5_1 : w3.cell? ⟨gb135, 1, none⟩ = some (.slice A0_1 l0_1.length c0_1) := bc_ BK135 1
   have hcz5_2 : w3.cell? ⟨gb135, 2, none⟩ = some (.int .i64 a0_2) := bc_ BK135 2
   have hcz5_3 : w3.cell? ⟨gb135, 3, none⟩ = some (.int .i64 a0_3) := bc_ BK135 3
   have hfz5_0 := blk_frozen BK135.out 0
   have hfz5_1 := blk_frozen BK135.out 1
   have hfz5_2 := blk_frozen BK135.out 2
   have hfz5_3 := blk_frozen BK135.out 3
   go_wp2
   go_meet
   case rel => exact ⟨_, (true), eq_, H', ⟨by first | omega | exact Nat.le_refl _⟩, ⟨bk_ BK135⟩, ⟨be_ HB⟩⟩
  ·
   rw [if_neg c4] at H
   have c4b0 : decide (a0_0 < 1) = false := decide_eq_false c4
   clear c4
   (first | rw [c4b0] | (simp only [i64_w, i32_w]; rw [c4b0]) | skip)
   by_cases c6 : a0_0 > 3
   ·
    rw [if_pos c6] at H
    have c6b0 : decide (3 < a0_0) = true := decide_eq_true c6
    clear c6
    have H' := Aside0.mk H
    clear H
    have hcz7_0 : w3.cell? ⟨gb135, 0, none⟩ = some (.int .i64 a0_0) := bc_ BK135 0
    have hcz7_1 : w3.cell? ⟨gb135, 1, none⟩ = some (.slice A0_1 l0_1.length c0_1) := bc_ BK135 1
    have hcz7_2 : w3.cell? ⟨gb135, 2, none⟩ = some (.int .i64 a0_2) := bc_ BK135 2
    have hcz7_3 : w3.cell? ⟨gb135, 3, none⟩ = some (.int .i64 a0_3) := bc_ BK135 3
    have hfz7_0 := blk_frozen BK135.out 0
    have hfz7_1 := blk_frozen BK135.out 1
    have hfz7_2 := blk_frozen BK135.out 2
    have hfz7_3 := blk_frozen BK135.out 3
    go_wp2
    go_meet
    case rel => exact ⟨_, (true), eq_, H', ⟨by first | omega | exact Nat.le_refl _⟩, ⟨bk_ BK135⟩, ⟨be_ HB⟩⟩
   ·
    rw [if_neg c6] at H
    have c6b0 : decide (3 < a0_0) = false := decide_eq_false c6
    clear c6
    by_cases c8 : (l0_1.length : Int) > 6
    ·
     rw [if_pos c8] at H
     have c8b0 : decide (6 < (l0_1.length : Int)) = true := decide_eq_true c8
     have c8b1 : decide (6 < l0_1.length) = true := decide_eq_true (by omega)
     clear c8
     have H' := Aside0.mk H
     clear H
     have hcz9_0 : w3.cell? ⟨gb135, 0, none⟩ = some (.int .i64 a0_0) := bc_ BK135 0
     have hcz9_1 : w3.cell? ⟨gb135, 1, none⟩ = some (.slice A0_1 l0_1.length c0_1) := bc_ BK135 1
     have hcz9_2 : w3.cell? ⟨gb135, 2, none⟩ = some (.int .i64 a0_2) := bc_ BK135 2
     have hcz9_3 : w3.cell? ⟨gb135, 3, none⟩ = some (.int .i64 a0_3) := bc_ BK135 3
     have hfz9_0 := blk_frozen BK135.out 0
     have hfz9_1 := blk_frozen BK135.out 1
     have hfz9_2 := blk_frozen BK135.out 2
     have hfz9_3 := blk_frozen BK135.out 3
     go_wp2
     go_meet
     case rel => exact ⟨_, (true), eq_, H', ⟨by first | omega | exact Nat.le_refl _⟩, ⟨bk_ BK135⟩, ⟨be_ HB⟩⟩
    ·
     rw [if_neg c8] at H
     have c8b0 : decide (6 < (l0_1.length : Int)) = false := decide_eq_false c8
     have c8b1 : decide (6 < l0_1.length) = false := decide_eq_false (by omega)
     clear c8
     by_cases c10 : a0_2 < 1
     ·
      rw [if_pos c10] at H
      have c10b0 : decide (a0_2 < 1) = true := decide_eq_true c10
      clear c10
      have H' := Aside0.mk H
      clear H
      have hcz11_0 : w3.cell? ⟨gb135, 0, none⟩ = some (.int .i64 a0_0) := bc_ BK135 0
      have hcz11_1 : w3.cell? ⟨gb135, 1, none⟩ = some (.slice A0_1 l0_1.length c0_1) := bc_ BK135 1
      have hcz11_2 : w3.cell? ⟨gb135, 2, none⟩ = some (.int .i64 a0_2) := bc_ BK135 2
      have hcz11_3 : w3.cell? ⟨gb135, 3, none⟩ = some (.int .i64 a0_3) := bc_ BK135 3
      have hfz11_0 := blk_frozen BK135.out 0
      have hfz11_1 := blk_frozen BK135.out 1
      have hfz11_2 := blk_frozen BK135.out 2
      have hfz11_3 := blk_frozen BK135.out 3
      go_wp2
      go_meet
      case rel => exact ⟨_, (true), eq_, H', ⟨by first | omega | exact Nat.le_refl _⟩, ⟨bk_ BK135⟩, ⟨be_ HB⟩⟩
     ·
      rw [if_neg c10] at H
      have c10b0 : decide (a0_2 < 1) = false := decide_eq_false c10
      clear c10
      by_cases c12 : a0_2 > 16
      ·
       rw [if_pos c12] at H
       have c12b0 : decide (16 < a0_2) = true := decide_eq_true c12
       clear c12
       have H' := Aside0.mk H
       clear H
       have hcz13_0 : w3.cell? ⟨gb135, 0, none⟩ = some (.int .i64 a0_0) := bc_ BK135 0
       have hcz13_1 : w3.cell? ⟨gb135, 1, none⟩ = some (.slice A0_1 l0_1.length c0_1) := bc_ BK135 1
       have hcz13_2 : w3.cell? ⟨gb135, 2, none⟩ = some (.int .i64 a0_2) := bc_ BK135 2
       have hcz13_3 : w3.cell? ⟨gb135, 3, none⟩ = some (.int .i64 a0_3) := bc_ BK135 3
       have hfz13_0 := blk_frozen BK135.out 0
       have hfz13_1 := blk_frozen BK135.out 1
       have hfz13_2 := blk_frozen BK135.out 2
       have hfz13_3 := blk_frozen BK135.out 3
       go_wp2
       go_meet
       case rel => exact ⟨_, (true), eq_, H', ⟨by first | omega | exact Nat.le_refl _⟩, ⟨bk_ BK135⟩, ⟨be_ HB⟩⟩
      ·
       rw [if_neg c12] at H
       have c12b0 : decide (16 < a0_2) = false := decide_eq_false c12
       clear c12
       by_cases c14 : a0_3 < 16
       ·
        rw [if_pos c14] at H
        have c14b0 : decide (a0_3 < 16) = true := decide_eq_true c14
        clear c14
        have H' := Aside0.mk H
        clear H
        have hcz15_0 : w3.cell? ⟨gb135, 0, none⟩ = some (.int .i64 a0_0) := bc_ BK135 0
        have hcz15_1 : w3.cell? ⟨gb135, 1, none⟩ = some (.slice A0_1 l0_1.length c0_1) := bc_ BK135 1
        have hcz15_2 : w3.cell? ⟨gb135, 2, none⟩ = some (.int .i64 a0_2) := bc_ BK135 2
        have hcz15_3 : w3.cell? ⟨gb135, 3, none⟩ = some (.int .i64 a0_3) := bc_ BK135 3
        have hfz15_0 := blk_frozen BK135.out 0
        have hfz15_1 := blk_frozen BK135.out 1
        have hfz15_2 := blk_frozen BK135.out 2
        have hfz15_3 := blk_frozen BK135.out 3
        go_wp2
        go_meet
        case rel => exact ⟨_, (true), eq_, H', ⟨by first | omega | exact Nat.le_refl _⟩, ⟨bk_ BK135⟩, ⟨be_ HB⟩⟩
       ·
        rw [if_neg c14] at H
        have c14b0 : decide (a0_3 < 16) = false := decide_eq_false c14
        clear c14
        by_cases c16 : a0_3 > 64
        ·
         rw [if_pos c16] at H
         have c16b0 : decide (64 < a0_3) = true := decide_eq_true c16
         clear c16
         have H' := Aside0.mk H
         clear H
         have hcz17_0 : w3.cell? ⟨gb135, 0, none⟩ = some (.int .i64 a0_0) := bc_ BK135 0
         have hcz17_1 : w3.cell? ⟨gb135, 1, none⟩ = some (.slice A0_1 l0_1.length c0_1) := bc_ BK135 1
         have hcz17_2 : w3.cell? ⟨gb135, 2, none⟩ = some (.int .i64 a0_2) := bc_ BK135 2
         have hcz17_3 : w3.cell? ⟨gb135, 3, none⟩ = some (.int .i64 a0_3) := bc_ BK135 3
         have hfz17_0 := blk_frozen BK135.out 0
         have hfz17_1 := blk_frozen BK135.out 1
         have hfz17_2 := blk_frozen BK135.out 2
         have hfz17_3 := blk_frozen BK135.out 3
         go_wp2
         go_meet
         case rel => exact ⟨_, (true), eq_, H', ⟨by first | omega | exact Nat.le_refl _⟩, ⟨bk_ BK135⟩, ⟨be_ HB⟩⟩
        ·
         rw [if_neg c16] at H
         have c16b0 : decide (64 < a0_3) = false := decide_eq_false c16
         clear c16
         have H' := Aside0.mk H
         clear H
         have hcz18_0 : w3.cell? ⟨gb135, 0, none⟩ = some (.int .i64 a0_0) := bc_ BK135 0
         have hcz18_1 : w3.cell? ⟨gb135, 1, none⟩ = some (.slice A0_1 l0_1.length c0_1) := bc_ BK135 1
         have hcz18_2 : w3.cell? ⟨gb135, 2, none⟩ = some (.int .i64 a0_2) := bc_ BK135 2
         have hcz18_3 : w3.cell? ⟨gb135, 3, none⟩ = some (.int .i64 a0_3) := bc_ BK135 3
         have hfz18_0 := blk_frozen BK135.out 0
         have hfz18_1 := blk_frozen BK135.out 1
         have hfz18_2 := blk_frozen BK135.out 2
         have hfz18_3 := blk_frozen BK135.out 3
         go_wp2
         go_meet
         case rel => exact ⟨_, (decide (a0_3 < (wrap64 (2 * a0_2)))), eq_, H', ⟨by first | omega | exact Nat.le_refl _⟩, ⟨bk_ BK135⟩, ⟨be_ HB⟩⟩
 case rest =>
  clear HC2
  (try clear c1); (try clear c2); (try clear p2); (try clear c4); (try clear c4b0); (try clear c6); (try clear c6b0); (try clear p6); (try clear c8); (try clear c8b0); (try clear c8b1); (try clear c10)
  (try clear c10b0); (try clear c12); (try clear c12b0); (try clear c14); (try clear c14b0); (try clear c16); (try clear c16b0); (try clear hcz11_0); (try clear hcz11_1); (try clear hcz11_2); (try clear hcz11_3); (try clear hcz13_0)
  (try clear hcz13_1); (try clear hcz13_2); (try clear hcz13_3); (try clear hcz15_0); (try clear hcz15_1); (try clear hcz15_2); (try clear hcz15_3); (try clear hcz17_0); (try clear hcz17_1); (try clear hcz17_2); (try clear hcz17_3); (try clear hcz18_0)
  (try clear hcz18_1); (try clear hcz18_2); (try clear hcz18_3); (try clear hcz5_0); (try clear hcz5_1); (try clear hcz5_2); (try clear hcz5_3); (try clear hcz7_0); (try clear hcz7_1); (try clear hcz7_2); (try clear hcz7_3); (try clear hcz9_0)
  (try clear hcz9_1); (try clear hcz9_2); (try clear hcz9_3); (try clear hfz11_0); (try clear hfz11_1); (try clear hfz11_2); (try clear hfz11_3); (try clear hfz13_0); (try clear hfz13_1); (try clear hfz13_2); (try clear hfz13_3); (try clear hfz15_0)
  (try clear hfz15_1); (try clear hfz15_2); (try clear hfz15_3); (try clear hfz17_0); (try clear hfz17_1); (try clear hfz17_2); (try clear hfz17_3); (try clear hfz18_0); (try clear hfz18_1); (try clear hfz18_2); (try clear hfz18_3); (try clear hfz5_0)
  (try clear hfz5_1); (try clear hfz5_2); (try clear hfz5_3); (try clear hfz7_0); (try clear hfz7_1); (try clear hfz7_2); (try clear hfz7_3); (try clear hfz9_0); (try clear hfz9_1); (try clear hfz9_2); (try clear hfz9_3)
  obtain ⟨kq, x48_1, rfl, HA, HJ1, BK135, HB⟩ := hcut
  cases kq with
  | zero => exact absurd HA.out (by simp [thresherref11_Config.j0])
  | succ kj1 =>
   have H := HA.out
   clear HA
   simp only [thresherref11_Config.j0] at H
   by_cases c19 : x48_1 = true
   ·
    subst c19
    have H1 : (some false) = some r := by rw [if_pos rfl] at H; exact H
    clear H
    have H := H1
    clear H1
    obtain rfl := Option.some.inj H
    go_wp2
    go_ret
    exact ⟨re_, be_ HB⟩
   ·
    replace c19 := Bool.eq_false_iff.mpr c19
    subst c19
    have H1 : (thresherref11_Config.l0 kj1 0 a0_0 l0_1 a0_2 a0_3) = some r := by rw [if_neg (show ¬ (false = true) by decide)] at H; exact H
    clear H
    have H := H1
    clear H1
    have H' := Aside0.mk H
    clear H
    go_wp2
    go_loopg [3] kj1 (fun kq v3 w' => ∃ (x3_2 : Int), v3 = .int .i64 x3_2 ∧ Aside0 (thresherref11_Config.l0 kq x3_2 a0_0 l0_1 a0_2 a0_3 = some r) ∧ Aside0 (kq ≤ kj1) ∧ Aside0 (w'.heap[gb135]? = some (.cells #[.int .i64 a0_0, (.slice A0_1 l0_1.length c0_1), .int .i64 a0_2, .int .i64 a0_3] 54 (0, 0))) ∧ Aside0 (Below w.heap.size w w'))
    case atStart => exact ⟨(0), eq_, H', ⟨Nat.le_refl _⟩, ⟨bk_ BK135⟩, ⟨be_ HB⟩⟩
    case round =>
     clear H'
     (try clear c1); (try clear c2); (try clear p2); (try clear c4); (try clear c4b0); (try clear c6); (try clear c6b0); (try clear p6); (try clear c8); (try clear c8b0); (try clear c8b1); (try clear c10)
     (try clear c10b0); (try clear c12); (try clear c12b0); (try clear c14); (try clear c14b0); (try clear c16); (try clear c16b0); (try clear c19); (try clear hcz11_0); (try clear hcz11_1); (try clear hcz11_2); (try clear hcz11_3)
     (try clear hcz13_0); (try clear hcz13_1); (try clear hcz13_2); (try clear hcz13_3); (try clear hcz15_0); (try clear hcz15_1); (try clear hcz15_2); (try clear hcz15_3); (try clear hcz17_0); (try clear hcz17_1); (try clear hcz17_2); (try clear hcz17_3)
     (try clear hcz18_0); (try clear hcz18_1); (try clear hcz18_2); (try clear hcz18_3); (try clear hcz5_0); (try clear hcz5_1); (try clear hcz5_2); (try clear hcz5_3); (try clear hcz7_0); (try clear hcz7_1); (try clear hcz7_2); (try clear hcz7_3)
     (try clear hcz9_0); (try clear hcz9_1); (try clear hcz9_2); (try clear hcz9_3); (try clear hfz11_0); (try clear hfz11_1); (try clear hfz11_2); (try clear hfz11_3); (try clear hfz13_0); (try clear hfz13_1); (try clear hfz13_2); (try clear hfz13_3)
     (try clear hfz15_0); (try clear hfz15_1); (try clear hfz15_2); (try clear hfz15_3); (try clear hfz17_0); (try clear hfz17_1); (try clear hfz17_2); (try clear hfz17_3); (try clear hfz18_0); (try clear hfz18_1); (try clear hfz18_2); (try clear hfz18_3)
     (try clear hfz5_0); (try clear hfz5_1); (try clear hfz5_2); (try clear hfz5_3); (try clear hfz7_0); (try clear hfz7_1); (try clear hfz7_2); (try clear hfz7_3); (try clear hfz9_0); (try clear hfz9_1); (try clear hfz9_2); (try clear hfz9_3)
     (try clear p2); (try clear p6)
     obtain ⟨x3_2, rfl, HA, HK2, BK135, HB⟩ := hrel
     cases gk with
     | zero => exact absurd HA.out (by simp [thresherref11_Config.l0])
     | succ k2 =>
      have H := HA.out
      clear HA
      simp only [thresherref11_Config.l0] at H
      by_cases c20 : x3_2 < (l0_1.length : Int)
      ·
       rw [if_pos c20] at H
       have c20b0 : decide (x3_2 < (l0_1.length : Int)) = true := decide_eq_true c20
       clear c20
       by_cases c21 : 0 ≤ x3_2
       ·
        rw [if_pos c21] at H
        have c21b0 : decide (0 ≤ x3_2) = true := decide_eq_true c21
        clear c21
        replace H := Option.bind_eq_some_iff.mp H
        obtain ⟨⟨t138, t139⟩, A220, H⟩ := H
        replace H : ((thresherref0_ID.f ((rd_T61 l0_1 x3_2).f0)).bind fun t142 => (if t142 = true then (if x3_2 > 0 then (if 0 ≤ (wrap64 (x3_2 - 1)) then (if (wrap64 (x3_2 - 1)) < (l0_1.length : Int) then (if ((rd_T61 l0_1 (wrap64 (x3_2 - 1))).f0) ≥ ((rd_T61 l0_1 x3_2).f0) then (some false) else (if t139 = 0 then (if (((rd_T61 l0_1 x3_2).f2).length : Int) = 0 then (some false) else ((thresherref0_Rising.f k2 ((rd_T61 l0_1 x3_2).f2) 1 a0_0).bind fun t144 => (if t144 = true then (thresherref11_Config.l0 k2 (wrap64 (x3_2 + 1)) a0_0 l0_1 a0_2 a0_3) else (some false)))) else (some false))) else (none)) else (none)) else (if t139 = 0 then (if (((rd_T61 l0_1 x3_2).f2).length : Int) = 0 then (some false) else ((thresherref0_Rising.f k2 ((rd_T61 l0_1 x3_2).f2) 1 a0_0).bind fun t145 => (if t145 = true then (thresherref11_Config.l0 k2 (wrap64 (x3_2 + 1)) a0_0 l0_1 a0_2 a0_3) else (some false)))) else (some false))) else (some false))) = some r := H
        have A22 := Aside0.mk A220
        clear A220
        replace H := Option.bind_eq_some_iff.mp H
        obtain ⟨t142, A230, H⟩ := H
        replace H : (if t142 = true then (if x3_2 > 0 then (if 0 ≤ (wrap64 (x3_2 - 1)) then (if (wrap64 (x3_2 - 1)) < (l0_1.length : Int) then (if ((rd_T61 l0_1 (wrap64 (x3_2 - 1))).f0) ≥ ((rd_T61 l0_1 x3_2).f0) then (some false) else (if t139 = 0 then (if (((rd_T61 l0_1 x3_2).f2).length : Int) = 0 then (some false) else ((thresherref0_Rising.f k2 ((rd_T61 l0_1 x3_2).f2) 1 a0_0).bind fun t144 => (if t144 = true then (thresherref11_Config.l0 k2 (wrap64 (x3_2 + 1)) a0_0 l0_1 a0_2 a0_3) else (some false)))) else (some false))) else (none)) else (none)) else (if t139 = 0 then (if (((rd_T61 l0_1 x3_2).f2).length : Int) = 0 then (some false) else ((thresherref0_Rising.f k2 ((rd_T61 l0_1 x3_2).f2) 1 a0_0).bind fun t145 => (if t145 = true then (thresherref11_Config.l0 k2 (wrap64 (x3_2 + 1)) a0_0 l0_1 a0_2 a0_3) else (some false)))) else (some false))) else (some false)) = some r := H
        have A23 := Aside0.mk A230
        clear A230
        by_cases c24 : t142 = true
        ·
         subst c24
         have H1 : (if x3_2 > 0 then (if 0 ≤ (wrap64 (x3_2 - 1)) then (if (wrap64 (x3_2 - 1)) < (l0_1.length : Int) then (if ((rd_T61 l0_1 (wrap64 (x3_2 - 1))).f0) ≥ ((rd_T61 l0_1 x3_2).f0) then (some false) else (if t139 = 0 then (if (((rd_T61 l0_1 x3_2).f2).length : Int) = 0 then (some false) else ((thresherref0_Rising.f k2 ((rd_T61 l0_1 x3_2).f2) 1 a0_0).bind fun t144 => (if t144 = true then (thresherref11_Config.l0 k2 (wrap64 (x3_2 + 1)) a0_0 l0_1 a0_2 a0_3) else (some false)))) else (some false))) else (none)) else (none)) else (if t139 = 0 then (if (((rd_T61 l0_1 x3_2).f2).length : Int) = 0 then (some false) else ((thresherref0_Rising.f k2 ((rd_T61 l0_1 x3_2).f2) 1 a0_0).bind fun t145 => (if t145 = true then (thresherref11_Config.l0 k2 (wrap64 (x3_2 + 1)) a0_0 l0_1 a0_2 a0_3) else (some false)))) else (some false))) = some r := by rw [if_pos rfl] at H; exact H
         clear H
         have H := H1
         clear H1
         by_cases c25 : x3_2 > 0
         ·
          rw [if_pos c25] at H
          have c25b0 : decide (0 < x3_2) = true := decide_eq_true c25
          clear c25
          obtain ⟨ji26, hji26⟩ : ∃ j_ : Int, (wrap64 (x3_2 - 1)) = j_ := ⟨_, rfl⟩
          replace H : (if 0 ≤ (ji26) then (if (ji26) < (l0_1.length : Int) then (if ((rd_T61 l0_1 (ji26)).f0) ≥ ((rd_T61 l0_1 x3_2).f0) then (some false) else (if t139 = 0 then (if (((rd_T61 l0_1 x3_2).f2).length : Int) = 0 then (some false) else ((thresherref0_Rising.f k2 ((rd_T61 l0_1 x3_2).f2) 1 a0_0).bind fun t144 => (if t144 = true then (thresherref11_Config.l0 k2 (wrap64 (x3_2 + 1)) a0_0 l0_1 a0_2 a0_3) else (some false)))) else (some false))) else (none)) else (none)) = some r := by first | (rw [hji26] at H; exact H) | (simp only [hji26] at H ⊢; exact H)
          (try rw [hji26] at A22)
          (try rw [hji26] at A23)
          have hji26w : (IntKind.i64.wrap (x3_2 - 1)) = ji26 := (i64_w _).trans hji26
          by_cases c27 : 0 ≤ (ji26)
          ·
           rw [if_pos c27] at H
           have c27b0 : decide (0 ≤ (ji26)) = true := decide_eq_true c27
           clear c27
           by_cases c28 : (ji26) < (l0_1.length : Int)
           ·
            rw [if_pos c28] at H
            have c28b0 : decide ((ji26) < (l0_1.length : Int)) = true := decide_eq_true c28
            clear c28
            by_cases c29 : ((rd_T61 l0_1 (ji26)).f0) ≥ ((rd_T61 l0_1 x3_2).f0)
            ·
             rw [if_pos c29] at H
             have c29b0 : decide (((rd_T61 l0_1 x3_2).f0) ≤ ((rd_T61 l0_1 (ji26)).f0)) = true := decide_eq_true c29
             clear c29
             obtain rfl := Option.some.inj H
             have hcz30_0 : wr.cell? ⟨gb135, 0, none⟩ = some (.int .i64 a0_0) := bc_ BK135 0
             have hcz30_1 : wr.cell? ⟨gb135, 1, none⟩ = some (.slice A0_1 l0_1.length c0_1) := bc_ BK135 1
             have hcz30_2 : wr.cell? ⟨gb135, 2, none⟩ = some (.int .i64 a0_2) := bc_ BK135 2
             have hcz30_3 : wr.cell? ⟨gb135, 3, none⟩ = some (.int .i64 a0_3) := bc_ BK135 3
             have hfz30_0 := blk_frozen BK135.out 0
             have hfz30_1 := blk_frozen BK135.out 1
             have hfz30_2 := blk_frozen BK135.out 2
             have hfz30_3 := blk_frozen BK135.out 3
             have p136 : 0 ≤ (x3_2 : Int) := dc_
             have q136 : x3_2 < (l0_1.length : Int) := dc_
             obtain ⟨ad136, A136_2, c136_2, e136, hx136_0, hx136_1, hx136_2, hl136_2, hi136_2⟩ := at_T61 HR0_1.out x3_2 p136 q136
             cases e136
             replace hx136_0 := (HB.out.cell (World.block_lt_of_cell? w _ hx136_0)).trans hx136_0
             replace hx136_1 := (HB.out.cell (World.block_lt_of_cell? w _ hx136_1)).trans hx136_1
             replace hx136_2 := (HB.out.cell (World.block_lt_of_cell? w _ hx136_2)).trans hx136_2
             have HR136_2 := Aside0.mk hi136_2
             have HC136_2 := Aside0.mk hl136_2
             clear hi136_2 hl136_2
             replace p136 := eq_true p136
             replace q136 := eq_true q136
             try go_wp2_with (first | ((with_reducible refine gate_dst (N := 4) rfl ?_); (try (refine gate_guard (by rfl) ?_; dsimp only)); refine box_event ?hg (N := 4) ?hd (cs := #[.int .i64 0, .string (⟨#[]⟩ : ByteArray), .slice none 0 0]) (t := 61) ?hr ?_; (case hd => rfl); (case hg => rfl); (case hr => first | (go_simp; done) | (go_simp; rfl)); intro gb137 hg w31 hbox hb; have n0_ := Aside0.mk (blk_below (g := gb135) (o := .cells #[.int .i64 a0_0, .slice (some ad136) l0_1.length c0_1, .int .i64 a0_2, .int .i64 a0_3] 54 (0, 0)) (bk_ BK135) hb); have n1_ := Aside0.mk (below_step (be_ HB) hb); have n2_ := Aside0.mk (hbox); have n3_ := Aside0.mk ((by rw [hg]; exact (below_size (be_ HB)) : w.heap.size ≤ gb137)); have n4_ := Aside0.mk ((by rw [hg]; exact (below_size (be_ HB)) : w.heap.size ≤ gb137)); have n5_ := Aside0.mk ((by rw [hg]; exact Nat.ne_of_lt (blk_lt (g := gb135) (o := .cells #[.int .i64 a0_0, .slice (some ad136) l0_1.length c0_1, .int .i64 a0_2, .int .i64 a0_3] 54 (0, 0)) (bk_ BK135)) : gb135 ≠ gb137)); have n6_ := Aside0.mk ((by rw [hg]; exact Nat.ne_of_gt (blk_lt (g := gb135) (o := .cells #[.int .i64 a0_0, .slice (some ad136) l0_1.length c0_1, .int .i64 a0_2, .int .i64 a0_3] 54 (0, 0)) (bk_ BK135)) : gb137 ≠ gb135)); clear BK135; clear HB; have BK135 := n0_; have HB := n1_; have BK137 := n2_; have GW137 := n3_; have GE137 := n4_; have NB135_137 := n5_; have NB137_135 := n6_; clear n0_ n1_ n2_ n3_ n4_ n5_ n6_; clear hb hbox hg; have hnb32 := NB137_135.out; have hnc32 := NB135_137.out; have hcz33_0 : w31.cell? ⟨gb137, 0, none⟩ = some (.int .i64 0) := bc_ BK137 0; have hcz33_1 : w31.cell? ⟨gb137, 1, none⟩ = some (.string (⟨#[]⟩ : ByteArray)) := bc_ BK137 1; have hcz33_2 : w31.cell? ⟨gb137, 2, none⟩ = some (.slice none 0 0) := bc_ BK137 2; have hfz33_0 := blk_frozen BK137.out 0; have hfz33_1 := blk_frozen BK137.out 1; have hfz33_2 := blk_frozen BK137.out 2) | ((with_reducible refine gate_callee (f := 20) rfl ?_); refine goesL_ (some 64) rfl rfl Try.func20 (by kernel_rfl) rfl #[.string ((rd_T61 l0_1 x3_2).f1)] rfl (by (try simp only [List.map_toArray, List.map_cons, List.map_nil]); first | done | rfl | (simp only [List.length_drop, List.length_take]; rfl)) ?_; (with_reducible refine (thresherref3_All.calls k2 ((rd_T61 l0_1 x3_2).f1) t138 t139 _ A22.out).mono ?_); rintro e w34 ⟨v140, rfl, ho0, hb⟩; refine ⟨_, rfl, ?_⟩; have n0_ := Aside0.mk (Kd.R_lower ho0 (below_size (be_ HB))); have n1_ := Aside0.mk (blk_below (g := gb135) (o := .cells #[.int .i64 a0_0, .slice (some ad136) l0_1.length c0_1, .int .i64 a0_2, .int .i64 a0_3] 54 (0, 0)) (by (with_reducible repeat (first | refine blk_drewN ?_ _ | refine blk_drew ?_ | refine blk_alloc ?_ _)); refine blk_far ?_ NB135_137.out _; (with_reducible repeat (first | refine blk_drewN ?_ _ | refine blk_drew ?_ | refine blk_alloc ?_ _)); refine blk_far ?_ NB135_137.out _; (with_reducible repeat (first | refine blk_drewN ?_ _ | refine blk_drew ?_ | refine blk_alloc ?_ _)); refine blk_far ?_ NB135_137.out _; (with_reducible repeat (first | refine blk_drewN ?_ _ | refine blk_drew ?_ | refine blk_alloc ?_ _)); exact BK135.out) hb); have n2_ := Aside0.mk (blk_below (g := gb137) (o := .cells #[.int .i64 ((rd_T61 l0_1 x3_2).f0), .string ((rd_T61 l0_1 x3_2).f1), .slice A136_2 ((rd_T61 l0_1 x3_2).f2).length c136_2] 61 (0, 0)) (by (with_reducible repeat (first | refine blk_drewN ?_ _ | refine blk_drew ?_ | refine blk_alloc ?_ _)); refine blk_put (cs := #[.int .i64 ((rd_T61 l0_1 x3_2).f0), .string ((rd_T61 l0_1 x3_2).f1), .slice none 0 0]) ?_ 2 _ rfl; (with_reducible repeat (first | refine blk_drewN ?_ _ | refine blk_drew ?_ | refine blk_alloc ?_ _)); refine blk_put (cs := #[.int .i64 ((rd_T61 l0_1 x3_2).f0), .string (⟨#[]⟩ : ByteArray), .slice none 0 0]) ?_ 1 _ rfl; (with_reducible repeat (first | refine blk_drewN ?_ _ | refine blk_drew ?_ | refine blk_alloc ?_ _)); refine blk_put (cs := #[.int .i64 0, .string (⟨#[]⟩ : ByteArray), .slice none 0 0]) ?_ 0 _ rfl; (with_reducible repeat (first | refine blk_drewN ?_ _ | refine blk_drew ?_ | refine blk_alloc ?_ _)); exact BK137.out) hb); have n3_ := Aside0.mk (below_step (be_ HB) hb); clear BK135; clear BK137; clear HB; have HO141 := n0_; have BK135 := n1_; have BK137 := n2_; have HB := n3_; clear n0_ n1_ n2_ n3_; (try clear hb); (try clear hb2); (try clear hk); (try clear hi); (try clear ho0)))
             have n0_ := Aside0.mk (Kd.R_drew HO141.out)
             have n1_ := Aside0.mk (blk_drew BK135.out)
             have n2_ := Aside0.mk (blk_drew BK137.out)
             have n3_ := Aside0.mk (below_drew1 HB.out)
             clear HO141
             clear BK135
             clear BK137
             clear HB
             have HO141 := n0_
             have BK135 := n1_
             have BK137 := n2_
             have HB := n3_
             clear n0_ n1_ n2_ n3_
             have p143 : 0 ≤ ((ji26) : Int) := dc_
             have q143 : (ji26) < (l0_1.length : Int) := dc_
             obtain ⟨ad143, A143_2, c143_2, e143, hx143_0, hx143_1, hx143_2, hl143_2, hi143_2⟩ := at_T61 HR0_1.out (ji26) p143 q143
             have hw143_2 := hx143_2
             have hw143_1 := hx143_1
             have hw143_0 := hx143_0
             obtain rfl : ad136 = ad143 := (by injection e143)
             replace hx143_0 := (HB.out.cell (World.block_lt_of_cell? w _ hx143_0)).trans hx143_0
             replace hx143_1 := (HB.out.cell (World.block_lt_of_cell? w _ hx143_1)).trans hx143_1
             replace hx143_2 := (HB.out.cell (World.block_lt_of_cell? w _ hx143_2)).trans hx143_2
             have HR143_2 := Aside0.mk hi143_2
             have HC143_2 := Aside0.mk hl143_2
             clear hi143_2 hl143_2
             replace p143 := eq_true p143
             replace q143 := eq_true q143
             refine start_ (n := 38) (S := fun w' => w'.cell? ⟨gb137, 0, none⟩ = some (.int .i64 ((rd_T61 l0_1 x3_2).f0)) ∧ w'.cell? ⟨gb137, 1, none⟩ = some (.string ((rd_T61 l0_1 x3_2).f1)) ∧ w'.cell? ⟨gb137, 2, none⟩ = some (.slice A136_2 ((rd_T61 l0_1 x3_2).f2).length c136_2) ∧ w'.cell? ⟨gb135, 0, none⟩ = some (.int .i64 a0_0) ∧ w'.cell? ⟨gb135, 1, none⟩ = some (.slice (some ad136) l0_1.length c0_1) ∧ w'.cell? ⟨gb135, 2, none⟩ = some (.int .i64 a0_2) ∧ w'.cell? ⟨gb135, 3, none⟩ = some (.int .i64 a0_3) ∧ w'.cell? (ad136.add (((ji26)).toNat * 3)) = some (.int .i64 ((rd_T61 l0_1 (ji26)).f0)) ∧ w'.cell? ⟨(ad136.add (((ji26)).toNat * 3)).block, (ad136.add (((ji26)).toNat * 3)).off + 1, none⟩ = some (.string ((rd_T61 l0_1 (ji26)).f1)) ∧ w'.cell? ⟨(ad136.add (((ji26)).toNat * 3)).block, (ad136.add (((ji26)).toNat * 3)).off + 2, none⟩ = some (.slice A143_2 ((rd_T61 l0_1 (ji26)).f2).length c143_2)) (ds := []) #[false, false, false, false, false, false, false, false, false, false, false, false, false, false, false, false, false, false, false, false, false, false, false, false, false, false, false, false, false, false, false, false, false, false, false, false, false, false] (by kernel_rfl) rfl rfl ⟨bc_ BK137 0, bc_ BK137 1, bc_ BK137 2, bc_ BK135 0, bc_ BK135 1, bc_ BK135 2, bc_ BK135 3, ((HB.out.cell (World.block_lt_of_cell? w _ hw143_0)).trans hw143_0), ((HB.out.cell (World.block_lt_of_cell? w _ hw143_1)).trans hw143_1), ((HB.out.cell (World.block_lt_of_cell? w _ hw143_2)).trans hw143_2)⟩ (fun hHeld => ?_); refine with_tabW thresherref11_Config.tab8 thresherref11_Config.bits8 (fun HT_ HW_ => ?_)
             generalize w34.drew = w35 at HO141 BK135 BK137 HB HR143_2 hx143_0 hx143_1 hx143_2 hHeld ⊢
             refine pu HT_ 0 67 (zb 38 1) ?_
             refine tk HT_ HW_ hHeld 1 68 (zb 38 3) (hv := by rintro w' ⟨s0, s1, s2, s3, s4, s5, s6, s7, s8, s9⟩; go_simp; with_reducible rfl) (h := ?_)
             refine one_ (i := 2) (N := some 69) (zb 38 7) rfl rfl (one_of HT_.out (by kernel_rfl)) (by decide) (fun K hK => ?_)
             refine goes_ Try.func47 (by kernel_rfl) rfl #[.int .i64 ((rd_T61 l0_1 x3_2).f0)] (by rfl) rfl rfl (by (try simp only [List.map_toArray, List.map_cons, List.map_nil]); first | done | rfl | (simp only [List.length_drop, List.length_take]; rfl)) ?_
             with_reducible refine (thresherref0_ID.calls ((rd_T61 l0_1 x3_2).f0) true _ A23.out).mono ?_
             rintro e w' ⟨rfl, ⟨nd, rfl⟩⟩
             refine ⟨_, rfl, ?_⟩
             refine hK.out _ _ ⟨bc_ BK137 0, bc_ BK137 1, bc_ BK137 2, bc_ BK135 0, bc_ BK135 1, bc_ BK135 2, bc_ BK135 3, ((HB.out.cell (World.block_lt_of_cell? w _ hw143_0)).trans hw143_0), ((HB.out.cell (World.block_lt_of_cell? w _ hw143_1)).trans hw143_1), ((HB.out.cell (World.block_lt_of_cell? w _ hw143_2)).trans hw143_2)⟩ (fun hHeld => ?_)
             clear hK K
             refine nm 69 ?_
             refine pu HT_ 3 70 (zb 38 15) ?_
             refine pu HT_ 4 71 (zb 38 31) ?_
             refine pu HT_ 5 72 (zb 38 63) ?_
             refine pu HT_ 6 73 (zb 38 127) ?_
             refine pu HT_ 7 74 (zb 38 255) ?_
             refine pu HT_ 8 75 (zb 38 511) ?_
             refine pu HT_ 10 77 (zb 38 1535) ?_
             refine pu HT_ 11 78 (zb 38 3583) ?_
             refine pu HT_ 15 82 (zb 38 36351) ?_
             refine tk HT_ HW_ hHeld 9 76 (zb 38 36863) (hv := by rintro w' ⟨s0, s1, s2, s3, s4, s5, s6, s7, s8, s9⟩; go_simp; with_reducible rfl) (h := ?_)
             refine pu HT_ 12 79 (zb 38 40959) ?_
             refine pu HT_ 13 80 (zb 38 49151) ?_
             refine tk HT_ HW_ hHeld 14 81 (zb 38 65535) (hv := by rintro w' ⟨s0, s1, s2, s3, s4, s5, s6, s7, s8, s9⟩; go_simp; with_reducible rfl) (h := ?_)
             refine tk HT_ HW_ hHeld 16 83 (zb 38 131071) (hv := by rintro w' ⟨s0, s1, s2, s3, s4, s5, s6, s7, s8, s9⟩; go_simp; with_reducible rfl) (h := ?_)
             refine pu HT_ 17 84 (zb 38 262143) ?_
             refine pu HT_ 18 85 (zb 38 524287) ?_
             refine pu HT_ 19 86 (zb 38 1048575) ?_
             refine pu HT_ 20 87 (zb 38 2097151) ?_
             refine sk HT_ 21 88 (zb 38 4194303) ?_
             refine sk HT_ 22 89 (zb 38 8388607) ?_
             refine pu HT_ 23 90 (zb 38 16777215) ?_
             refine pu HT_ 24 91 (zb 38 33554431) ?_
             refine sk HT_ 25 92 (zb 38 67108863) ?_
             refine sk HT_ 26 93 (zb 38 134217727) ?_
             refine sk HT_ 27 94 (zb 38 268435455) ?_
             refine sk HT_ 28 95 (zb 38 536870911) ?_
             refine pu HT_ 29 96 (zb 38 1073741823) ?_
             refine pu HT_ 30 97 (zb 38 2147483647) ?_
             refine sk HT_ 31 98 (zb 38 4294967295) ?_
             refine sk HT_ 32 99 (zb 38 8589934591) ?_
             refine sk HT_ 33 100 (zb 38 17179869183) ?_
             refine sk HT_ 34 101 (zb 38 34359738367) ?_
             refine sk HT_ 35 102 (zb 38 68719476735) ?_
             refine sk HT_ 36 103 (zb 38 137438953471) ?_
             refine pu HT_ 37 104 (zb 38 274877906943) ?_
             refine done_ (done_of HT_.out (by kernel_rfl)) ?_
             try go_wp2
             go_ret
             exact ⟨by first | rfl | (simp [errW_none, errW_some] <;> rfl) | (simp only [← hji26]; first | rfl | (simp [errW_none, errW_some] <;> rfl)) | (simp [*, errW_none, errW_some] <;> rfl), be_ HB⟩
            ·
             rw [if_neg c29] at H
             have c29b0 : decide (((rd_T61 l0_1 x3_2).f0) ≤ ((rd_T61 l0_1 (ji26)).f0)) = false := decide_eq_false c29
             clear c29
             by_cases c36 : t139 = 0
             ·
              rw [if_pos c36] at H
              have c36b0 : (t139 == 0) = true := beq_iff_eq.mpr c36
              have c36b1 : (t139 != 0) = false := bne_eq_false_iff_eq.mpr c36
              clear c36
              by_cases c37 : (((rd_T61 l0_1 x3_2).f2).length : Int) = 0
              ·
               rw [if_pos c37] at H
               have c37b0 : ((((rd_T61 l0_1 x3_2).f2).length : Int) == 0) = true := beq_iff_eq.mpr c37
               have c37b1 : ((((rd_T61 l0_1 x3_2).f2).length : Int) != 0) = false := bne_eq_false_iff_eq.mpr c37
               clear c37
               obtain rfl := Option.some.inj H
               have hcz38_0 : wr.cell? ⟨gb135, 0, none⟩ = some (.int .i64 a0_0) := bc_ BK135 0
               have hcz38_1 : wr.cell? ⟨gb135, 1, none⟩ = some (.slice A0_1 l0_1.length c0_1) := bc_ BK135 1
               have hcz38_2 : wr.cell? ⟨gb135, 2, none⟩ = some (.int .i64 a0_2) := bc_ BK135 2
               have hcz38_3 : wr.cell? ⟨gb135, 3, none⟩ = some (.int .i64 a0_3) := bc_ BK135 3
               have hfz38_0 := blk_frozen BK135.out 0
               have hfz38_1 := blk_frozen BK135.out 1
               have hfz38_2 := blk_frozen BK135.out 2
               have hfz38_3 := blk_frozen BK135.out 3
               have p136 : 0 ≤ (x3_2 : Int) := dc_
               have q136 : x3_2 < (l0_1.length : Int) := dc_
               obtain ⟨ad136, A136_2, c136_2, e136, hx136_0, hx136_1, hx136_2, hl136_2, hi136_2⟩ := at_T61 HR0_1.out x3_2 p136 q136
               cases e136
               replace hx136_0 := (HB.out.cell (World.block_lt_of_cell? w _ hx136_0)).trans hx136_0
               replace hx136_1 := (HB.out.cell (World.block_lt_of_cell? w _ hx136_1)).trans hx136_1
               replace hx136_2 := (HB.out.cell (World.block_lt_of_cell? w _ hx136_2)).trans hx136_2
               have HR136_2 := Aside0.mk hi136_2
               have HC136_2 := Aside0.mk hl136_2
               clear hi136_2 hl136_2
               replace p136 := eq_true p136
               replace q136 := eq_true q136
               try go_wp2_with (first | ((with_reducible refine gate_dst (N := 4) rfl ?_); (try (refine gate_guard (by rfl) ?_; dsimp only)); refine box_event ?hg (N := 4) ?hd (cs := #[.int .i64 0, .string (⟨#[]⟩ : ByteArray), .slice none 0 0]) (t := 61) ?hr ?_; (case hd => rfl); (case hg => rfl); (case hr => first | (go_simp; done) | (go_simp; rfl)); intro gb137 hg w39 hbox hb; have n0_ := Aside0.mk (blk_below (g := gb135) (o := .cells #[.int .i64 a0_0, .slice (some ad136) l0_1.length c0_1, .int .i64 a0_2, .int .i64 a0_3] 54 (0, 0)) (bk_ BK135) hb); have n1_ := Aside0.mk (below_step (be_ HB) hb); have n2_ := Aside0.mk (hbox); have n3_ := Aside0.mk ((by rw [hg]; exact (below_size (be_ HB)) : w.heap.size ≤ gb137)); have n4_ := Aside0.mk ((by rw [hg]; exact (below_size (be_ HB)) : w.heap.size ≤ gb137)); have n5_ := Aside0.mk ((by rw [hg]; exact Nat.ne_of_lt (blk_lt (g := gb135) (o := .cells #[.int .i64 a0_0, .slice (some ad136) l0_1.length c0_1, .int .i64 a0_2, .int .i64 a0_3] 54 (0, 0)) (bk_ BK135)) : gb135 ≠ gb137)); have n6_ := Aside0.mk ((by rw [hg]; exact Nat.ne_of_gt (blk_lt (g := gb135) (o := .cells #[.int .i64 a0_0, .slice (some ad136) l0_1.length c0_1, .int .i64 a0_2, .int .i64 a0_3] 54 (0, 0)) (bk_ BK135)) : gb137 ≠ gb135)); clear BK135; clear HB; have BK135 := n0_; have HB := n1_; have BK137 := n2_; have GW137 := n3_; have GE137 := n4_; have NB135_137 := n5_; have NB137_135 := n6_; clear n0_ n1_ n2_ n3_ n4_ n5_ n6_; clear hb hbox hg; have hnb40 := NB137_135.out; have hnc40 := NB135_137.out; have hcz41_0 : w39.cell? ⟨gb137, 0, none⟩ = some (.int .i64 0) := bc_ BK137 0; have hcz41_1 : w39.cell? ⟨gb137, 1, none⟩ = some (.string (⟨#[]⟩ : ByteArray)) := bc_ BK137 1; have hcz41_2 : w39.cell? ⟨gb137, 2, none⟩ = some (.slice none 0 0) := bc_ BK137 2; have hfz41_0 := blk_frozen BK137.out 0; have hfz41_1 := blk_frozen BK137.out 1; have hfz41_2 := blk_frozen BK137.out 2) | ((with_reducible refine gate_callee (f := 20) rfl ?_); refine goesL_ (some 64) rfl rfl Try.func20 (by kernel_rfl) rfl #[.string ((rd_T61 l0_1 x3_2).f1)] rfl (by (try simp only [List.map_toArray, List.map_cons, List.map_nil]); first | done | rfl | (simp only [List.length_drop, List.length_take]; rfl)) ?_; (with_reducible refine (thresherref3_All.calls k2 ((rd_T61 l0_1 x3_2).f1) t138 t139 _ A22.out).mono ?_); rintro e w42 ⟨v140, rfl, ho0, hb⟩; refine ⟨_, rfl, ?_⟩; have n0_ := Aside0.mk (Kd.R_lower ho0 (below_size (be_ HB))); have n1_ := Aside0.mk (blk_below (g := gb135) (o := .cells #[.int .i64 a0_0, .slice (some ad136) l0_1.length c0_1, .int .i64 a0_2, .int .i64 a0_3] 54 (0, 0)) (by (with_reducible repeat (first | refine blk_drewN ?_ _ | refine blk_drew ?_ | refine blk_alloc ?_ _)); refine blk_far ?_ NB135_137.out _; (with_reducible repeat (first | refine blk_drewN ?_ _ | refine blk_drew ?_ | refine blk_alloc ?_ _)); refine blk_far ?_ NB135_137.out _; (with_reducible repeat (first | refine blk_drewN ?_ _ | refine blk_drew ?_ | refine blk_alloc ?_ _)); refine blk_far ?_ NB135_137.out _; (with_reducible repeat (first | refine blk_drewN ?_ _ | refine blk_drew ?_ | refine blk_alloc ?_ _)); exact BK135.out) hb); have n2_ := Aside0.mk (blk_below (g := gb137) (o := .cells #[.int .i64 ((rd_T61 l0_1 x3_2).f0), .string ((rd_T61 l0_1 x3_2).f1), .slice A136_2 ((rd_T61 l0_1 x3_2).f2).length c136_2] 61 (0, 0)) (by (with_reducible repeat (first | refine blk_drewN ?_ _ | refine blk_drew ?_ | refine blk_alloc ?_ _)); refine blk_put (cs := #[.int .i64 ((rd_T61 l0_1 x3_2).f0), .string ((rd_T61 l0_1 x3_2).f1), .slice none 0 0]) ?_ 2 _ rfl; (with_reducible repeat (first | refine blk_drewN ?_ _ | refine blk_drew ?_ | refine blk_alloc ?_ _)); refine blk_put (cs := #[.int .i64 ((rd_T61 l0_1 x3_2).f0), .string (⟨#[]⟩ : ByteArray), .slice none 0 0]) ?_ 1 _ rfl; (with_reducible repeat (first | refine blk_drewN ?_ _ | refine blk_drew ?_ | refine blk_alloc ?_ _)); refine blk_put (cs := #[.int .i64 0, .string (⟨#[]⟩ : ByteArray), .slice none 0 0]) ?_ 0 _ rfl; (with_reducible repeat (first | refine blk_drewN ?_ _ | refine blk_drew ?_ | refine blk_alloc ?_ _)); exact BK137.out) hb); have n3_ := Aside0.mk (below_step (be_ HB) hb); clear BK135; clear BK137; clear HB; have HO141 := n0_; have BK135 := n1_; have BK137 := n2_; have HB := n3_; clear n0_ n1_ n2_ n3_; (try clear hb); (try clear hb2); (try clear hk); (try clear hi); (try clear ho0)))
               have n0_ := Aside0.mk (Kd.R_drew HO141.out)
               have n1_ := Aside0.mk (blk_drew BK135.out)
               have n2_ := Aside0.mk (blk_drew BK137.out)
               have n3_ := Aside0.mk (below_drew1 HB.out)
               clear HO141
               clear BK135
               clear BK137
               clear HB
               have HO141 := n0_
               have BK135 := n1_
               have BK137 := n2_
               have HB := n3_
               clear n0_ n1_ n2_ n3_
               have p143 : 0 ≤ ((ji26) : Int) := dc_
               have q143 : (ji26) < (l0_1.length : Int) := dc_
               obtain ⟨ad143, A143_2, c143_2, e143, hx143_0, hx143_1, hx143_2, hl143_2, hi143_2⟩ := at_T61 HR0_1.out (ji26) p143 q143
               have hw143_2 := hx143_2
               have hw143_1 := hx143_1
               have hw143_0 := hx143_0
               obtain rfl : ad136 = ad143 := (by injection e143)
               replace hx143_0 := (HB.out.cell (World.block_lt_of_cell? w _ hx143_0)).trans hx143_0
               replace hx143_1 := (HB.out.cell (World.block_lt_of_cell? w _ hx143_1)).trans hx143_1
               replace hx143_2 := (HB.out.cell (World.block_lt_of_cell? w _ hx143_2)).trans hx143_2
               have HR143_2 := Aside0.mk hi143_2
               have HC143_2 := Aside0.mk hl143_2
               clear hi143_2 hl143_2
               replace p143 := eq_true p143
               replace q143 := eq_true q143
               refine start_ (n := 38) (S := fun w' => w'.cell? ⟨gb137, 0, none⟩ = some (.int .i64 ((rd_T61 l0_1 x3_2).f0)) ∧ w'.cell? ⟨gb137, 1, none⟩ = some (.string ((rd_T61 l0_1 x3_2).f1)) ∧ w'.cell? ⟨gb137, 2, none⟩ = some (.slice A136_2 ((rd_T61 l0_1 x3_2).f2).length c136_2) ∧ w'.cell? ⟨gb135, 0, none⟩ = some (.int .i64 a0_0) ∧ w'.cell? ⟨gb135, 1, none⟩ = some (.slice (some ad136) l0_1.length c0_1) ∧ w'.cell? ⟨gb135, 2, none⟩ = some (.int .i64 a0_2) ∧ w'.cell? ⟨gb135, 3, none⟩ = some (.int .i64 a0_3) ∧ w'.cell? (ad136.add (((ji26)).toNat * 3)) = some (.int .i64 ((rd_T61 l0_1 (ji26)).f0)) ∧ w'.cell? ⟨(ad136.add (((ji26)).toNat * 3)).block, (ad136.add (((ji26)).toNat * 3)).off + 1, none⟩ = some (.string ((rd_T61 l0_1 (ji26)).f1)) ∧ w'.cell? ⟨(ad136.add (((ji26)).toNat * 3)).block, (ad136.add (((ji26)).toNat * 3)).off + 2, none⟩ = some (.slice A143_2 ((rd_T61 l0_1 (ji26)).f2).length c143_2)) (ds := []) #[false, false, false, false, false, false, false, false, false, false, false, false, false, false, false, false, false, false, false, false, false, false, false, false, false, false, false, false, false, false, false, false, false, false, false, false, false, false] (by kernel_rfl) rfl rfl ⟨bc_ BK137 0, bc_ BK137 1, bc_ BK137 2, bc_ BK135 0, bc_ BK135 1, bc_ BK135 2, bc_ BK135 3, ((HB.out.cell (World.block_lt_of_cell? w _ hw143_0)).trans hw143_0), ((HB.out.cell (World.block_lt_of_cell? w _ hw143_1)).trans hw143_1), ((HB.out.cell (World.block_lt_of_cell? w _ hw143_2)).trans hw143_2)⟩ (fun hHeld => ?_); refine with_tabW thresherref11_Config.tab8 thresherref11_Config.bits8 (fun HT_ HW_ => ?_)
               generalize w42.drew = w43 at HO141 BK135 BK137 HB HR143_2 hx143_0 hx143_1 hx143_2 hHeld ⊢
               refine pu HT_ 0 67 (zb 38 1) ?_
               refine tk HT_ HW_ hHeld 1 68 (zb 38 3) (hv := by rintro w' ⟨s0, s1, s2, s3, s4, s5, s6, s7, s8, s9⟩; go_simp; with_reducible rfl) (h := ?_)
               refine one_ (i := 2) (N := some 69) (zb 38 7) rfl rfl (one_of HT_.out (by kernel_rfl)) (by decide) (fun K hK => ?_)
               refine goes_ Try.func47 (by kernel_rfl) rfl #[.int .i64 ((rd_T61 l0_1 x3_2).f0)] (by rfl) rfl rfl (by (try simp only [List.map_toArray, List.map_cons, List.map_nil]); first | done | rfl | (simp only [List.length_drop, List.length_take]; rfl)) ?_
               with_reducible refine (thresherref0_ID.calls ((rd_T61 l0_1 x3_2).f0) true _ A23.out).mono ?_
               rintro e w' ⟨rfl, ⟨nd, rfl⟩⟩
               refine ⟨_, rfl, ?_⟩
               refine hK.out _ _ ⟨bc_ BK137 0, bc_ BK137 1, bc_ BK137 2, bc_ BK135 0, bc_ BK135 1, bc_ BK135 2, bc_ BK135 3, ((HB.out.cell (World.block_lt_of_cell? w _ hw143_0)).trans hw143_0), ((HB.out.cell (World.block_lt_of_cell? w _ hw143_1)).trans hw143_1), ((HB.out.cell (World.block_lt_of_cell? w _ hw143_2)).trans hw143_2)⟩ (fun hHeld => ?_)
               clear hK K
               refine nm 69 ?_
               refine pu HT_ 3 70 (zb 38 15) ?_
               refine pu HT_ 4 71 (zb 38 31) ?_
               refine pu HT_ 5 72 (zb 38 63) ?_
               refine pu HT_ 6 73 (zb 38 127) ?_
               refine pu HT_ 7 74 (zb 38 255) ?_
               refine pu HT_ 8 75 (zb 38 511) ?_
               refine pu HT_ 10 77 (zb 38 1535) ?_
               refine pu HT_ 11 78 (zb 38 3583) ?_
               refine pu HT_ 15 82 (zb 38 36351) ?_
               refine tk HT_ HW_ hHeld 9 76 (zb 38 36863) (hv := by rintro w' ⟨s0, s1, s2, s3, s4, s5, s6, s7, s8, s9⟩; go_simp; with_reducible rfl) (h := ?_)
               refine pu HT_ 12 79 (zb 38 40959) ?_
               refine pu HT_ 13 80 (zb 38 49151) ?_
               refine tk HT_ HW_ hHeld 14 81 (zb 38 65535) (hv := by rintro w' ⟨s0, s1, s2, s3, s4, s5, s6, s7, s8, s9⟩; go_simp; with_reducible rfl) (h := ?_)
               refine tk HT_ HW_ hHeld 16 83 (zb 38 131071) (hv := by rintro w' ⟨s0, s1, s2, s3, s4, s5, s6, s7, s8, s9⟩; go_simp; with_reducible rfl) (h := ?_)
               refine pu HT_ 17 84 (zb 38 262143) ?_
               refine pu HT_ 18 85 (zb 38 524287) ?_
               refine pu HT_ 19 86 (zb 38 1048575) ?_
               refine pu HT_ 20 87 (zb 38 2097151) ?_
               refine pu HT_ 21 88 (zb 38 4194303) ?_
               refine pu HT_ 22 89 (zb 38 8388607) ?_
               refine pu HT_ 23 90 (zb 38 16777215) ?_
               refine pu HT_ 24 91 (zb 38 33554431) ?_
               refine pu HT_ 25 92 (zb 38 67108863) ?_
               refine tk HT_ HW_ hHeld 26 93 (zb 38 134217727) (hv := by rintro w' ⟨s0, s1, s2, s3, s4, s5, s6, s7, s8, s9⟩; go_simp; with_reducible rfl) (h := ?_)
               refine pu HT_ 27 94 (zb 38 268435455) ?_
               refine pu HT_ 28 95 (zb 38 536870911) ?_
               refine pu HT_ 29 96 (zb 38 1073741823) ?_
               refine pu HT_ 30 97 (zb 38 2147483647) ?_
               refine sk HT_ 31 98 (zb 38 4294967295) ?_
               refine sk HT_ 32 99 (zb 38 8589934591) ?_
               refine sk HT_ 33 100 (zb 38 17179869183) ?_
               refine sk HT_ 34 101 (zb 38 34359738367) ?_
               refine sk HT_ 35 102 (zb 38 68719476735) ?_
               refine sk HT_ 36 103 (zb 38 137438953471) ?_
               refine pu HT_ 37 104 (zb 38 274877906943) ?_
               refine done_ (done_of HT_.out (by kernel_rfl)) ?_
               try go_wp2
               go_ret
               exact ⟨by first | rfl | (simp [errW_none, errW_some] <;> rfl) | (simp only [← hji26]; first | rfl | (simp [errW_none, errW_some] <;> rfl)) | (simp [*, errW_none, errW_some] <;> rfl), be_ HB⟩
              ·
               rw [if_neg c37] at H
               have c37b0 : ((((rd_T61 l0_1 x3_2).f2).length : Int) == 0) = false := beq_eq_false_iff_ne.mpr c37
               have c37b1 : ((((rd_T61 l0_1 x3_2).f2).length : Int) != 0) = true := bne_iff_ne.mpr c37
               have c37b2 : ¬ (((rd_T61 l0_1 x3_2).f2) = []) := fun h_ => c37 (by rw [h_]; rfl)
               replace H := Option.bind_eq_some_iff.mp H
               obtain ⟨t144, A440, H⟩ := H
               replace H : (if t144 = true then (thresherref11_Config.l0 k2 (wrap64 (x3_2 + 1)) a0_0 l0_1 a0_2 a0_3) else (some false)) = some r := H
               have A44 := Aside0.mk A440
               clear A440
               by_cases c45 : t144 = true
               ·
                subst c45
                have H1 : (thresherref11_Config.l0 k2 (wrap64 (x3_2 + 1)) a0_0 l0_1 a0_2 a0_3) = some r := by rw [if_pos rfl] at H; exact H
                clear H
                have H := H1
                clear H1
                have H' := Aside0.mk H
                clear H
                have hcz46_0 : wr.cell? ⟨gb135, 0, none⟩ = some (.int .i64 a0_0) := bc_ BK135 0
                have hcz46_1 : wr.cell? ⟨gb135, 1, none⟩ = some (.slice A0_1 l0_1.length c0_1) := bc_ BK135 1
                have hcz46_2 : wr.cell? ⟨gb135, 2, none⟩ = some (.int .i64 a0_2) := bc_ BK135 2
                have hcz46_3 : wr.cell? ⟨gb135, 3, none⟩ = some (.int .i64 a0_3) := bc_ BK135 3
                have hfz46_0 := blk_frozen BK135.out 0
                have hfz46_1 := blk_frozen BK135.out 1
                have hfz46_2 := blk_frozen BK135.out 2
                have hfz46_3 := blk_frozen BK135.out 3
                have p136 : 0 ≤ (x3_2 : Int) := dc_
                have q136 : x3_2 < (l0_1.length : Int) := dc_
                obtain ⟨ad136, A136_2, c136_2, e136, hx136_0, hx136_1, hx136_2, hl136_2, hi136_2⟩ := at_T61 HR0_1.out x3_2 p136 q136
                cases e136
                replace hx136_0 := (HB.out.cell (World.block_lt_of_cell? w _ hx136_0)).trans hx136_0
                replace hx136_1 := (HB.out.cell (World.block_lt_of_cell? w _ hx136_1)).trans hx136_1
                replace hx136_2 := (HB.out.cell (World.block_lt_of_cell? w _ hx136_2)).trans hx136_2
                have HR136_2 := Aside0.mk hi136_2
                have HC136_2 := Aside0.mk hl136_2
                clear hi136_2 hl136_2
                replace p136 := eq_true p136
                replace q136 := eq_true q136
                try go_wp2_with (first | ((with_reducible refine gate_dst (N := 4) rfl ?_); (try (refine gate_guard (by rfl) ?_; dsimp only)); refine box_event ?hg (N := 4) ?hd (cs := #[.int .i64 0, .string (⟨#[]⟩ : ByteArray), .slice none 0 0]) (t := 61) ?hr ?_; (case hd => rfl); (case hg => rfl); (case hr => first | (go_simp; done) | (go_simp; rfl)); intro gb137 hg w47 hbox hb; have n0_ := Aside0.mk (blk_below (g := gb135) (o := .cells #[.int .i64 a0_0, .slice (some ad136) l0_1.length c0_1, .int .i64 a0_2, .int .i64 a0_3] 54 (0, 0)) (bk_ BK135) hb); have n1_ := Aside0.mk (below_step (be_ HB) hb); have n2_ := Aside0.mk (hbox); have n3_ := Aside0.mk ((by rw [hg]; exact (below_size (be_ HB)) : w.heap.size ≤ gb137)); have n4_ := Aside0.mk ((by rw [hg]; exact (below_size (be_ HB)) : w.heap.size ≤ gb137)); have n5_ := Aside0.mk ((by rw [hg]; exact Nat.ne_of_lt (blk_lt (g := gb135) (o := .cells #[.int .i64 a0_0, .slice (some ad136) l0_1.length c0_1, .int .i64 a0_2, .int .i64 a0_3] 54 (0, 0)) (bk_ BK135)) : gb135 ≠ gb137)); have n6_ := Aside0.mk ((by rw [hg]; exact Nat.ne_of_gt (blk_lt (g := gb135) (o := .cells #[.int .i64 a0_0, .slice (some ad136) l0_1.length c0_1, .int .i64 a0_2, .int .i64 a0_3] 54 (0, 0)) (bk_ BK135)) : gb137 ≠ gb135)); clear BK135; clear HB; have BK135 := n0_; have HB := n1_; have BK137 := n2_; have GW137 := n3_; have GE137 := n4_; have NB135_137 := n5_; have NB137_135 := n6_; clear n0_ n1_ n2_ n3_ n4_ n5_ n6_; clear hb hbox hg; have hnb48 := NB137_135.out; have hnc48 := NB135_137.out; have hcz49_0 : w47.cell? ⟨gb137, 0, none⟩ = some (.int .i64 0) := bc_ BK137 0; have hcz49_1 : w47.cell? ⟨gb137, 1, none⟩ = some (.string (⟨#[]⟩ : ByteArray)) := bc_ BK137 1; have hcz49_2 : w47.cell? ⟨gb137, 2, none⟩ = some (.slice none 0 0) := bc_ BK137 2; have hfz49_0 := blk_frozen BK137.out 0; have hfz49_1 := blk_frozen BK137.out 1; have hfz49_2 := blk_frozen BK137.out 2) | ((with_reducible refine gate_callee (f := 20) rfl ?_); refine goesL_ (some 64) rfl rfl Try.func20 (by kernel_rfl) rfl #[.string ((rd_T61 l0_1 x3_2).f1)] rfl (by (try simp only [List.map_toArray, List.map_cons, List.map_nil]); first | done | rfl | (simp only [List.length_drop, List.length_take]; rfl)) ?_; (with_reducible refine (thresherref3_All.calls k2 ((rd_T61 l0_1 x3_2).f1) t138 t139 _ A22.out).mono ?_); rintro e w50 ⟨v140, rfl, ho0, hb⟩; refine ⟨_, rfl, ?_⟩; have n0_ := Aside0.mk (Kd.R_lower ho0 (below_size (be_ HB))); have n1_ := Aside0.mk (blk_below (g := gb135) (o := .cells #[.int .i64 a0_0, .slice (some ad136) l0_1.length c0_1, .int .i64 a0_2, .int .i64 a0_3] 54 (0, 0)) (by (with_reducible repeat (first | refine blk_drewN ?_ _ | refine blk_drew ?_ | refine blk_alloc ?_ _)); refine blk_far ?_ NB135_137.out _; (with_reducible repeat (first | refine blk_drewN ?_ _ | refine blk_drew ?_ | refine blk_alloc ?_ _)); refine blk_far ?_ NB135_137.out _; (with_reducible repeat (first | refine blk_drewN ?_ _ | refine blk_drew ?_ | refine blk_alloc ?_ _)); refine blk_far ?_ NB135_137.out _; (with_reducible repeat (first | refine blk_drewN ?_ _ | refine blk_drew ?_ | refine blk_alloc ?_ _)); exact BK135.out) hb); have n2_ := Aside0.mk (blk_below (g := gb137) (o := .cells #[.int .i64 ((rd_T61 l0_1 x3_2).f0), .string ((rd_T61 l0_1 x3_2).f1), .slice A136_2 ((rd_T61 l0_1 x3_2).f2).length c136_2] 61 (0, 0)) (by (with_reducible repeat (first | refine blk_drewN ?_ _ | refine blk_drew ?_ | refine blk_alloc ?_ _)); refine blk_put (cs := #[.int .i64 ((rd_T61 l0_1 x3_2).f0), .string ((rd_T61 l0_1 x3_2).f1), .slice none 0 0]) ?_ 2 _ rfl; (with_reducible repeat (first | refine blk_drewN ?_ _ | refine blk_drew ?_ | refine blk_alloc ?_ _)); refine blk_put (cs := #[.int .i64 ((rd_T61 l0_1 x3_2).f0), .string (⟨#[]⟩ : ByteArray), .slice none 0 0]) ?_ 1 _ rfl; (with_reducible repeat (first | refine blk_drewN ?_ _ | refine blk_drew ?_ | refine blk_alloc ?_ _)); refine blk_put (cs := #[.int .i64 0, .string (⟨#[]⟩ : ByteArray), .slice none 0 0]) ?_ 0 _ rfl; (with_reducible repeat (first | refine blk_drewN ?_ _ | refine blk_drew ?_ | refine blk_alloc ?_ _)); exact BK137.out) hb); have n3_ := Aside0.mk (below_step (be_ HB) hb); clear BK135; clear BK137; clear HB; have HO141 := n0_; have BK135 := n1_; have BK137 := n2_; have HB := n3_; clear n0_ n1_ n2_ n3_; (try clear hb); (try clear hb2); (try clear hk); (try clear hi); (try clear ho0)))
                have n0_ := Aside0.mk (Kd.R_drew HO141.out)
                have n1_ := Aside0.mk (blk_drew BK135.out)
                have n2_ := Aside0.mk (blk_drew BK137.out)
                have n3_ := Aside0.mk (below_drew1 HB.out)
                clear HO141
                clear BK135
                clear BK137
                clear HB
                have HO141 := n0_
                have BK135 := n1_
                have BK137 := n2_
                have HB := n3_
                clear n0_ n1_ n2_ n3_
                have p143 : 0 ≤ ((ji26) : Int) := dc_
                have q143 : (ji26) < (l0_1.length : Int) := dc_
                obtain ⟨ad143, A143_2, c143_2, e143, hx143_0, hx143_1, hx143_2, hl143_2, hi143_2⟩ := at_T61 HR0_1.out (ji26) p143 q143
                have hw143_2 := hx143_2
                have hw143_1 := hx143_1
                have hw143_0 := hx143_0
                obtain rfl : ad136 = ad143 := (by injection e143)
                replace hx143_0 := (HB.out.cell (World.block_lt_of_cell? w _ hx143_0)).trans hx143_0
                replace hx143_1 := (HB.out.cell (World.block_lt_of_cell? w _ hx143_1)).trans hx143_1
                replace hx143_2 := (HB.out.cell (World.block_lt_of_cell? w _ hx143_2)).trans hx143_2
                have HR143_2 := Aside0.mk hi143_2
                have HC143_2 := Aside0.mk hl143_2
                clear hi143_2 hl143_2
                replace p143 := eq_true p143
                replace q143 := eq_true q143
                refine start_ (n := 38) (S := fun w' => w'.cell? ⟨gb137, 0, none⟩ = some (.int .i64 ((rd_T61 l0_1 x3_2).f0)) ∧ w'.cell? ⟨gb137, 1, none⟩ = some (.string ((rd_T61 l0_1 x3_2).f1)) ∧ w'.cell? ⟨gb137, 2, none⟩ = some (.slice A136_2 ((rd_T61 l0_1 x3_2).f2).length c136_2) ∧ w'.cell? ⟨gb135, 0, none⟩ = some (.int .i64 a0_0) ∧ w'.cell? ⟨gb135, 1, none⟩ = some (.slice (some ad136) l0_1.length c0_1) ∧ w'.cell? ⟨gb135, 2, none⟩ = some (.int .i64 a0_2) ∧ w'.cell? ⟨gb135, 3, none⟩ = some (.int .i64 a0_3) ∧ w'.cell? (ad136.add (((ji26)).toNat * 3)) = some (.int .i64 ((rd_T61 l0_1 (ji26)).f0)) ∧ w'.cell? ⟨(ad136.add (((ji26)).toNat * 3)).block, (ad136.add (((ji26)).toNat * 3)).off + 1, none⟩ = some (.string ((rd_T61 l0_1 (ji26)).f1)) ∧ w'.cell? ⟨(ad136.add (((ji26)).toNat * 3)).block, (ad136.add (((ji26)).toNat * 3)).off + 2, none⟩ = some (.slice A143_2 ((rd_T61 l0_1 (ji26)).f2).length c143_2)) (ds := []) #[false, false, false, false, false, false, false, false, false, false, false, false, false, false, false, false, false, false, false, false, false, false, false, false, false, false, false, false, false, false, false, false, false, false, false, false, false, false] (by kernel_rfl) rfl rfl ⟨bc_ BK137 0, bc_ BK137 1, bc_ BK137 2, bc_ BK135 0, bc_ BK135 1, bc_ BK135 2, bc_ BK135 3, ((HB.out.cell (World.block_lt_of_cell? w _ hw143_0)).trans hw143_0), ((HB.out.cell (World.block_lt_of_cell? w _ hw143_1)).trans hw143_1), ((HB.out.cell (World.block_lt_of_cell? w _ hw143_2)).trans hw143_2)⟩ (fun hHeld => ?_); refine with_tabW thresherref11_Config.tab8 thresherref11_Config.bits8 (fun HT_ HW_ => ?_)
                generalize w50.drew = w51 at HO141 BK135 BK137 HB HR143_2 hx143_0 hx143_1 hx143_2 hHeld ⊢
                refine pu HT_ 0 67 (zb 38 1) ?_
                refine tk HT_ HW_ hHeld 1 68 (zb 38 3) (hv := by rintro w' ⟨s0, s1, s2, s3, s4, s5, s6, s7, s8, s9⟩; go_simp; with_reducible rfl) (h := ?_)
                refine one_ (i := 2) (N := some 69) (zb 38 7) rfl rfl (one_of HT_.out (by kernel_rfl)) (by decide) (fun K hK => ?_)
                refine goes_ Try.func47 (by kernel_rfl) rfl #[.int .i64 ((rd_T61 l0_1 x3_2).f0)] (by rfl) rfl rfl (by (try simp only [List.map_toArray, List.map_cons, List.map_nil]); first | done | rfl | (simp only [List.length_drop, List.length_take]; rfl)) ?_
                with_reducible refine (thresherref0_ID.calls ((rd_T61 l0_1 x3_2).f0) true _ A23.out).mono ?_
                rintro e w' ⟨rfl, ⟨nd, rfl⟩⟩
                refine ⟨_, rfl, ?_⟩
                refine hK.out _ _ ⟨bc_ BK137 0, bc_ BK137 1, bc_ BK137 2, bc_ BK135 0, bc_ BK135 1, bc_ BK135 2, bc_ BK135 3, ((HB.out.cell (World.block_lt_of_cell? w _ hw143_0)).trans hw143_0), ((HB.out.cell (World.block_lt_of_cell? w _ hw143_1)).trans hw143_1), ((HB.out.cell (World.block_lt_of_cell? w _ hw143_2)).trans hw143_2)⟩ (fun hHeld => ?_)
                clear hK K
                refine nm 69 ?_
                refine pu HT_ 3 70 (zb 38 15) ?_
                refine pu HT_ 4 71 (zb 38 31) ?_
                refine pu HT_ 5 72 (zb 38 63) ?_
                refine pu HT_ 6 73 (zb 38 127) ?_
                refine pu HT_ 7 74 (zb 38 255) ?_
                refine pu HT_ 8 75 (zb 38 511) ?_
                refine pu HT_ 10 77 (zb 38 1535) ?_
                refine pu HT_ 11 78 (zb 38 3583) ?_
                refine pu HT_ 15 82 (zb 38 36351) ?_
                refine tk HT_ HW_ hHeld 9 76 (zb 38 36863) (hv := by rintro w' ⟨s0, s1, s2, s3, s4, s5, s6, s7, s8, s9⟩; go_simp; with_reducible rfl) (h := ?_)
                refine pu HT_ 12 79 (zb 38 40959) ?_
                refine pu HT_ 13 80 (zb 38 49151) ?_
                refine tk HT_ HW_ hHeld 14 81 (zb 38 65535) (hv := by rintro w' ⟨s0, s1, s2, s3, s4, s5, s6, s7, s8, s9⟩; go_simp; with_reducible rfl) (h := ?_)
                refine tk HT_ HW_ hHeld 16 83 (zb 38 131071) (hv := by rintro w' ⟨s0, s1, s2, s3, s4, s5, s6, s7, s8, s9⟩; go_simp; with_reducible rfl) (h := ?_)
                refine pu HT_ 17 84 (zb 38 262143) ?_
                refine pu HT_ 18 85 (zb 38 524287) ?_
                refine pu HT_ 19 86 (zb 38 1048575) ?_
                refine pu HT_ 20 87 (zb 38 2097151) ?_
                refine pu HT_ 21 88 (zb 38 4194303) ?_
                refine pu HT_ 22 89 (zb 38 8388607) ?_
                refine pu HT_ 23 90 (zb 38 16777215) ?_
                refine pu HT_ 24 91 (zb 38 33554431) ?_
                refine pu HT_ 25 92 (zb 38 67108863) ?_
                refine tk HT_ HW_ hHeld 26 93 (zb 38 134217727) (hv := by rintro w' ⟨s0, s1, s2, s3, s4, s5, s6, s7, s8, s9⟩; go_simp; with_reducible rfl) (h := ?_)
                refine pu HT_ 27 94 (zb 38 268435455) ?_
                refine pu HT_ 28 95 (zb 38 536870911) ?_
                refine pu HT_ 29 96 (zb 38 1073741823) ?_
                refine pu HT_ 30 97 (zb 38 2147483647) ?_
                refine pu HT_ 31 98 (zb 38 4294967295) ?_
                refine pu HT_ 33 100 (zb 38 12884901887) ?_
                refine tk HT_ HW_ hHeld 32 99 (zb 38 17179869183) (hv := by rintro w' ⟨s0, s1, s2, s3, s4, s5, s6, s7, s8, s9⟩; go_simp; with_reducible rfl) (h := ?_)
                refine tk HT_ HW_ hHeld 34 101 (zb 38 34359738367) (hv := by rintro w' ⟨s0, s1, s2, s3, s4, s5, s6, s7, s8, s9⟩; go_simp; with_reducible rfl) (h := ?_)
                refine one_ (i := 35) (N := some 102) (zb 38 68719476735) rfl rfl (one_of HT_.out (by kernel_rfl)) (by decide) (fun K hK => ?_)
                refine goes_ Try.func48 (by kernel_rfl) rfl #[.slice A136_2 ((rd_T61 l0_1 x3_2).f2).length c136_2, .int .i64 1, .int .i64 a0_0] (by rfl) rfl rfl (by (try simp only [List.map_toArray, List.map_cons, List.map_nil]); first | done | rfl | (simp only [List.length_drop, List.length_take]; rfl)) ?_
                with_reducible refine (thresherref0_Rising.calls k2 _ _ ((rd_T61 l0_1 x3_2).f2) 1 a0_0 true _ ?side1 ?side2 A44.out).mono ?_
                (case side1 => repeat (first | exact (Kd.C_below HR136_2.out (be_ HB)) | (with_reducible refine Kd.C_alloc ?_ _) | (with_reducible refine Kd.C_drewN ?_ _) | (with_reducible refine Kd.C_drew ?_)))
                (case side2 => exact HC136_2.out)
                rintro e w' ⟨rfl, ⟨nd, rfl⟩⟩
                refine ⟨_, rfl, ?_⟩
                refine hK.out _ _ ⟨bc_ BK137 0, bc_ BK137 1, bc_ BK137 2, bc_ BK135 0, bc_ BK135 1, bc_ BK135 2, bc_ BK135 3, ((HB.out.cell (World.block_lt_of_cell? w _ hw143_0)).trans hw143_0), ((HB.out.cell (World.block_lt_of_cell? w _ hw143_1)).trans hw143_1), ((HB.out.cell (World.block_lt_of_cell? w _ hw143_2)).trans hw143_2)⟩ (fun hHeld => ?_)
                clear hK K
                refine nm 102 ?_
                refine pu HT_ 36 103 (zb 38 137438953471) ?_
                refine pu HT_ 37 104 (zb 38 274877906943) ?_
                refine done_ (done_of HT_.out (by kernel_rfl)) ?_
                try go_wp2
                go_roundg k2
                case measure => have := HJ1.out; have := HK2.out; omega
                case rel => exact ⟨(wrap64 (x3_2 + 1)), eq_, H', ⟨by have := HJ1.out; have := HK2.out; omega⟩, ⟨bk_ BK135⟩, ⟨be_ HB⟩⟩
               ·
                replace c45 := Bool.eq_false_iff.mpr c45
                subst c45
                have H1 : (some false) = some r := by rw [if_neg (show ¬ (false = true) by decide)] at H; exact H
                clear H
                have H := H1
                clear H1
                obtain rfl := Option.some.inj H
                have hcz52_0 : wr.cell? ⟨gb135, 0, none⟩ = some (.int .i64 a0_0) := bc_ BK135 0
                have hcz52_1 : wr.cell? ⟨gb135, 1, none⟩ = some (.slice A0_1 l0_1.length c0_1) := bc_ BK135 1
                have hcz52_2 : wr.cell? ⟨gb135, 2, none⟩ = some (.int .i64 a0_2) := bc_ BK135 2
                have hcz52_3 : wr.cell? ⟨gb135, 3, none⟩ = some (.int .i64 a0_3) := bc_ BK135 3
                have hfz52_0 := blk_frozen BK135.out 0
                have hfz52_1 := blk_frozen BK135.out 1
                have hfz52_2 := blk_frozen BK135.out 2
                have hfz52_3 := blk_frozen BK135.out 3
                have p136 : 0 ≤ (x3_2 : Int) := dc_
                have q136 : x3_2 < (l0_1.length : Int) := dc_
                obtain ⟨ad136, A136_2, c136_2, e136, hx136_0, hx136_1, hx136_2, hl136_2, hi136_2⟩ := at_T61 HR0_1.out x3_2 p136 q136
                cases e136
                replace hx136_0 := (HB.out.cell (World.block_lt_of_cell? w _ hx136_0)).trans hx136_0
                replace hx136_1 := (HB.out.cell (World.block_lt_of_cell? w _ hx136_1)).trans hx136_1
                replace hx136_2 := (HB.out.cell (World.block_lt_of_cell? w _ hx136_2)).trans hx136_2
                have HR136_2 := Aside0.mk hi136_2
                have HC136_2 := Aside0.mk hl136_2
                clear hi136_2 hl136_2
                replace p136 := eq_true p136
                replace q136 := eq_true q136
                try go_wp2_with (first | ((with_reducible refine gate_dst (N := 4) rfl ?_); (try (refine gate_guard (by rfl) ?_; dsimp only)); refine box_event ?hg (N := 4) ?hd (cs := #[.int .i64 0, .string (⟨#[]⟩ : ByteArray), .slice none 0 0]) (t := 61) ?hr ?_; (case hd => rfl); (case hg => rfl); (case hr => first | (go_simp; done) | (go_simp; rfl)); intro gb137 hg w53 hbox hb; have n0_ := Aside0.mk (blk_below (g := gb135) (o := .cells #[.int .i64 a0_0, .slice (some ad136) l0_1.length c0_1, .int .i64 a0_2, .int .i64 a0_3] 54 (0, 0)) (bk_ BK135) hb); have n1_ := Aside0.mk (below_step (be_ HB) hb); have n2_ := Aside0.mk (hbox); have n3_ := Aside0.mk ((by rw [hg]; exact (below_size (be_ HB)) : w.heap.size ≤ gb137)); have n4_ := Aside0.mk ((by rw [hg]; exact (below_size (be_ HB)) : w.heap.size ≤ gb137)); have n5_ := Aside0.mk ((by rw [hg]; exact Nat.ne_of_lt (blk_lt (g := gb135) (o := .cells #[.int .i64 a0_0, .slice (some ad136) l0_1.length c0_1, .int .i64 a0_2, .int .i64 a0_3] 54 (0, 0)) (bk_ BK135)) : gb135 ≠ gb137)); have n6_ := Aside0.mk ((by rw [hg]; exact Nat.ne_of_gt (blk_lt (g := gb135) (o := .cells #[.int .i64 a0_0, .slice (some ad136) l0_1.length c0_1, .int .i64 a0_2, .int .i64 a0_3] 54 (0, 0)) (bk_ BK135)) : gb137 ≠ gb135)); clear BK135; clear HB; have BK135 := n0_; have HB := n1_; have BK137 := n2_; have GW137 := n3_; have GE137 := n4_; have NB135_137 := n5_; have NB137_135 := n6_; clear n0_ n1_ n2_ n3_ n4_ n5_ n6_; clear hb hbox hg; have hnb54 := NB137_135.out; have hnc54 := NB135_137.out; have hcz55_0 : w53.cell? ⟨gb137, 0, none⟩ = some (.int .i64 0) := bc_ BK137 0; have hcz55_1 : w53.cell? ⟨gb137, 1, none⟩ = some (.string (⟨#[]⟩ : ByteArray)) := bc_ BK137 1; have hcz55_2 : w53.cell? ⟨gb137, 2, none⟩ = some (.slice none 0 0) := bc_ BK137 2; have hfz55_0 := blk_frozen BK137.out 0; have hfz55_1 := blk_frozen BK137.out 1; have hfz55_2 := blk_frozen BK137.out 2) | ((with_reducible refine gate_callee (f := 20) rfl ?_); refine goesL_ (some 64) rfl rfl Try.func20 (by kernel_rfl) rfl #[.string ((rd_T61 l0_1 x3_2).f1)] rfl (by (try simp only [List.map_toArray, List.map_cons, List.map_nil]); first | done | rfl | (simp only [List.length_drop, List.length_take]; rfl)) ?_; (with_reducible refine (thresherref3_All.calls k2 ((rd_T61 l0_1 x3_2).f1) t138 t139 _ A22.out).mono ?_); rintro e w56 ⟨v140, rfl, ho0, hb⟩; refine ⟨_, rfl, ?_⟩; have n0_ := Aside0.mk (Kd.R_lower ho0 (below_size (be_ HB))); have n1_ := Aside0.mk (blk_below (g := gb135) (o := .cells #[.int .i64 a0_0, .slice (some ad136) l0_1.length c0_1, .int .i64 a0_2, .int .i64 a0_3] 54 (0, 0)) (by (with_reducible repeat (first | refine blk_drewN ?_ _ | refine blk_drew ?_ | refine blk_alloc ?_ _)); refine blk_far ?_ NB135_137.out _; (with_reducible repeat (first | refine blk_drewN ?_ _ | refine blk_drew ?_ | refine blk_alloc ?_ _)); refine blk_far ?_ NB135_137.out _; (with_reducible repeat (first | refine blk_drewN ?_ _ | refine blk_drew ?_ | refine blk_alloc ?_ _)); refine blk_far ?_ NB135_137.out _; (with_reducible repeat (first | refine blk_drewN ?_ _ | refine blk_drew ?_ | refine blk_alloc ?_ _)); exact BK135.out) hb); have n2_ := Aside0.mk (blk_below (g := gb137) (o := .cells #[.int .i64 ((rd_T61 l0_1 x3_2).f0), .string ((rd_T61 l0_1 x3_2).f1), .slice A136_2 ((rd_T61 l0_1 x3_2).f2).length c136_2] 61 (0, 0)) (by (with_reducible repeat (first | refine blk_drewN ?_ _ | refine blk_drew ?_ | refine blk_alloc ?_ _)); refine blk_put (cs := #[.int .i64 ((rd_T61 l0_1 x3_2).f0), .string ((rd_T61 l0_1 x3_2).f1), .slice none 0 0]) ?_ 2 _ rfl; (with_reducible repeat (first | refine blk_drewN ?_ _ | refine blk_drew ?_ | refine blk_alloc ?_ _)); refine blk_put (cs := #[.int .i64 ((rd_T61 l0_1 x3_2).f0), .string (⟨#[]⟩ : ByteArray), .slice none 0 0]) ?_ 1 _ rfl; (with_reducible repeat (first | refine blk_drewN ?_ _ | refine blk_drew ?_ | refine blk_alloc ?_ _)); refine blk_put (cs := #[.int .i64 0, .string (⟨#[]⟩ : ByteArray), .slice none 0 0]) ?_ 0 _ rfl; (with_reducible repeat (first | refine blk_drewN ?_ _ | refine blk_drew ?_ | refine blk_alloc ?_ _)); exact BK137.out) hb); have n3_ := Aside0.mk (below_step (be_ HB) hb); clear BK135; clear BK137; clear HB; have HO141 := n0_; have BK135 := n1_; have BK137 := n2_; have HB := n3_; clear n0_ n1_ n2_ n3_; (try clear hb); (try clear hb2); (try clear hk); (try clear hi); (try clear ho0)))
                have n0_ := Aside0.mk (Kd.R_drew HO141.out)
                have n1_ := Aside0.mk (blk_drew BK135.out)
                have n2_ := Aside0.mk (blk_drew BK137.out)
                have n3_ := Aside0.mk (below_drew1 HB.out)
                clear HO141
                clear BK135
                clear BK137
                clear HB
                have HO141 := n0_
                have BK135 := n1_
                have BK137 := n2_
                have HB := n3_
                clear n0_ n1_ n2_ n3_
                have p143 : 0 ≤ ((ji26) : Int) := dc_
                have q143 : (ji26) < (l0_1.length : Int) := dc_
                obtain ⟨ad143, A143_2, c143_2, e143, hx143_0, hx143_1, hx143_2, hl143_2, hi143_2⟩ := at_T61 HR0_1.out (ji26) p143 q143
                have hw143_2 := hx143_2
                have hw143_1 := hx143_1
                have hw143_0 := hx143_0
                obtain rfl : ad136 = ad143 := (by injection e143)
                replace hx143_0 := (HB.out.cell (World.block_lt_of_cell? w _ hx143_0)).trans hx143_0
                replace hx143_1 := (HB.out.cell (World.block_lt_of_cell? w _ hx143_1)).trans hx143_1
                replace hx143_2 := (HB.out.cell (World.block_lt_of_cell? w _ hx143_2)).trans hx143_2
                have HR143_2 := Aside0.mk hi143_2
                have HC143_2 := Aside0.mk hl143_2
                clear hi143_2 hl143_2
                replace p143 := eq_true p143
                replace q143 := eq_true q143
                refine start_ (n := 38) (S := fun w' => w'.cell? ⟨gb137, 0, none⟩ = some (.int .i64 ((rd_T61 l0_1 x3_2).f0)) ∧ w'.cell? ⟨gb137, 1, none⟩ = some (.string ((rd_T61 l0_1 x3_2).f1)) ∧ w'.cell? ⟨gb137, 2, none⟩ = some (.slice A136_2 ((rd_T61 l0_1 x3_2).f2).length c136_2) ∧ w'.cell? ⟨gb135, 0, none⟩ = some (.int .i64 a0_0) ∧ w'.cell? ⟨gb135, 1, none⟩ = some (.slice (some ad136) l0_1.length c0_1) ∧ w'.cell? ⟨gb135, 2, none⟩ = some (.int .i64 a0_2) ∧ w'.cell? ⟨gb135, 3, none⟩ = some (.int .i64 a0_3) ∧ w'.cell? (ad136.add (((ji26)).toNat * 3)) = some (.int .i64 ((rd_T61 l0_1 (ji26)).f0)) ∧ w'.cell? ⟨(ad136.add (((ji26)).toNat * 3)).block, (ad136.add (((ji26)).toNat * 3)).off + 1, none⟩ = some (.string ((rd_T61 l0_1 (ji26)).f1)) ∧ w'.cell? ⟨(ad136.add (((ji26)).toNat * 3)).block, (ad136.add (((ji26)).toNat * 3)).off + 2, none⟩ = some (.slice A143_2 ((rd_T61 l0_1 (ji26)).f2).length c143_2)) (ds := []) #[false, false, false, false, false, false, false, false, false, false, false, false, false, false, false, false, false, false, false, false, false, false, false, false, false, false, false, false, false, false, false, false, false, false, false, false, false, false] (by kernel_rfl) rfl rfl ⟨bc_ BK137 0, bc_ BK137 1, bc_ BK137 2, bc_ BK135 0, bc_ BK135 1, bc_ BK135 2, bc_ BK135 3, ((HB.out.cell (World.block_lt_of_cell? w _ hw143_0)).trans hw143_0), ((HB.out.cell (World.block_lt_of_cell? w _ hw143_1)).trans hw143_1), ((HB.out.cell (World.block_lt_of_cell? w _ hw143_2)).trans hw143_2)⟩ (fun hHeld => ?_); refine with_tabW thresherref11_Config.tab8 thresherref11_Config.bits8 (fun HT_ HW_ => ?_)
                generalize w56.drew = w57 at HO141 BK135 BK137 HB HR143_2 hx143_0 hx143_1 hx143_2 hHeld ⊢
                refine pu HT_ 0 67 (zb 38 1) ?_
                refine tk HT_ HW_ hHeld 1 68 (zb 38 3) (hv := by rintro w' ⟨s0, s1, s2, s3, s4, s5, s6, s7, s8, s9⟩; go_simp; with_reducible rfl) (h := ?_)
                refine one_ (i := 2) (N := some 69) (zb 38 7) rfl rfl (one_of HT_.out (by kernel_rfl)) (by decide) (fun K hK => ?_)
                refine goes_ Try.func47 (by kernel_rfl) rfl #[.int .i64 ((rd_T61 l0_1 x3_2).f0)] (by rfl) rfl rfl (by (try simp only [List.map_toArray, List.map_cons, List.map_nil]); first | done | rfl | (simp only [List.length_drop, List.length_take]; rfl)) ?_
                with_reducible refine (thresherref0_ID.calls ((rd_T61 l0_1 x3_2).f0) true _ A23.out).mono ?_
                rintro e w' ⟨rfl, ⟨nd, rfl⟩⟩
                refine ⟨_, rfl, ?_⟩
                refine hK.out _ _ ⟨bc_ BK137 0, bc_ BK137 1, bc_ BK137 2, bc_ BK135 0, bc_ BK135 1, bc_ BK135 2, bc_ BK135 3, ((HB.out.cell (World.block_lt_of_cell? w _ hw143_0)).trans hw143_0), ((HB.out.cell (World.block_lt_of_cell? w _ hw143_1)).trans hw143_1), ((HB.out.cell (World.block_lt_of_cell? w _ hw143_2)).trans hw143_2)⟩ (fun hHeld => ?_)
                clear hK K
                refine nm 69 ?_
                refine pu HT_ 3 70 (zb 38 15) ?_
                refine pu HT_ 4 71 (zb 38 31) ?_
                refine pu HT_ 5 72 (zb 38 63) ?_
                refine pu HT_ 6 73 (zb 38 127) ?_
                refine pu HT_ 7 74 (zb 38 255) ?_
                refine pu HT_ 8 75 (zb 38 511) ?_
                refine pu HT_ 10 77 (zb 38 1535) ?_
                refine pu HT_ 11 78 (zb 38 3583) ?_
                refine pu HT_ 15 82 (zb 38 36351) ?_
                refine tk HT_ HW_ hHeld 9 76 (zb 38 36863) (hv := by rintro w' ⟨s0, s1, s2, s3, s4, s5, s6, s7, s8, s9⟩; go_simp; with_reducible rfl) (h := ?_)
                refine pu HT_ 12 79 (zb 38 40959) ?_
                refine pu HT_ 13 80 (zb 38 49151) ?_
                refine tk HT_ HW_ hHeld 14 81 (zb 38 65535) (hv := by rintro w' ⟨s0, s1, s2, s3, s4, s5, s6, s7, s8, s9⟩; go_simp; with_reducible rfl) (h := ?_)
                refine tk HT_ HW_ hHeld 16 83 (zb 38 131071) (hv := by rintro w' ⟨s0, s1, s2, s3, s4, s5, s6, s7, s8, s9⟩; go_simp; with_reducible rfl) (h := ?_)
                refine pu HT_ 17 84 (zb 38 262143) ?_
                refine pu HT_ 18 85 (zb 38 524287) ?_
                refine pu HT_ 19 86 (zb 38 1048575) ?_
                refine pu HT_ 20 87 (zb 38 2097151) ?_
                refine pu HT_ 21 88 (zb 38 4194303) ?_
                refine pu HT_ 22 89 (zb 38 8388607) ?_
                refine pu HT_ 23 90 (zb 38 16777215) ?_
                refine pu HT_ 24 91 (zb 38 33554431) ?_
                refine pu HT_ 25 92 (zb 38 67108863) ?_
                refine tk HT_ HW_ hHeld 26 93 (zb 38 134217727) (hv := by rintro w' ⟨s0, s1, s2, s3, s4, s5, s6, s7, s8, s9⟩; go_simp; with_reducible rfl) (h := ?_)
                refine pu HT_ 27 94 (zb 38 268435455) ?_
                refine pu HT_ 28 95 (zb 38 536870911) ?_
                refine pu HT_ 29 96 (zb 38 1073741823) ?_
                refine pu HT_ 30 97 (zb 38 2147483647) ?_
                refine pu HT_ 31 98 (zb 38 4294967295) ?_
                refine pu HT_ 33 100 (zb 38 12884901887) ?_
                refine tk HT_ HW_ hHeld 32 99 (zb 38 17179869183) (hv := by rintro w' ⟨s0, s1, s2, s3, s4, s5, s6, s7, s8, s9⟩; go_simp; with_reducible rfl) (h := ?_)
                refine tk HT_ HW_ hHeld 34 101 (zb 38 34359738367) (hv := by rintro w' ⟨s0, s1, s2, s3, s4, s5, s6, s7, s8, s9⟩; go_simp; with_reducible rfl) (h := ?_)
                refine one_ (i := 35) (N := some 102) (zb 38 68719476735) rfl rfl (one_of HT_.out (by kernel_rfl)) (by decide) (fun K hK => ?_)
                refine goes_ Try.func48 (by kernel_rfl) rfl #[.slice A136_2 ((rd_T61 l0_1 x3_2).f2).length c136_2, .int .i64 1, .int .i64 a0_0] (by rfl) rfl rfl (by (try simp only [List.map_toArray, List.map_cons, List.map_nil]); first | done | rfl | (simp only [List.length_drop, List.length_take]; rfl)) ?_
                with_reducible refine (thresherref0_Rising.calls k2 _ _ ((rd_T61 l0_1 x3_2).f2) 1 a0_0 false _ ?side1 ?side2 A44.out).mono ?_
                (case side1 => repeat (first | exact (Kd.C_below HR136_2.out (be_ HB)) | (with_reducible refine Kd.C_alloc ?_ _) | (with_reducible refine Kd.C_drewN ?_ _) | (with_reducible refine Kd.C_drew ?_)))
                (case side2 => exact HC136_2.out)
                rintro e w' ⟨rfl, ⟨nd, rfl⟩⟩
                refine ⟨_, rfl, ?_⟩
                refine hK.out _ _ ⟨bc_ BK137 0, bc_ BK137 1, bc_ BK137 2, bc_ BK135 0, bc_ BK135 1, bc_ BK135 2, bc_ BK135 3, ((HB.out.cell (World.block_lt_of_cell? w _ hw143_0)).trans hw143_0), ((HB.out.cell (World.block_lt_of_cell? w _ hw143_1)).trans hw143_1), ((HB.out.cell (World.block_lt_of_cell? w _ hw143_2)).trans hw143_2)⟩ (fun hHeld => ?_)
                clear hK K
                refine nm 102 ?_
                refine pu HT_ 36 103 (zb 38 137438953471) ?_
                refine pu HT_ 37 104 (zb 38 274877906943) ?_
                refine done_ (done_of HT_.out (by kernel_rfl)) ?_
                try go_wp2
                go_ret
                exact ⟨by first | rfl | (simp [errW_none, errW_some] <;> rfl) | (simp only [← hji26]; first | rfl | (simp [errW_none, errW_some] <;> rfl)) | (simp [*, errW_none, errW_some] <;> rfl), be_ HB⟩
             ·
              rw [if_neg c36] at H
              have c36b0 : (t139 == 0) = false := beq_eq_false_iff_ne.mpr c36
              have c36b1 : (t139 != 0) = true := bne_iff_ne.mpr c36
              obtain rfl := Option.some.inj H
              have hcz58_0 : wr.cell? ⟨gb135, 0, none⟩ = some (.int .i64 a0_0) := bc_ BK135 0
              have hcz58_1 : wr.cell? ⟨gb135, 1, none⟩ = some (.slice A0_1 l0_1.length c0_1) := bc_ BK135 1
              have hcz58_2 : wr.cell? ⟨gb135, 2, none⟩ = some (.int .i64 a0_2) := bc_ BK135 2
              have hcz58_3 : wr.cell? ⟨gb135, 3, none⟩ = some (.int .i64 a0_3) := bc_ BK135 3
              have hfz58_0 := blk_frozen BK135.out 0
              have hfz58_1 := blk_frozen BK135.out 1
              have hfz58_2 := blk_frozen BK135.out 2
              have hfz58_3 := blk_frozen BK135.out 3
              have p136 : 0 ≤ (x3_2 : Int) := dc_
              have q136 : x3_2 < (l0_1.length : Int) := dc_
              obtain ⟨ad136, A136_2, c136_2, e136, hx136_0, hx136_1, hx136_2, hl136_2, hi136_2⟩ := at_T61 HR0_1.out x3_2 p136 q136
              cases e136
              replace hx136_0 := (HB.out.cell (World.block_lt_of_cell? w _ hx136_0)).trans hx136_0
              replace hx136_1 := (HB.out.cell (World.block_lt_of_cell? w _ hx136_1)).trans hx136_1
              replace hx136_2 := (HB.out.cell (World.block_lt_of_cell? w _ hx136_2)).trans hx136_2
              have HR136_2 := Aside0.mk hi136_2
              have HC136_2 := Aside0.mk hl136_2
              clear hi136_2 hl136_2
              replace p136 := eq_true p136
              replace q136 := eq_true q136
              try go_wp2_with (first | ((with_reducible refine gate_dst (N := 4) rfl ?_); (try (refine gate_guard (by rfl) ?_; dsimp only)); refine box_event ?hg (N := 4) ?hd (cs := #[.int .i64 0, .string (⟨#[]⟩ : ByteArray), .slice none 0 0]) (t := 61) ?hr ?_; (case hd => rfl); (case hg => rfl); (case hr => first | (go_simp; done) | (go_simp; rfl)); intro gb137 hg w59 hbox hb; have n0_ := Aside0.mk (blk_below (g := gb135) (o := .cells #[.int .i64 a0_0, .slice (some ad136) l0_1.length c0_1, .int .i64 a0_2, .int .i64 a0_3] 54 (0, 0)) (bk_ BK135) hb); have n1_ := Aside0.mk (below_step (be_ HB) hb); have n2_ := Aside0.mk (hbox); have n3_ := Aside0.mk ((by rw [hg]; exact (below_size (be_ HB)) : w.heap.size ≤ gb137)); have n4_ := Aside0.mk ((by rw [hg]; exact (below_size (be_ HB)) : w.heap.size ≤ gb137)); have n5_ := Aside0.mk ((by rw [hg]; exact Nat.ne_of_lt (blk_lt (g := gb135) (o := .cells #[.int .i64 a0_0, .slice (some ad136) l0_1.length c0_1, .int .i64 a0_2, .int .i64 a0_3] 54 (0, 0)) (bk_ BK135)) : gb135 ≠ gb137)); have n6_ := Aside0.mk ((by rw [hg]; exact Nat.ne_of_gt (blk_lt (g := gb135) (o := .cells #[.int .i64 a0_0, .slice (some ad136) l0_1.length c0_1, .int .i64 a0_2, .int .i64 a0_3] 54 (0, 0)) (bk_ BK135)) : gb137 ≠ gb135)); clear BK135; clear HB; have BK135 := n0_; have HB := n1_; have BK137 := n2_; have GW137 := n3_; have GE137 := n4_; have NB135_137 := n5_; have NB137_135 := n6_; clear n0_ n1_ n2_ n3_ n4_ n5_ n6_; clear hb hbox hg; have hnb60 := NB137_135.out; have hnc60 := NB135_137.out; have hcz61_0 : w59.cell? ⟨gb137, 0, none⟩ = some (.int .i64 0) := bc_ BK137 0; have hcz61_1 : w59.cell? ⟨gb137, 1, none⟩ = some (.string (⟨#[]⟩ : ByteArray)) := bc_ BK137 1; have hcz61_2 : w59.cell? ⟨gb137, 2, none⟩ = some (.slice none 0 0) := bc_ BK137 2; have hfz61_0 := blk_frozen BK137.out 0; have hfz61_1 := blk_frozen BK137.out 1; have hfz61_2 := blk_frozen BK137.out 2) | ((with_reducible refine gate_callee (f := 20) rfl ?_); refine goesL_ (some 64) rfl rfl Try.func20 (by kernel_rfl) rfl #[.string ((rd_T61 l0_1 x3_2).f1)] rfl (by (try simp only [List.map_toArray, List.map_cons, List.map_nil]); first | done | rfl | (simp only [List.length_drop, List.length_take]; rfl)) ?_; (with_reducible refine (thresherref3_All.calls k2 ((rd_T61 l0_1 x3_2).f1) t138 t139 _ A22.out).mono ?_); rintro e w62 ⟨v140, rfl, ho0, hb⟩; refine ⟨_, rfl, ?_⟩; have n0_ := Aside0.mk (Kd.R_lower ho0 (below_size (be_ HB))); have n1_ := Aside0.mk (blk_below (g := gb135) (o := .cells #[.int .i64 a0_0, .slice (some ad136) l0_1.length c0_1, .int .i64 a0_2, .int .i64 a0_3] 54 (0, 0)) (by (with_reducible repeat (first | refine blk_drewN ?_ _ | refine blk_drew ?_ | refine blk_alloc ?_ _)); refine blk_far ?_ NB135_137.out _; (with_reducible repeat (first | refine blk_drewN ?_ _ | refine blk_drew ?_ | refine blk_alloc ?_ _)); refine blk_far ?_ NB135_137.out _; (with_reducible repeat (first | refine blk_drewN ?_ _ | refine blk_drew ?_ | refine blk_alloc ?_ _)); refine blk_far ?_ NB135_137.out _; (with_reducible repeat (first | refine blk_drewN ?_ _ | refine blk_drew ?_ | refine blk_alloc ?_ _)); exact BK135.out) hb); have n2_ := Aside0.mk (blk_below (g := gb137) (o := .cells #[.int .i64 ((rd_T61 l0_1 x3_2).f0), .string ((rd_T61 l0_1 x3_2).f1), .slice A136_2 ((rd_T61 l0_1 x3_2).f2).length c136_2] 61 (0, 0)) (by (with_reducible repeat (first | refine blk_drewN ?_ _ | refine blk_drew ?_ | refine blk_alloc ?_ _)); refine blk_put (cs := #[.int .i64 ((rd_T61 l0_1 x3_2).f0), .string ((rd_T61 l0_1 x3_2).f1), .slice none 0 0]) ?_ 2 _ rfl; (with_reducible repeat (first | refine blk_drewN ?_ _ | refine blk_drew ?_ | refine blk_alloc ?_ _)); refine blk_put (cs := #[.int .i64 ((rd_T61 l0_1 x3_2).f0), .string (⟨#[]⟩ : ByteArray), .slice none 0 0]) ?_ 1 _ rfl; (with_reducible repeat (first | refine blk_drewN ?_ _ | refine blk_drew ?_ | refine blk_alloc ?_ _)); refine blk_put (cs := #[.int .i64 0, .string (⟨#[]⟩ : ByteArray), .slice none 0 0]) ?_ 0 _ rfl; (with_reducible repeat (first | refine blk_drewN ?_ _ | refine blk_drew ?_ | refine blk_alloc ?_ _)); exact BK137.out) hb); have n3_ := Aside0.mk (below_step (be_ HB) hb); clear BK135; clear BK137; clear HB; have HO141 := n0_; have BK135 := n1_; have BK137 := n2_; have HB := n3_; clear n0_ n1_ n2_ n3_; (try clear hb); (try clear hb2); (try clear hk); (try clear hi); (try clear ho0)))
              have n0_ := Aside0.mk (Kd.R_drew HO141.out)
              have n1_ := Aside0.mk (blk_drew BK135.out)
              have n2_ := Aside0.mk (blk_drew BK137.out)
              have n3_ := Aside0.mk (below_drew1 HB.out)
              clear HO141
              clear BK135
              clear BK137
              clear HB
              have HO141 := n0_
              have BK135 := n1_
              have BK137 := n2_
              have HB := n3_
              clear n0_ n1_ n2_ n3_
              have p143 : 0 ≤ ((ji26) : Int) := dc_
              have q143 : (ji26) < (l0_1.length : Int) := dc_
              obtain ⟨ad143, A143_2, c143_2, e143, hx143_0, hx143_1, hx143_2, hl143_2, hi143_2⟩ := at_T61 HR0_1.out (ji26) p143 q143
              have hw143_2 := hx143_2
              have hw143_1 := hx143_1
              have hw143_0 := hx143_0
              obtain rfl : ad136 = ad143 := (by injection e143)
              replace hx143_0 := (HB.out.cell (World.block_lt_of_cell? w _ hx143_0)).trans hx143_0
              replace hx143_1 := (HB.out.cell (World.block_lt_of_cell? w _ hx143_1)).trans hx143_1
              replace hx143_2 := (HB.out.cell (World.block_lt_of_cell? w _ hx143_2)).trans hx143_2
              have HR143_2 := Aside0.mk hi143_2
              have HC143_2 := Aside0.mk hl143_2
              clear hi143_2 hl143_2
              replace p143 := eq_true p143
              replace q143 := eq_true q143
              refine start_ (n := 38) (S := fun w' => w'.cell? ⟨gb137, 0, none⟩ = some (.int .i64 ((rd_T61 l0_1 x3_2).f0)) ∧ w'.cell? ⟨gb137, 1, none⟩ = some (.string ((rd_T61 l0_1 x3_2).f1)) ∧ w'.cell? ⟨gb137, 2, none⟩ = some (.slice A136_2 ((rd_T61 l0_1 x3_2).f2).length c136_2) ∧ w'.cell? ⟨gb135, 0, none⟩ = some (.int .i64 a0_0) ∧ w'.cell? ⟨gb135, 1, none⟩ = some (.slice (some ad136) l0_1.length c0_1) ∧ w'.cell? ⟨gb135, 2, none⟩ = some (.int .i64 a0_2) ∧ w'.cell? ⟨gb135, 3, none⟩ = some (.int .i64 a0_3) ∧ w'.cell? (ad136.add (((ji26)).toNat * 3)) = some (.int .i64 ((rd_T61 l0_1 (ji26)).f0)) ∧ w'.cell? ⟨(ad136.add (((ji26)).toNat * 3)).block, (ad136.add (((ji26)).toNat * 3)).off + 1, none⟩ = some (.string ((rd_T61 l0_1 (ji26)).f1)) ∧ w'.cell? ⟨(ad136.add (((ji26)).toNat * 3)).block, (ad136.add (((ji26)).toNat * 3)).off + 2, none⟩ = some (.slice A143_2 ((rd_T61 l0_1 (ji26)).f2).length c143_2)) (ds := []) #[false, false, false, false, false, false, false, false, false, false, false, false, false, false, false, false, false, false, false, false, false, false, false, false, false, false, false, false, false, false, false, false, false, false, false, false, false, false] (by kernel_rfl) rfl rfl ⟨bc_ BK137 0, bc_ BK137 1, bc_ BK137 2, bc_ BK135 0, bc_ BK135 1, bc_ BK135 2, bc_ BK135 3, ((HB.out.cell (World.block_lt_of_cell? w _ hw143_0)).trans hw143_0), ((HB.out.cell (World.block_lt_of_cell? w _ hw143_1)).trans hw143_1), ((HB.out.cell (World.block_lt_of_cell? w _ hw143_2)).trans hw143_2)⟩ (fun hHeld => ?_); refine with_tabW thresherref11_Config.tab8 thresherref11_Config.bits8 (fun HT_ HW_ => ?_)
              generalize w62.drew = w63 at HO141 BK135 BK137 HB HR143_2 hx143_0 hx143_1 hx143_2 hHeld ⊢
              refine pu HT_ 0 67 (zb 38 1) ?_
              refine tk HT_ HW_ hHeld 1 68 (zb 38 3) (hv := by rintro w' ⟨s0, s1, s2, s3, s4, s5, s6, s7, s8, s9⟩; go_simp; with_reducible rfl) (h := ?_)
              refine one_ (i := 2) (N := some 69) (zb 38 7) rfl rfl (one_of HT_.out (by kernel_rfl)) (by decide) (fun K hK => ?_)
              refine goes_ Try.func47 (by kernel_rfl) rfl #[.int .i64 ((rd_T61 l0_1 x3_2).f0)] (by rfl) rfl rfl (by (try simp only [List.map_toArray, List.map_cons, List.map_nil]); first | done | rfl | (simp only [List.length_drop, List.length_take]; rfl)) ?_
              with_reducible refine (thresherref0_ID.calls ((rd_T61 l0_1 x3_2).f0) true _ A23.out).mono ?_
              rintro e w' ⟨rfl, ⟨nd, rfl⟩⟩
              refine ⟨_, rfl, ?_⟩
              refine hK.out _ _ ⟨bc_ BK137 0, bc_ BK137 1, bc_ BK137 2, bc_ BK135 0, bc_ BK135 1, bc_ BK135 2, bc_ BK135 3, ((HB.out.cell (World.block_lt_of_cell? w _ hw143_0)).trans hw143_0), ((HB.out.cell (World.block_lt_of_cell? w _ hw143_1)).trans hw143_1), ((HB.out.cell (World.block_lt_of_cell? w _ hw143_2)).trans hw143_2)⟩ (fun hHeld => ?_)
              clear hK K
              refine nm 69 ?_
              refine pu HT_ 3 70 (zb 38 15) ?_
              refine pu HT_ 4 71 (zb 38 31) ?_
              refine pu HT_ 5 72 (zb 38 63) ?_
              refine pu HT_ 6 73 (zb 38 127) ?_
              refine pu HT_ 7 74 (zb 38 255) ?_
              refine pu HT_ 8 75 (zb 38 511) ?_
              refine pu HT_ 10 77 (zb 38 1535) ?_
              refine pu HT_ 11 78 (zb 38 3583) ?_
              refine pu HT_ 15 82 (zb 38 36351) ?_
              refine tk HT_ HW_ hHeld 9 76 (zb 38 36863) (hv := by rintro w' ⟨s0, s1, s2, s3, s4, s5, s6, s7, s8, s9⟩; go_simp; with_reducible rfl) (h := ?_)
              refine pu HT_ 12 79 (zb 38 40959) ?_
              refine pu HT_ 13 80 (zb 38 49151) ?_
              refine tk HT_ HW_ hHeld 14 81 (zb 38 65535) (hv := by rintro w' ⟨s0, s1, s2, s3, s4, s5, s6, s7, s8, s9⟩; go_simp; with_reducible rfl) (h := ?_)
              refine tk HT_ HW_ hHeld 16 83 (zb 38 131071) (hv := by rintro w' ⟨s0, s1, s2, s3, s4, s5, s6, s7, s8, s9⟩; go_simp; with_reducible rfl) (h := ?_)
              refine pu HT_ 17 84 (zb 38 262143) ?_
              refine pu HT_ 18 85 (zb 38 524287) ?_
              refine pu HT_ 19 86 (zb 38 1048575) ?_
              refine pu HT_ 20 87 (zb 38 2097151) ?_
              refine pu HT_ 21 88 (zb 38 4194303) ?_
              refine pu HT_ 22 89 (zb 38 8388607) ?_
              refine pu HT_ 23 90 (zb 38 16777215) ?_
              refine pu HT_ 24 91 (zb 38 33554431) ?_
              refine sk HT_ 25 92 (zb 38 67108863) ?_
              refine sk HT_ 26 93 (zb 38 134217727) ?_
              refine sk HT_ 27 94 (zb 38 268435455) ?_
              refine sk HT_ 28 95 (zb 38 536870911) ?_
              refine pu HT_ 29 96 (zb 38 1073741823) ?_
              refine pu HT_ 30 97 (zb 38 2147483647) ?_
              refine sk HT_ 31 98 (zb 38 4294967295) ?_
              refine sk HT_ 32 99 (zb 38 8589934591) ?_
              refine sk HT_ 33 100 (zb 38 17179869183) ?_
              refine sk HT_ 34 101 (zb 38 34359738367) ?_
              refine sk HT_ 35 102 (zb 38 68719476735) ?_
              refine sk HT_ 36 103 (zb 38 137438953471) ?_
              refine pu HT_ 37 104 (zb 38 274877906943) ?_
              refine done_ (done_of HT_.out (by kernel_rfl)) ?_
              try go_wp2
              go_ret
              exact ⟨by first | rfl | (simp [errW_none, errW_some] <;> rfl) | (simp only [← hji26]; first | rfl | (simp [errW_none, errW_some] <;> rfl)) | (simp [*, errW_none, errW_some] <;> rfl), be_ HB⟩
           ·
            rw [if_neg c28] at H
            exact absurd H (by simp)
          ·
           rw [if_neg c27] at H
           exact absurd H (by simp)
         ·
          rw [if_neg c25] at H
          have c25b0 : decide (0 < x3_2) = false := decide_eq_false c25
          clear c25
          by_cases c64 : t139 = 0
          ·
           rw [if_pos c64] at H
           have c64b0 : (t139 == 0) = true := beq_iff_eq.mpr c64
           have c64b1 : (t139 != 0) = false := bne_eq_false_iff_eq.mpr c64
           clear c64
           by_cases c65 : (((rd_T61 l0_1 x3_2).f2).length : Int) = 0
           ·
            rw [if_pos c65] at H
            have c65b0 : ((((rd_T61 l0_1 x3_2).f2).length : Int) == 0) = true := beq_iff_eq.mpr c65
            have c65b1 : ((((rd_T61 l0_1 x3_2).f2).length : Int) != 0) = false := bne_eq_false_iff_eq.mpr c65
            clear c65
            obtain rfl := Option.some.inj H
            have hcz66_0 : wr.cell? ⟨gb135, 0, none⟩ = some (.int .i64 a0_0) := bc_ BK135 0
            have hcz66_1 : wr.cell? ⟨gb135, 1, none⟩ = some (.slice A0_1 l0_1.length c0_1) := bc_ BK135 1
            have hcz66_2 : wr.cell? ⟨gb135, 2, none⟩ = some (.int .i64 a0_2) := bc_ BK135 2
            have hcz66_3 : wr.cell? ⟨gb135, 3, none⟩ = some (.int .i64 a0_3) := bc_ BK135 3
            have hfz66_0 := blk_frozen BK135.out 0
            have hfz66_1 := blk_frozen BK135.out 1
            have hfz66_2 := blk_frozen BK135.out 2
            have hfz66_3 := blk_frozen BK135.out 3
            have p136 : 0 ≤ (x3_2 : Int) := dc_
            have q136 : x3_2 < (l0_1.length : Int) := dc_
            obtain ⟨ad136, A136_2, c136_2, e136, hx136_0, hx136_1, hx136_2, hl136_2, hi136_2⟩ := at_T61 HR0_1.out x3_2 p136 q136
            cases e136
            replace hx136_0 := (HB.out.cell (World.block_lt_of_cell? w _ hx136_0)).trans hx136_0
            replace hx136_1 := (HB.out.cell (World.block_lt_of_cell? w _ hx136_1)).trans hx136_1
            replace hx136_2 := (HB.out.cell (World.block_lt_of_cell? w _ hx136_2)).trans hx136_2
            have HR136_2 := Aside0.mk hi136_2
            have HC136_2 := Aside0.mk hl136_2
            clear hi136_2 hl136_2
            replace p136 := eq_true p136
            replace q136 := eq_true q136
            try go_wp2_with (first | ((with_reducible refine gate_dst (N := 4) rfl ?_); (try (refine gate_guard (by rfl) ?_; dsimp only)); refine box_event ?hg (N := 4) ?hd (cs := #[.int .i64 0, .string (⟨#[]⟩ : ByteArray), .slice none 0 0]) (t := 61) ?hr ?_; (case hd => rfl); (case hg => rfl); (case hr => first | (go_simp; done) | (go_simp; rfl)); intro gb137 hg w67 hbox hb; have n0_ := Aside0.mk (blk_below (g := gb135) (o := .cells #[.int .i64 a0_0, .slice (some ad136) l0_1.length c0_1, .int .i64 a0_2, .int .i64 a0_3] 54 (0, 0)) (bk_ BK135) hb); have n1_ := Aside0.mk (below_step (be_ HB) hb); have n2_ := Aside0.mk (hbox); have n3_ := Aside0.mk ((by rw [hg]; exact (below_size (be_ HB)) : w.heap.size ≤ gb137)); have n4_ := Aside0.mk ((by rw [hg]; exact (below_size (be_ HB)) : w.heap.size ≤ gb137)); have n5_ := Aside0.mk ((by rw [hg]; exact Nat.ne_of_lt (blk_lt (g := gb135) (o := .cells #[.int .i64 a0_0, .slice (some ad136) l0_1.length c0_1, .int .i64 a0_2, .int .i64 a0_3] 54 (0, 0)) (bk_ BK135)) : gb135 ≠ gb137)); have n6_ := Aside0.mk ((by rw [hg]; exact Nat.ne_of_gt (blk_lt (g := gb135) (o := .cells #[.int .i64 a0_0, .slice (some ad136) l0_1.length c0_1, .int .i64 a0_2, .int .i64 a0_3] 54 (0, 0)) (bk_ BK135)) : gb137 ≠ gb135)); clear BK135; clear HB; have BK135 := n0_; have HB := n1_; have BK137 := n2_; have GW137 := n3_; have GE137 := n4_; have NB135_137 := n5_; have NB137_135 := n6_; clear n0_ n1_ n2_ n3_ n4_ n5_ n6_; clear hb hbox hg; have hnb68 := NB137_135.out; have hnc68 := NB135_137.out; have hcz69_0 : w67.cell? ⟨gb137, 0, none⟩ = some (.int .i64 0) := bc_ BK137 0; have hcz69_1 : w67.cell? ⟨gb137, 1, none⟩ = some (.string (⟨#[]⟩ : ByteArray)) := bc_ BK137 1; have hcz69_2 : w67.cell? ⟨gb137, 2, none⟩ = some (.slice none 0 0) := bc_ BK137 2; have hfz69_0 := blk_frozen BK137.out 0; have hfz69_1 := blk_frozen BK137.out 1; have hfz69_2 := blk_frozen BK137.out 2) | ((with_reducible refine gate_callee (f := 20) rfl ?_); refine goesL_ (some 64) rfl rfl Try.func20 (by kernel_rfl) rfl #[.string ((rd_T61 l0_1 x3_2).f1)] rfl (by (try simp only [List.map_toArray, List.map_cons, List.map_nil]); first | done | rfl | (simp only [List.length_drop, List.length_take]; rfl)) ?_; (with_reducible refine (thresherref3_All.calls k2 ((rd_T61 l0_1 x3_2).f1) t138 t139 _ A22.out).mono ?_); rintro e w70 ⟨v140, rfl, ho0, hb⟩; refine ⟨_, rfl, ?_⟩; have n0_ := Aside0.mk (Kd.R_lower ho0 (below_size (be_ HB))); have n1_ := Aside0.mk (blk_below (g := gb135) (o := .cells #[.int .i64 a0_0, .slice (some ad136) l0_1.length c0_1, .int .i64 a0_2, .int .i64 a0_3] 54 (0, 0)) (by (with_reducible repeat (first | refine blk_drewN ?_ _ | refine blk_drew ?_ | refine blk_alloc ?_ _)); refine blk_far ?_ NB135_137.out _; (with_reducible repeat (first | refine blk_drewN ?_ _ | refine blk_drew ?_ | refine blk_alloc ?_ _)); refine blk_far ?_ NB135_137.out _; (with_reducible repeat (first | refine blk_drewN ?_ _ | refine blk_drew ?_ | refine blk_alloc ?_ _)); refine blk_far ?_ NB135_137.out _; (with_reducible repeat (first | refine blk_drewN ?_ _ | refine blk_drew ?_ | refine blk_alloc ?_ _)); exact BK135.out) hb); have n2_ := Aside0.mk (blk_below (g := gb137) (o := .cells #[.int .i64 ((rd_T61 l0_1 x3_2).f0), .string ((rd_T61 l0_1 x3_2).f1), .slice A136_2 ((rd_T61 l0_1 x3_2).f2).length c136_2] 61 (0, 0)) (by (with_reducible repeat (first | refine blk_drewN ?_ _ | refine blk_drew ?_ | refine blk_alloc ?_ _)); refine blk_put (cs := #[.int .i64 ((rd_T61 l0_1 x3_2).f0), .string ((rd_T61 l0_1 x3_2).f1), .slice none 0 0]) ?_ 2 _ rfl; (with_reducible repeat (first | refine blk_drewN ?_ _ | refine blk_drew ?_ | refine blk_alloc ?_ _)); refine blk_put (cs := #[.int .i64 ((rd_T61 l0_1 x3_2).f0), .string (⟨#[]⟩ : ByteArray), .slice none 0 0]) ?_ 1 _ rfl; (with_reducible repeat (first | refine blk_drewN ?_ _ | refine blk_drew ?_ | refine blk_alloc ?_ _)); refine blk_put (cs := #[.int .i64 0, .string (⟨#[]⟩ : ByteArray), .slice none 0 0]) ?_ 0 _ rfl; (with_reducible repeat (first | refine blk_drewN ?_ _ | refine blk_drew ?_ | refine blk_alloc ?_ _)); exact BK137.out) hb); have n3_ := Aside0.mk (below_step (be_ HB) hb); clear BK135; clear BK137; clear HB; have HO141 := n0_; have BK135 := n1_; have BK137 := n2_; have HB := n3_; clear n0_ n1_ n2_ n3_; (try clear hb); (try clear hb2); (try clear hk); (try clear hi); (try clear ho0)))
            have n0_ := Aside0.mk (Kd.R_drew HO141.out)
            have n1_ := Aside0.mk (blk_drew BK135.out)
            have n2_ := Aside0.mk (blk_drew BK137.out)
            have n3_ := Aside0.mk (below_drew1 HB.out)
            clear HO141
            clear BK135
            clear BK137
            clear HB
            have HO141 := n0_
            have BK135 := n1_
            have BK137 := n2_
            have HB := n3_
            clear n0_ n1_ n2_ n3_
            refine start_ (n := 38) (S := fun w' => w'.cell? ⟨gb137, 0, none⟩ = some (.int .i64 ((rd_T61 l0_1 x3_2).f0)) ∧ w'.cell? ⟨gb137, 1, none⟩ = some (.string ((rd_T61 l0_1 x3_2).f1)) ∧ w'.cell? ⟨gb137, 2, none⟩ = some (.slice A136_2 ((rd_T61 l0_1 x3_2).f2).length c136_2)) (ds := []) #[false, false, false, false, false, false, false, false, false, false, false, false, false, false, false, false, false, false, false, false, false, false, false, false, false, false, false, false, false, false, false, false, false, false, false, false, false, false] (by kernel_rfl) rfl rfl ⟨bc_ BK137 0, bc_ BK137 1, bc_ BK137 2⟩ (fun hHeld => ?_); refine with_tabW thresherref11_Config.tab8 thresherref11_Config.bits8 (fun HT_ HW_ => ?_)
            generalize w70.drew = w71 at HO141 BK135 BK137 HB hHeld ⊢
            refine pu HT_ 0 67 (zb 38 1) ?_
            refine tk HT_ HW_ hHeld 1 68 (zb 38 3) (hv := by rintro w' ⟨s0, s1, s2⟩; go_simp; with_reducible rfl) (h := ?_)
            refine one_ (i := 2) (N := some 69) (zb 38 7) rfl rfl (one_of HT_.out (by kernel_rfl)) (by decide) (fun K hK => ?_)
            refine goes_ Try.func47 (by kernel_rfl) rfl #[.int .i64 ((rd_T61 l0_1 x3_2).f0)] (by rfl) rfl rfl (by (try simp only [List.map_toArray, List.map_cons, List.map_nil]); first | done | rfl | (simp only [List.length_drop, List.length_take]; rfl)) ?_
            with_reducible refine (thresherref0_ID.calls ((rd_T61 l0_1 x3_2).f0) true _ A23.out).mono ?_
            rintro e w' ⟨rfl, ⟨nd, rfl⟩⟩
            refine ⟨_, rfl, ?_⟩
            refine hK.out _ _ ⟨bc_ BK137 0, bc_ BK137 1, bc_ BK137 2⟩ (fun hHeld => ?_)
            clear hK K
            refine nm 69 ?_
            refine pu HT_ 3 70 (zb 38 15) ?_
            refine pu HT_ 4 71 (zb 38 31) ?_
            refine pu HT_ 5 72 (zb 38 63) ?_
            refine pu HT_ 6 73 (zb 38 127) ?_
            refine pu HT_ 7 74 (zb 38 255) ?_
            refine sk HT_ 8 75 (zb 38 511) ?_
            refine sk HT_ 9 76 (zb 38 1023) ?_
            refine sk HT_ 10 77 (zb 38 2047) ?_
            refine sk HT_ 11 78 (zb 38 4095) ?_
            refine sk HT_ 12 79 (zb 38 8191) ?_
            refine sk HT_ 13 80 (zb 38 16383) ?_
            refine sk HT_ 14 81 (zb 38 32767) ?_
            refine sk HT_ 15 82 (zb 38 65535) ?_
            refine sk HT_ 16 83 (zb 38 131071) ?_
            refine sk HT_ 17 84 (zb 38 262143) ?_
            refine pu HT_ 18 85 (zb 38 524287) ?_
            refine pu HT_ 19 86 (zb 38 1048575) ?_
            refine pu HT_ 20 87 (zb 38 2097151) ?_
            refine pu HT_ 21 88 (zb 38 4194303) ?_
            refine pu HT_ 22 89 (zb 38 8388607) ?_
            refine pu HT_ 23 90 (zb 38 16777215) ?_
            refine pu HT_ 24 91 (zb 38 33554431) ?_
            refine pu HT_ 25 92 (zb 38 67108863) ?_
            refine tk HT_ HW_ hHeld 26 93 (zb 38 134217727) (hv := by rintro w' ⟨s0, s1, s2⟩; go_simp; with_reducible rfl) (h := ?_)
            refine pu HT_ 27 94 (zb 38 268435455) ?_
            refine pu HT_ 28 95 (zb 38 536870911) ?_
            refine pu HT_ 29 96 (zb 38 1073741823) ?_
            refine pu HT_ 30 97 (zb 38 2147483647) ?_
            refine sk HT_ 31 98 (zb 38 4294967295) ?_
            refine sk HT_ 32 99 (zb 38 8589934591) ?_
            refine sk HT_ 33 100 (zb 38 17179869183) ?_
            refine sk HT_ 34 101 (zb 38 34359738367) ?_
            refine sk HT_ 35 102 (zb 38 68719476735) ?_
            refine sk HT_ 36 103 (zb 38 137438953471) ?_
            refine pu HT_ 37 104 (zb 38 274877906943) ?_
            refine done_ (done_of HT_.out (by kernel_rfl)) ?_
            try go_wp2
            go_ret
            exact ⟨re_, be_ HB⟩
           ·
            rw [if_neg c65] at H
            have c65b0 : ((((rd_T61 l0_1 x3_2).f2).length : Int) == 0) = false := beq_eq_false_iff_ne.mpr c65
            have c65b1 : ((((rd_T61 l0_1 x3_2).f2).length : Int) != 0) = true := bne_iff_ne.mpr c65
            have c65b2 : ¬ (((rd_T61 l0_1 x3_2).f2) = []) := fun h_ => c65 (by rw [h_]; rfl)
            replace H := Option.bind_eq_some_iff.mp H
            obtain ⟨t145, A720, H⟩ := H
            replace H : (if t145 = true then (thresherref11_Config.l0 k2 (wrap64 (x3_2 + 1)) a0_0 l0_1 a0_2 a0_3) else (some false)) = some r := H
            have A72 := Aside0.mk A720
            clear A720
            by_cases c73 : t145 = true
            ·
             subst c73
             have H1 : (thresherref11_Config.l0 k2 (wrap64 (x3_2 + 1)) a0_0 l0_1 a0_2 a0_3) = some r := by rw [if_pos rfl] at H; exact H
             clear H
             have H := H1
             clear H1
             have H' := Aside0.mk H
             clear H
             have hcz74_0 : wr.cell? ⟨gb135, 0, none⟩ = some (.int .i64 a0_0) := bc_ BK135 0
             have hcz74_1 : wr.cell? ⟨gb135, 1, none⟩ = some (.slice A0_1 l0_1.length c0_1) := bc_ BK135 1
             have hcz74_2 : wr.cell? ⟨gb135, 2, none⟩ = some (.int .i64 a0_2) := bc_ BK135 2
             have hcz74_3 : wr.cell? ⟨gb135, 3, none⟩ = some (.int .i64 a0_3) := bc_ BK135 3
             have hfz74_0 := blk_frozen BK135.out 0
             have hfz74_1 := blk_frozen BK135.out 1
             have hfz74_2 := blk_frozen BK135.out 2
             have hfz74_3 := blk_frozen BK135.out 3
             have p136 : 0 ≤ (x3_2 : Int) := dc_
             have q136 : x3_2 < (l0_1.length : Int) := dc_
             obtain ⟨ad136, A136_2, c136_2, e136, hx136_0, hx136_1, hx136_2, hl136_2, hi136_2⟩ := at_T61 HR0_1.out x3_2 p136 q136
             cases e136
             replace hx136_0 := (HB.out.cell (World.block_lt_of_cell? w _ hx136_0)).trans hx136_0
             replace hx136_1 := (HB.out.cell (World.block_lt_of_cell? w _ hx136_1)).trans hx136_1
             replace hx136_2 := (HB.out.cell (World.block_lt_of_cell? w _ hx136_2)).trans hx136_2
             have HR136_2 := Aside0.mk hi136_2
             have HC136_2 := Aside0.mk hl136_2
             clear hi136_2 hl136_2
             replace p136 := eq_true p136
             replace q136 := eq_true q136
             try go_wp2_with (first | ((with_reducible refine gate_dst (N := 4) rfl ?_); (try (refine gate_guard (by rfl) ?_; dsimp only)); refine box_event ?hg (N := 4) ?hd (cs := #[.int .i64 0, .string (⟨#[]⟩ : ByteArray), .slice none 0 0]) (t := 61) ?hr ?_; (case hd => rfl); (case hg => rfl); (case hr => first | (go_simp; done) | (go_simp; rfl)); intro gb137 hg w75 hbox hb; have n0_ := Aside0.mk (blk_below (g := gb135) (o := .cells #[.int .i64 a0_0, .slice (some ad136) l0_1.length c0_1, .int .i64 a0_2, .int .i64 a0_3] 54 (0, 0)) (bk_ BK135) hb); have n1_ := Aside0.mk (below_step (be_ HB) hb); have n2_ := Aside0.mk (hbox); have n3_ := Aside0.mk ((by rw [hg]; exact (below_size (be_ HB)) : w.heap.size ≤ gb137)); have n4_ := Aside0.mk ((by rw [hg]; exact (below_size (be_ HB)) : w.heap.size ≤ gb137)); have n5_ := Aside0.mk ((by rw [hg]; exact Nat.ne_of_lt (blk_lt (g := gb135) (o := .cells #[.int .i64 a0_0, .slice (some ad136) l0_1.length c0_1, .int .i64 a0_2, .int .i64 a0_3] 54 (0, 0)) (bk_ BK135)) : gb135 ≠ gb137)); have n6_ := Aside0.mk ((by rw [hg]; exact Nat.ne_of_gt (blk_lt (g := gb135) (o := .cells #[.int .i64 a0_0, .slice (some ad136) l0_1.length c0_1, .int .i64 a0_2, .int .i64 a0_3] 54 (0, 0)) (bk_ BK135)) : gb137 ≠ gb135)); clear BK135; clear HB; have BK135 := n0_; have HB := n1_; have BK137 := n2_; have GW137 := n3_; have GE137 := n4_; have NB135_137 := n5_; have NB137_135 := n6_; clear n0_ n1_ n2_ n3_ n4_ n5_ n6_; clear hb hbox hg; have hnb76 := NB137_135.out; have hnc76 := NB135_137.out; have hcz77_0 : w75.cell? ⟨gb137, 0, none⟩ = some (.int .i64 0) := bc_ BK137 0; have hcz77_1 : w75.cell? ⟨gb137, 1, none⟩ = some (.string (⟨#[]⟩ : ByteArray)) := bc_ BK137 1; have hcz77_2 : w75.cell? ⟨gb137, 2, none⟩ = some (.slice none 0 0) := bc_ BK137 2; have hfz77_0 := blk_frozen BK137.out 0; have hfz77_1 := blk_frozen BK137.out 1; have hfz77_2 := blk_frozen BK137.out 2) | ((with_reducible refine gate_callee (f := 20) rfl ?_); refine goesL_ (some 64) rfl rfl Try.func20 (by kernel_rfl) rfl #[.string ((rd_T61 l0_1 x3_2).f1)] rfl (by (try simp only [List.map_toArray, List.map_cons, List.map_nil]); first | done | rfl | (simp only [List.length_drop, List.length_take]; rfl)) ?_; (with_reducible refine (thresherref3_All.calls k2 ((rd_T61 l0_1 x3_2).f1) t138 t139 _ A22.out).mono ?_); rintro e w78 ⟨v140, rfl, ho0, hb⟩; refine ⟨_, rfl, ?_⟩; have n0_ := Aside0.mk (Kd.R_lower ho0 (below_size (be_ HB))); have n1_ := Aside0.mk (blk_below (g := gb135) (o := .cells #[.int .i64 a0_0, .slice (some ad136) l0_1.length c0_1, .int .i64 a0_2, .int .i64 a0_3] 54 (0, 0)) (by (with_reducible repeat (first | refine blk_drewN ?_ _ | refine blk_drew ?_ | refine blk_alloc ?_ _)); refine blk_far ?_ NB135_137.out _; (with_reducible repeat (first | refine blk_drewN ?_ _ | refine blk_drew ?_ | refine blk_alloc ?_ _)); refine blk_far ?_ NB135_137.out _; (with_reducible repeat (first | refine blk_drewN ?_ _ | refine blk_drew ?_ | refine blk_alloc ?_ _)); refine blk_far ?_ NB135_137.out _; (with_reducible repeat (first | refine blk_drewN ?_ _ | refine blk_drew ?_ | refine blk_alloc ?_ _)); exact BK135.out) hb); have n2_ := Aside0.mk (blk_below (g := gb137) (o := .cells #[.int .i64 ((rd_T61 l0_1 x3_2).f0), .string ((rd_T61 l0_1 x3_2).f1), .slice A136_2 ((rd_T61 l0_1 x3_2).f2).length c136_2] 61 (0, 0)) (by (with_reducible repeat (first | refine blk_drewN ?_ _ | refine blk_drew ?_ | refine blk_alloc ?_ _)); refine blk_put (cs := #[.int .i64 ((rd_T61 l0_1 x3_2).f0), .string ((rd_T61 l0_1 x3_2).f1), .slice none 0 0]) ?_ 2 _ rfl; (with_reducible repeat (first | refine blk_drewN ?_ _ | refine blk_drew ?_ | refine blk_alloc ?_ _)); refine blk_put (cs := #[.int .i64 ((rd_T61 l0_1 x3_2).f0), .string (⟨#[]⟩ : ByteArray), .slice none 0 0]) ?_ 1 _ rfl; (with_reducible repeat (first | refine blk_drewN ?_ _ | refine blk_drew ?_ | refine blk_alloc ?_ _)); refine blk_put (cs := #[.int .i64 0, .string (⟨#[]⟩ : ByteArray), .slice none 0 0]) ?_ 0 _ rfl; (with_reducible repeat (first | refine blk_drewN ?_ _ | refine blk_drew ?_ | refine blk_alloc ?_ _)); exact BK137.out) hb); have n3_ := Aside0.mk (below_step (be_ HB) hb); clear BK135; clear BK137; clear HB; have HO141 := n0_; have BK135 := n1_; have BK137 := n2_; have HB := n3_; clear n0_ n1_ n2_ n3_; (try clear hb); (try clear hb2); (try clear hk); (try clear hi); (try clear ho0)))
             have n0_ := Aside0.mk (Kd.R_drew HO141.out)
             have n1_ := Aside0.mk (blk_drew BK135.out)
             have n2_ := Aside0.mk (blk_drew BK137.out)
             have n3_ := Aside0.mk (below_drew1 HB.out)
             clear HO141
             clear BK135
             clear BK137
             clear HB
             have HO141 := n0_
             have BK135 := n1_
             have BK137 := n2_
             have HB := n3_
             clear n0_ n1_ n2_ n3_
             refine start_ (n := 38) (S := fun w' => w'.cell? ⟨gb137, 0, none⟩ = some (.int .i64 ((rd_T61 l0_1 x3_2).f0)) ∧ w'.cell? ⟨gb137, 1, none⟩ = some (.string ((rd_T61 l0_1 x3_2).f1)) ∧ w'.cell? ⟨gb137, 2, none⟩ = some (.slice A136_2 ((rd_T61 l0_1 x3_2).f2).length c136_2) ∧ w'.cell? ⟨gb135, 0, none⟩ = some (.int .i64 a0_0) ∧ w'.cell? ⟨gb135, 1, none⟩ = some (.slice (some ad136) l0_1.length c0_1) ∧ w'.cell? ⟨gb135, 2, none⟩ = some (.int .i64 a0_2) ∧ w'.cell? ⟨gb135, 3, none⟩ = some (.int .i64 a0_3)) (ds := []) #[false, false, false, false, false, false, false, false, false, false, false, false, false, false, false, false, false, false, false, false, false, false, false, false, false, false, false, false, false, false, false, false, false, false, false, false, false, false] (by kernel_rfl) rfl rfl ⟨bc_ BK137 0, bc_ BK137 1, bc_ BK137 2, bc_ BK135 0, bc_ BK135 1, bc_ BK135 2, bc_ BK135 3⟩ (fun hHeld => ?_); refine with_tabW thresherref11_Config.tab8 thresherref11_Config.bits8 (fun HT_ HW_ => ?_)
             generalize w78.drew = w79 at HO141 BK135 BK137 HB hHeld ⊢
             refine pu HT_ 0 67 (zb 38 1) ?_
             refine tk HT_ HW_ hHeld 1 68 (zb 38 3) (hv := by rintro w' ⟨s0, s1, s2, s3, s4, s5, s6⟩; go_simp; with_reducible rfl) (h := ?_)
             refine one_ (i := 2) (N := some 69) (zb 38 7) rfl rfl (one_of HT_.out (by kernel_rfl)) (by decide) (fun K hK => ?_)
             refine goes_ Try.func47 (by kernel_rfl) rfl #[.int .i64 ((rd_T61 l0_1 x3_2).f0)] (by rfl) rfl rfl (by (try simp only [List.map_toArray, List.map_cons, List.map_nil]); first | done | rfl | (simp only [List.length_drop, List.length_take]; rfl)) ?_
             with_reducible refine (thresherref0_ID.calls ((rd_T61 l0_1 x3_2).f0) true _ A23.out).mono ?_
             rintro e w' ⟨rfl, ⟨nd, rfl⟩⟩
             refine ⟨_, rfl, ?_⟩
             refine hK.out _ _ ⟨bc_ BK137 0, bc_ BK137 1, bc_ BK137 2, bc_ BK135 0, bc_ BK135 1, bc_ BK135 2, bc_ BK135 3⟩ (fun hHeld => ?_)
             clear hK K
             refine nm 69 ?_
             refine pu HT_ 3 70 (zb 38 15) ?_
             refine pu HT_ 4 71 (zb 38 31) ?_
             refine pu HT_ 5 72 (zb 38 63) ?_
             refine pu HT_ 6 73 (zb 38 127) ?_
             refine pu HT_ 7 74 (zb 38 255) ?_
             refine sk HT_ 8 75 (zb 38 511) ?_
             refine sk HT_ 9 76 (zb 38 1023) ?_
             refine sk HT_ 10 77 (zb 38 2047) ?_
             refine sk HT_ 11 78 (zb 38 4095) ?_
             refine sk HT_ 12 79 (zb 38 8191) ?_
             refine sk HT_ 13 80 (zb 38 16383) ?_
             refine sk HT_ 14 81 (zb 38 32767) ?_
             refine sk HT_ 15 82 (zb 38 65535) ?_
             refine sk HT_ 16 83 (zb 38 131071) ?_
             refine sk HT_ 17 84 (zb 38 262143) ?_
             refine pu HT_ 18 85 (zb 38 524287) ?_
             refine pu HT_ 19 86 (zb 38 1048575) ?_
             refine pu HT_ 20 87 (zb 38 2097151) ?_
             refine pu HT_ 21 88 (zb 38 4194303) ?_
             refine pu HT_ 22 89 (zb 38 8388607) ?_
             refine pu HT_ 23 90 (zb 38 16777215) ?_
             refine pu HT_ 24 91 (zb 38 33554431) ?_
             refine pu HT_ 25 92 (zb 38 67108863) ?_
             refine tk HT_ HW_ hHeld 26 93 (zb 38 134217727) (hv := by rintro w' ⟨s0, s1, s2, s3, s4, s5, s6⟩; go_simp; with_reducible rfl) (h := ?_)
             refine pu HT_ 27 94 (zb 38 268435455) ?_
             refine pu HT_ 28 95 (zb 38 536870911) ?_
             refine pu HT_ 29 96 (zb 38 1073741823) ?_
             refine pu HT_ 30 97 (zb 38 2147483647) ?_
             refine pu HT_ 31 98 (zb 38 4294967295) ?_
             refine pu HT_ 33 100 (zb 38 12884901887) ?_
             refine tk HT_ HW_ hHeld 32 99 (zb 38 17179869183) (hv := by rintro w' ⟨s0, s1, s2, s3, s4, s5, s6⟩; go_simp; with_reducible rfl) (h := ?_)
             refine tk HT_ HW_ hHeld 34 101 (zb 38 34359738367) (hv := by rintro w' ⟨s0, s1, s2, s3, s4, s5, s6⟩; go_simp; with_reducible rfl) (h := ?_)
             refine one_ (i := 35) (N := some 102) (zb 38 68719476735) rfl rfl (one_of HT_.out (by kernel_rfl)) (by decide) (fun K hK => ?_)
             refine goes_ Try.func48 (by kernel_rfl) rfl #[.slice A136_2 ((rd_T61 l0_1 x3_2).f2).length c136_2, .int .i64 1, .int .i64 a0_0] (by rfl) rfl rfl (by (try simp only [List.map_toArray, List.map_cons, List.map_nil]); first | done | rfl | (simp only [List.length_drop, List.length_take]; rfl)) ?_
             with_reducible refine (thresherref0_Rising.calls k2 _ _ ((rd_T61 l0_1 x3_2).f2) 1 a0_0 true _ ?side1 ?side2 A72.out).mono ?_
             (case side1 => repeat (first | exact (Kd.C_below HR136_2.out (be_ HB)) | (with_reducible refine Kd.C_alloc ?_ _) | (with_reducible refine Kd.C_drewN ?_ _) | (with_reducible refine Kd.C_drew ?_)))
             (case side2 => exact HC136_2.out)
             rintro e w' ⟨rfl, ⟨nd, rfl⟩⟩
             refine ⟨_, rfl, ?_⟩
             refine hK.out _ _ ⟨bc_ BK137 0, bc_ BK137 1, bc_ BK137 2, bc_ BK135 0, bc_ BK135 1, bc_ BK135 2, bc_ BK135 3⟩ (fun hHeld => ?_)
             clear hK K
             refine nm 102 ?_
             refine pu HT_ 36 103 (zb 38 137438953471) ?_
             refine pu HT_ 37 104 (zb 38 274877906943) ?_
             refine done_ (done_of HT_.out (by kernel_rfl)) ?_
             try go_wp2
             go_roundg k2
             case measure => have := HJ1.out; have := HK2.out; omega
             case rel => exact ⟨(wrap64 (x3_2 + 1)), eq_, H', ⟨by have := HJ1.out; have := HK2.out; omega⟩, ⟨bk_ BK135⟩, ⟨be_ HB⟩⟩
            ·
             replace c73 := Bool.eq_false_iff.mpr c73
             subst c73
             have H1 : (some false) = some r := by rw [if_neg (show ¬ (false = true) by decide)] at H; exact H
             clear H
             have H := H1
             clear H1
             obtain rfl := Option.some.inj H
             have hcz80_0 : wr.cell? ⟨gb135, 0, none⟩ = some (.int .i64 a0_0) := bc_ BK135 0
             have hcz80_1 : wr.cell? ⟨gb135, 1, none⟩ = some (.slice A0_1 l0_1.length c0_1) := bc_ BK135 1
             have hcz80_2 : wr.cell? ⟨gb135, 2, none⟩ = some (.int .i64 a0_2) := bc_ BK135 2
             have hcz80_3 : wr.cell? ⟨gb135, 3, none⟩ = some (.int .i64 a0_3) := bc_ BK135 3
             have hfz80_0 := blk_frozen BK135.out 0
             have hfz80_1 := blk_frozen BK135.out 1
             have hfz80_2 := blk_frozen BK135.out 2
             have hfz80_3 := blk_frozen BK135.out 3
             have p136 : 0 ≤ (x3_2 : Int) := dc_
             have q136 : x3_2 < (l0_1.length : Int) := dc_
             obtain ⟨ad136, A136_2, c136_2, e136, hx136_0, hx136_1, hx136_2, hl136_2, hi136_2⟩ := at_T61 HR0_1.out x3_2 p136 q136
             cases e136
             replace hx136_0 := (HB.out.cell (World.block_lt_of_cell? w _ hx136_0)).trans hx136_0
             replace hx136_1 := (HB.out.cell (World.block_lt_of_cell? w _ hx136_1)).trans hx136_1
             replace hx136_2 := (HB.out.cell (World.block_lt_of_cell? w _ hx136_2)).trans hx136_2
             have HR136_2 := Aside0.mk hi136_2
             have HC136_2 := Aside0.mk hl136_2
             clear hi136_2 hl136_2
             replace p136 := eq_true p136
             replace q136 := eq_true q136
             try go_wp2_with (first | ((with_reducible refine gate_dst (N := 4) rfl ?_); (try (refine gate_guard (by rfl) ?_; dsimp only)); refine box_event ?hg (N := 4) ?hd (cs := #[.int .i64 0, .string (⟨#[]⟩ : ByteArray), .slice none 0 0]) (t := 61) ?hr ?_; (case hd => rfl); (case hg => rfl); (case hr => first | (go_simp; done) | (go_simp; rfl)); intro gb137 hg w81 hbox hb; have n0_ := Aside0.mk (blk_below (g := gb135) (o := .cells #[.int .i64 a0_0, .slice (some ad136) l0_1.length c0_1, .int .i64 a0_2, .int .i64 a0_3] 54 (0, 0)) (bk_ BK135) hb); have n1_ := Aside0.mk (below_step (be_ HB) hb); have n2_ := Aside0.mk (hbox); have n3_ := Aside0.mk ((by rw [hg]; exact (below_size (be_ HB)) : w.heap.size ≤ gb137)); have n4_ := Aside0.mk ((by rw [hg]; exact (below_size (be_ HB)) : w.heap.size ≤ gb137)); have n5_ := Aside0.mk ((by rw [hg]; exact Nat.ne_of_lt (blk_lt (g := gb135) (o := .cells #[.int .i64 a0_0, .slice (some ad136) l0_1.length c0_1, .int .i64 a0_2, .int .i64 a0_3] 54 (0, 0)) (bk_ BK135)) : gb135 ≠ gb137)); have n6_ := Aside0.mk ((by rw [hg]; exact Nat.ne_of_gt (blk_lt (g := gb135) (o := .cells #[.int .i64 a0_0, .slice (some ad136) l0_1.length c0_1, .int .i64 a0_2, .int .i64 a0_3] 54 (0, 0)) (bk_ BK135)) : gb137 ≠ gb135)); clear BK135; clear HB; have BK135 := n0_; have HB := n1_; have BK137 := n2_; have GW137 := n3_; have GE137 := n4_; have NB135_137 := n5_; have NB137_135 := n6_; clear n0_ n1_ n2_ n3_ n4_ n5_ n6_; clear hb hbox hg; have hnb82 := NB137_135.out; have hnc82 := NB135_137.out; have hcz83_0 : w81.cell? ⟨gb137, 0, none⟩ = some (.int .i64 0) := bc_ BK137 0; have hcz83_1 : w81.cell? ⟨gb137, 1, none⟩ = some (.string (⟨#[]⟩ : ByteArray)) := bc_ BK137 1; have hcz83_2 : w81.cell? ⟨gb137, 2, none⟩ = some (.slice none 0 0) := bc_ BK137 2; have hfz83_0 := blk_frozen BK137.out 0; have hfz83_1 := blk_frozen BK137.out 1; have hfz83_2 := blk_frozen BK137.out 2) | ((with_reducible refine gate_callee (f := 20) rfl ?_); refine goesL_ (some 64) rfl rfl Try.func20 (by kernel_rfl) rfl #[.string ((rd_T61 l0_1 x3_2).f1)] rfl (by (try simp only [List.map_toArray, List.map_cons, List.map_nil]); first | done | rfl | (simp only [List.length_drop, List.length_take]; rfl)) ?_; (with_reducible refine (thresherref3_All.calls k2 ((rd_T61 l0_1 x3_2).f1) t138 t139 _ A22.out).mono ?_); rintro e w84 ⟨v140, rfl, ho0, hb⟩; refine ⟨_, rfl, ?_⟩; have n0_ := Aside0.mk (Kd.R_lower ho0 (below_size (be_ HB))); have n1_ := Aside0.mk (blk_below (g := gb135) (o := .cells #[.int .i64 a0_0, .slice (some ad136) l0_1.length c0_1, .int .i64 a0_2, .int .i64 a0_3] 54 (0, 0)) (by (with_reducible repeat (first | refine blk_drewN ?_ _ | refine blk_drew ?_ | refine blk_alloc ?_ _)); refine blk_far ?_ NB135_137.out _; (with_reducible repeat (first | refine blk_drewN ?_ _ | refine blk_drew ?_ | refine blk_alloc ?_ _)); refine blk_far ?_ NB135_137.out _; (with_reducible repeat (first | refine blk_drewN ?_ _ | refine blk_drew ?_ | refine blk_alloc ?_ _)); refine blk_far ?_ NB135_137.out _; (with_reducible repeat (first | refine blk_drewN ?_ _ | refine blk_drew ?_ | refine blk_alloc ?_ _)); exact BK135.out) hb); have n2_ := Aside0.mk (blk_below (g := gb137) (o := .cells #[.int .i64 ((rd_T61 l0_1 x3_2).f0), .string ((rd_T61 l0_1 x3_2).f1), .slice A136_2 ((rd_T61 l0_1 x3_2).f2).length c136_2] 61 (0, 0)) (by (with_reducible repeat (first | refine blk_drewN ?_ _ | refine blk_drew ?_ | refine blk_alloc ?_ _)); refine blk_put (cs := #[.int .i64 ((rd_T61 l0_1 x3_2).f0), .string ((rd_T61 l0_1 x3_2).f1), .slice none 0 0]) ?_ 2 _ rfl; (with_reducible repeat (first | refine blk_drewN ?_ _ | refine blk_drew ?_ | refine blk_alloc ?_ _)); refine blk_put (cs := #[.int .i64 ((rd_T61 l0_1 x3_2).f0), .string (⟨#[]⟩ : ByteArray), .slice none 0 0]) ?_ 1 _ rfl; (with_reducible repeat (first | refine blk_drewN ?_ _ | refine blk_drew ?_ | refine blk_alloc ?_ _)); refine blk_put (cs := #[.int .i64 0, .string (⟨#[]⟩ : ByteArray), .slice none 0 0]) ?_ 0 _ rfl; (with_reducible repeat (first | refine blk_drewN ?_ _ | refine blk_drew ?_ | refine blk_alloc ?_ _)); exact BK137.out) hb); have n3_ := Aside0.mk (below_step (be_ HB) hb); clear BK135; clear BK137; clear HB; have HO141 := n0_; have BK135 := n1_; have BK137 := n2_; have HB := n3_; clear n0_ n1_ n2_ n3_; (try clear hb); (try clear hb2); (try clear hk); (try clear hi); (try clear ho0)))
             have n0_ := Aside0.mk (Kd.R_drew HO141.out)
             have n1_ := Aside0.mk (blk_drew BK135.out)
             have n2_ := Aside0.mk (blk_drew BK137.out)
             have n3_ := Aside0.mk (below_drew1 HB.out)
             clear HO141
             clear BK135
             clear BK137
             clear HB
             have HO141 := n0_
             have BK135 := n1_
             have BK137 := n2_
             have HB := n3_
             clear n0_ n1_ n2_ n3_
             refine start_ (n := 38) (S := fun w' => w'.cell? ⟨gb137, 0, none⟩ = some (.int .i64 ((rd_T61 l0_1 x3_2).f0)) ∧ w'.cell? ⟨gb137, 1, none⟩ = some (.string ((rd_T61 l0_1 x3_2).f1)) ∧ w'.cell? ⟨gb137, 2, none⟩ = some (.slice A136_2 ((rd_T61 l0_1 x3_2).f2).length c136_2) ∧ w'.cell? ⟨gb135, 0, none⟩ = some (.int .i64 a0_0) ∧ w'.cell? ⟨gb135, 1, none⟩ = some (.slice (some ad136) l0_1.length c0_1) ∧ w'.cell? ⟨gb135, 2, none⟩ = some (.int .i64 a0_2) ∧ w'.cell? ⟨gb135, 3, none⟩ = some (.int .i64 a0_3)) (ds := []) #[false, false, false, false, false, false, false, false, false, false, false, false, false, false, false, false, false, false, false, false, false, false, false, false, false, false, false, false, false, false, false, false, false, false, false, false, false, false] (by kernel_rfl) rfl rfl ⟨bc_ BK137 0, bc_ BK137 1, bc_ BK137 2, bc_ BK135 0, bc_ BK135 1, bc_ BK135 2, bc_ BK135 3⟩ (fun hHeld => ?_); refine with_tabW thresherref11_Config.tab8 thresherref11_Config.bits8 (fun HT_ HW_ => ?_)
             generalize w84.drew = w85 at HO141 BK135 BK137 HB hHeld ⊢
             refine pu HT_ 0 67 (zb 38 1) ?_
             refine tk HT_ HW_ hHeld 1 68 (zb 38 3) (hv := by rintro w' ⟨s0, s1, s2, s3, s4, s5, s6⟩; go_simp; with_reducible rfl) (h := ?_)
             refine one_ (i := 2) (N := some 69) (zb 38 7) rfl rfl (one_of HT_.out (by kernel_rfl)) (by decide) (fun K hK => ?_)
             refine goes_ Try.func47 (by kernel_rfl) rfl #[.int .i64 ((rd_T61 l0_1 x3_2).f0)] (by rfl) rfl rfl (by (try simp only [List.map_toArray, List.map_cons, List.map_nil]); first | done | rfl | (simp only [List.length_drop, List.length_take]; rfl)) ?_
             with_reducible refine (thresherref0_ID.calls ((rd_T61 l0_1 x3_2).f0) true _ A23.out).mono ?_
             rintro e w' ⟨rfl, ⟨nd, rfl⟩⟩
             refine ⟨_, rfl, ?_⟩
             refine hK.out _ _ ⟨bc_ BK137 0, bc_ BK137 1, bc_ BK137 2, bc_ BK135 0, bc_ BK135 1, bc_ BK135 2, bc_ BK135 3⟩ (fun hHeld => ?_)
             clear hK K
             refine nm 69 ?_
             refine pu HT_ 3 70 (zb 38 15) ?_
             refine pu HT_ 4 71 (zb 38 31) ?_
             refine pu HT_ 5 72 (zb 38 63) ?_
             refine pu HT_ 6 73 (zb 38 127) ?_
             refine pu HT_ 7 74 (zb 38 255) ?_
             refine sk HT_ 8 75 (zb 38 511) ?_
             refine sk HT_ 9 76 (zb 38 1023) ?_
             refine sk HT_ 10 77 (zb 38 2047) ?_
             refine sk HT_ 11 78 (zb 38 4095) ?_
             refine sk HT_ 12 79 (zb 38 8191) ?_
             refine sk HT_ 13 80 (zb 38 16383) ?_
             refine sk HT_ 14 81 (zb 38 32767) ?_
             refine sk HT_ 15 82 (zb 38 65535) ?_
             refine sk HT_ 16 83 (zb 38 131071) ?_
             refine sk HT_ 17 84 (zb 38 262143) ?_
             refine pu HT_ 18 85 (zb 38 524287) ?_
             refine pu HT_ 19 86 (zb 38 1048575) ?_
             refine pu HT_ 20 87 (zb 38 2097151) ?_
             refine pu HT_ 21 88 (zb 38 4194303) ?_
             refine pu HT_ 22 89 (zb 38 8388607) ?_
             refine pu HT_ 23 90 (zb 38 16777215) ?_
             refine pu HT_ 24 91 (zb 38 33554431) ?_
             refine pu HT_ 25 92 (zb 38 67108863) ?_
             refine tk HT_ HW_ hHeld 26 93 (zb 38 134217727) (hv := by rintro w' ⟨s0, s1, s2, s3, s4, s5, s6⟩; go_simp; with_reducible rfl) (h := ?_)
             refine pu HT_ 27 94 (zb 38 268435455) ?_
             refine pu HT_ 28 95 (zb 38 536870911) ?_
             refine pu HT_ 29 96 (zb 38 1073741823) ?_
             refine pu HT_ 30 97 (zb 38 2147483647) ?_
             refine pu HT_ 31 98 (zb 38 4294967295) ?_
             refine pu HT_ 33 100 (zb 38 12884901887) ?_
             refine tk HT_ HW_ hHeld 32 99 (zb 38 17179869183) (hv := by rintro w' ⟨s0, s1, s2, s3, s4, s5, s6⟩; go_simp; with_reducible rfl) (h := ?_)
             refine tk HT_ HW_ hHeld 34 101 (zb 38 34359738367) (hv := by rintro w' ⟨s0, s1, s2, s3, s4, s5, s6⟩; go_simp; with_reducible rfl) (h := ?_)
             refine one_ (i := 35) (N := some 102) (zb 38 68719476735) rfl rfl (one_of HT_.out (by kernel_rfl)) (by decide) (fun K hK => ?_)
             refine goes_ Try.func48 (by kernel_rfl) rfl #[.slice A136_2 ((rd_T61 l0_1 x3_2).f2).length c136_2, .int .i64 1, .int .i64 a0_0] (by rfl) rfl rfl (by (try simp only [List.map_toArray, List.map_cons, List.map_nil]); first | done | rfl | (simp only [List.length_drop, List.length_take]; rfl)) ?_
             with_reducible refine (thresherref0_Rising.calls k2 _ _ ((rd_T61 l0_1 x3_2).f2) 1 a0_0 false _ ?side1 ?side2 A72.out).mono ?_
             (case side1 => repeat (first | exact (Kd.C_below HR136_2.out (be_ HB)) | (with_reducible refine Kd.C_alloc ?_ _) | (with_reducible refine Kd.C_drewN ?_ _) | (with_reducible refine Kd.C_drew ?_)))
             (case side2 => exact HC136_2.out)
             rintro e w' ⟨rfl, ⟨nd, rfl⟩⟩
             refine ⟨_, rfl, ?_⟩
             refine hK.out _ _ ⟨bc_ BK137 0, bc_ BK137 1, bc_ BK137 2, bc_ BK135 0, bc_ BK135 1, bc_ BK135 2, bc_ BK135 3⟩ (fun hHeld => ?_)
             clear hK K
             refine nm 102 ?_
             refine pu HT_ 36 103 (zb 38 137438953471) ?_
             refine pu HT_ 37 104 (zb 38 274877906943) ?_
             refine done_ (done_of HT_.out (by kernel_rfl)) ?_
             try go_wp2
             go_ret
             exact ⟨re_, be_ HB⟩
          ·
           rw [if_neg c64] at H
           have c64b0 : (t139 == 0) = false := beq_eq_false_iff_ne.mpr c64
           have c64b1 : (t139 != 0) = true := bne_iff_ne.mpr c64
           obtain rfl := Option.some.inj H
           have hcz86_0 : wr.cell? ⟨gb135, 0, none⟩ = some (.int .i64 a0_0) := bc_ BK135 0
           have hcz86_1 : wr.cell? ⟨gb135, 1, none⟩ = some (.slice A0_1 l0_1.length c0_1) := bc_ BK135 1
           have hcz86_2 : wr.cell? ⟨gb135, 2, none⟩ = some (.int .i64 a0_2) := bc_ BK135 2
           have hcz86_3 : wr.cell? ⟨gb135, 3, none⟩ = some (.int .i64 a0_3) := bc_ BK135 3
           have hfz86_0 := blk_frozen BK135.out 0
           have hfz86_1 := blk_frozen BK135.out 1
           have hfz86_2 := blk_frozen BK135.out 2
           have hfz86_3 := blk_frozen BK135.out 3
           have p136 : 0 ≤ (x3_2 : Int) := dc_
           have q136 : x3_2 < (l0_1.length : Int) := dc_
           obtain ⟨ad136, A136_2, c136_2, e136, hx136_0, hx136_1, hx136_2, hl136_2, hi136_2⟩ := at_T61 HR0_1.out x3_2 p136 q136
           cases e136
           replace hx136_0 := (HB.out.cell (World.block_lt_of_cell? w _ hx136_0)).trans hx136_0
           replace hx136_1 := (HB.out.cell (World.block_lt_of_cell? w _ hx136_1)).trans hx136_1
           replace hx136_2 := (HB.out.cell (World.block_lt_of_cell? w _ hx136_2)).trans hx136_2
           have HR136_2 := Aside0.mk hi136_2
           have HC136_2 := Aside0.mk hl136_2
           clear hi136_2 hl136_2
           replace p136 := eq_true p136
           replace q136 := eq_true q136
           try go_wp2_with (first | ((with_reducible refine gate_dst (N := 4) rfl ?_); (try (refine gate_guard (by rfl) ?_; dsimp only)); refine box_event ?hg (N := 4) ?hd (cs := #[.int .i64 0, .string (⟨#[]⟩ : ByteArray), .slice none 0 0]) (t := 61) ?hr ?_; (case hd => rfl); (case hg => rfl); (case hr => first | (go_simp; done) | (go_simp; rfl)); intro gb137 hg w87 hbox hb; have n0_ := Aside0.mk (blk_below (g := gb135) (o := .cells #[.int .i64 a0_0, .slice (some ad136) l0_1.length c0_1, .int .i64 a0_2, .int .i64 a0_3] 54 (0, 0)) (bk_ BK135) hb); have n1_ := Aside0.mk (below_step (be_ HB) hb); have n2_ := Aside0.mk (hbox); have n3_ := Aside0.mk ((by rw [hg]; exact (below_size (be_ HB)) : w.heap.size ≤ gb137)); have n4_ := Aside0.mk ((by rw [hg]; exact (below_size (be_ HB)) : w.heap.size ≤ gb137)); have n5_ := Aside0.mk ((by rw [hg]; exact Nat.ne_of_lt (blk_lt (g := gb135) (o := .cells #[.int .i64 a0_0, .slice (some ad136) l0_1.length c0_1, .int .i64 a0_2, .int .i64 a0_3] 54 (0, 0)) (bk_ BK135)) : gb135 ≠ gb137)); have n6_ := Aside0.mk ((by rw [hg]; exact Nat.ne_of_gt (blk_lt (g := gb135) (o := .cells #[.int .i64 a0_0, .slice (some ad136) l0_1.length c0_1, .int .i64 a0_2, .int .i64 a0_3] 54 (0, 0)) (bk_ BK135)) : gb137 ≠ gb135)); clear BK135; clear HB; have BK135 := n0_; have HB := n1_; have BK137 := n2_; have GW137 := n3_; have GE137 := n4_; have NB135_137 := n5_; have NB137_135 := n6_; clear n0_ n1_ n2_ n3_ n4_ n5_ n6_; clear hb hbox hg; have hnb88 := NB137_135.out; have hnc88 := NB135_137.out; have hcz89_0 : w87.cell? ⟨gb137, 0, none⟩ = some (.int .i64 0) := bc_ BK137 0; have hcz89_1 : w87.cell? ⟨gb137, 1, none⟩ = some (.string (⟨#[]⟩ : ByteArray)) := bc_ BK137 1; have hcz89_2 : w87.cell? ⟨gb137, 2, none⟩ = some (.slice none 0 0) := bc_ BK137 2; have hfz89_0 := blk_frozen BK137.out 0; have hfz89_1 := blk_frozen BK137.out 1; have hfz89_2 := blk_frozen BK137.out 2) | ((with_reducible refine gate_callee (f := 20) rfl ?_); refine goesL_ (some 64) rfl rfl Try.func20 (by kernel_rfl) rfl #[.string ((rd_T61 l0_1 x3_2).f1)] rfl (by (try simp only [List.map_toArray, List.map_cons, List.map_nil]); first | done | rfl | (simp only [List.length_drop, List.length_take]; rfl)) ?_; (with_reducible refine (thresherref3_All.calls k2 ((rd_T61 l0_1 x3_2).f1) t138 t139 _ A22.out).mono ?_); rintro e w90 ⟨v140, rfl, ho0, hb⟩; refine ⟨_, rfl, ?_⟩; have n0_ := Aside0.mk (Kd.R_lower ho0 (below_size (be_ HB))); have n1_ := Aside0.mk (blk_below (g := gb135) (o := .cells #[.int .i64 a0_0, .slice (some ad136) l0_1.length c0_1, .int .i64 a0_2, .int .i64 a0_3] 54 (0, 0)) (by (with_reducible repeat (first | refine blk_drewN ?_ _ | refine blk_drew ?_ | refine blk_alloc ?_ _)); refine blk_far ?_ NB135_137.out _; (with_reducible repeat (first | refine blk_drewN ?_ _ | refine blk_drew ?_ | refine blk_alloc ?_ _)); refine blk_far ?_ NB135_137.out _; (with_reducible repeat (first | refine blk_drewN ?_ _ | refine blk_drew ?_ | refine blk_alloc ?_ _)); refine blk_far ?_ NB135_137.out _; (with_reducible repeat (first | refine blk_drewN ?_ _ | refine blk_drew ?_ | refine blk_alloc ?_ _)); exact BK135.out) hb); have n2_ := Aside0.mk (blk_below (g := gb137) (o := .cells #[.int .i64 ((rd_T61 l0_1 x3_2).f0), .string ((rd_T61 l0_1 x3_2).f1), .slice A136_2 ((rd_T61 l0_1 x3_2).f2).length c136_2] 61 (0, 0)) (by (with_reducible repeat (first | refine blk_drewN ?_ _ | refine blk_drew ?_ | refine blk_alloc ?_ _)); refine blk_put (cs := #[.int .i64 ((rd_T61 l0_1 x3_2).f0), .string ((rd_T61 l0_1 x3_2).f1), .slice none 0 0]) ?_ 2 _ rfl; (with_reducible repeat (first | refine blk_drewN ?_ _ | refine blk_drew ?_ | refine blk_alloc ?_ _)); refine blk_put (cs := #[.int .i64 ((rd_T61 l0_1 x3_2).f0), .string (⟨#[]⟩ : ByteArray), .slice none 0 0]) ?_ 1 _ rfl; (with_reducible repeat (first | refine blk_drewN ?_ _ | refine blk_drew ?_ | refine blk_alloc ?_ _)); refine blk_put (cs := #[.int .i64 0, .string (⟨#[]⟩ : ByteArray), .slice none 0 0]) ?_ 0 _ rfl; (with_reducible repeat (first | refine blk_drewN ?_ _ | refine blk_drew ?_ | refine blk_alloc ?_ _)); exact BK137.out) hb); have n3_ := Aside0.mk (below_step (be_ HB) hb); clear BK135; clear BK137; clear HB; have HO141 := n0_; have BK135 := n1_; have BK137 := n2_; have HB := n3_; clear n0_ n1_ n2_ n3_; (try clear hb); (try clear hb2); (try clear hk); (try clear hi); (try clear ho0)))
           have n0_ := Aside0.mk (Kd.R_drew HO141.out)
           have n1_ := Aside0.mk (blk_drew BK135.out)
           have n2_ := Aside0.mk (blk_drew BK137.out)
           have n3_ := Aside0.mk (below_drew1 HB.out)
           clear HO141
           clear BK135
           clear BK137
           clear HB
           have HO141 := n0_
           have BK135 := n1_
           have BK137 := n2_
           have HB := n3_
           clear n0_ n1_ n2_ n3_
           refine start_ (n := 38) (S := fun w' => w'.cell? ⟨gb137, 0, none⟩ = some (.int .i64 ((rd_T61 l0_1 x3_2).f0)) ∧ w'.cell? ⟨gb137, 1, none⟩ = some (.string ((rd_T61 l0_1 x3_2).f1)) ∧ w'.cell? ⟨gb137, 2, none⟩ = some (.slice A136_2 ((rd_T61 l0_1 x3_2).f2).length c136_2)) (ds := []) #[false, false, false, false, false, false, false, false, false, false, false, false, false, false, false, false, false, false, false, false, false, false, false, false, false, false, false, false, false, false, false, false, false, false, false, false, false, false] (by kernel_rfl) rfl rfl ⟨bc_ BK137 0, bc_ BK137 1, bc_ BK137 2⟩ (fun hHeld => ?_); refine with_tabW thresherref11_Config.tab8 thresherref11_Config.bits8 (fun HT_ HW_ => ?_)
           generalize w90.drew = w91 at HO141 BK135 BK137 HB hHeld ⊢
           refine pu HT_ 0 67 (zb 38 1) ?_
           refine tk HT_ HW_ hHeld 1 68 (zb 38 3) (hv := by rintro w' ⟨s0, s1, s2⟩; go_simp; with_reducible rfl) (h := ?_)
           refine one_ (i := 2) (N := some 69) (zb 38 7) rfl rfl (one_of HT_.out (by kernel_rfl)) (by decide) (fun K hK => ?_)
           refine goes_ Try.func47 (by kernel_rfl) rfl #[.int .i64 ((rd_T61 l0_1 x3_2).f0)] (by rfl) rfl rfl (by (try simp only [List.map_toArray, List.map_cons, List.map_nil]); first | done | rfl | (simp only [List.length_drop, List.length_take]; rfl)) ?_
           with_reducible refine (thresherref0_ID.calls ((rd_T61 l0_1 x3_2).f0) true _ A23.out).mono ?_
           rintro e w' ⟨rfl, ⟨nd, rfl⟩⟩
           refine ⟨_, rfl, ?_⟩
           refine hK.out _ _ ⟨bc_ BK137 0, bc_ BK137 1, bc_ BK137 2⟩ (fun hHeld => ?_)
           clear hK K
           refine nm 69 ?_
           refine pu HT_ 3 70 (zb 38 15) ?_
           refine pu HT_ 4 71 (zb 38 31) ?_
           refine pu HT_ 5 72 (zb 38 63) ?_
           refine pu HT_ 6 73 (zb 38 127) ?_
           refine pu HT_ 7 74 (zb 38 255) ?_
           refine sk HT_ 8 75 (zb 38 511) ?_
           refine sk HT_ 9 76 (zb 38 1023) ?_
           refine sk HT_ 10 77 (zb 38 2047) ?_
           refine sk HT_ 11 78 (zb 38 4095) ?_
           refine sk HT_ 12 79 (zb 38 8191) ?_
           refine sk HT_ 13 80 (zb 38 16383) ?_
           refine sk HT_ 14 81 (zb 38 32767) ?_
           refine sk HT_ 15 82 (zb 38 65535) ?_
           refine sk HT_ 16 83 (zb 38 131071) ?_
           refine sk HT_ 17 84 (zb 38 262143) ?_
           refine pu HT_ 18 85 (zb 38 524287) ?_
           refine pu HT_ 19 86 (zb 38 1048575) ?_
           refine pu HT_ 20 87 (zb 38 2097151) ?_
           refine pu HT_ 21 88 (zb 38 4194303) ?_
           refine pu HT_ 22 89 (zb 38 8388607) ?_
           refine pu HT_ 23 90 (zb 38 16777215) ?_
           refine pu HT_ 24 91 (zb 38 33554431) ?_
           refine sk HT_ 25 92 (zb 38 67108863) ?_
           refine sk HT_ 26 93 (zb 38 134217727) ?_
           refine sk HT_ 27 94 (zb 38 268435455) ?_
           refine sk HT_ 28 95 (zb 38 536870911) ?_
           refine pu HT_ 29 96 (zb 38 1073741823) ?_
           refine pu HT_ 30 97 (zb 38 2147483647) ?_
           refine sk HT_ 31 98 (zb 38 4294967295) ?_
           refine sk HT_ 32 99 (zb 38 8589934591) ?_
           refine sk HT_ 33 100 (zb 38 17179869183) ?_
           refine sk HT_ 34 101 (zb 38 34359738367) ?_
           refine sk HT_ 35 102 (zb 38 68719476735) ?_
           refine sk HT_ 36 103 (zb 38 137438953471) ?_
           refine pu HT_ 37 104 (zb 38 274877906943) ?_
           refine done_ (done_of HT_.out (by kernel_rfl)) ?_
           try go_wp2
           go_ret
           exact ⟨re_, be_ HB⟩
        ·
         replace c24 := Bool.eq_false_iff.mpr c24
         subst c24
         have H1 : (some false) = some r := by rw [if_neg (show ¬ (false = true) by decide)] at H; exact H
         clear H
         have H := H1
         clear H1
         obtain rfl := Option.some.inj H
         have hcz92_0 : wr.cell? ⟨gb135, 0, none⟩ = some (.int .i64 a0_0) := bc_ BK135 0
         have hcz92_1 : wr.cell? ⟨gb135, 1, none⟩ = some (.slice A0_1 l0_1.length c0_1) := bc_ BK135 1
         have hcz92_2 : wr.cell? ⟨gb135, 2, none⟩ = some (.int .i64 a0_2) := bc_ BK135 2
         have hcz92_3 : wr.cell? ⟨gb135, 3, none⟩ = some (.int .i64 a0_3) := bc_ BK135 3
         have hfz92_0 := blk_frozen BK135.out 0
         have hfz92_1 := blk_frozen BK135.out 1
         have hfz92_2 := blk_frozen BK135.out 2
         have hfz92_3 := blk_frozen BK135.out 3
         have p136 : 0 ≤ (x3_2 : Int) := dc_
         have q136 : x3_2 < (l0_1.length : Int) := dc_
         obtain ⟨ad136, A136_2, c136_2, e136, hx136_0, hx136_1, hx136_2, hl136_2, hi136_2⟩ := at_T61 HR0_1.out x3_2 p136 q136
         cases e136
         replace hx136_0 := (HB.out.cell (World.block_lt_of_cell? w _ hx136_0)).trans hx136_0
         replace hx136_1 := (HB.out.cell (World.block_lt_of_cell? w _ hx136_1)).trans hx136_1
         replace hx136_2 := (HB.out.cell (World.block_lt_of_cell? w _ hx136_2)).trans hx136_2
         have HR136_2 := Aside0.mk hi136_2
         have HC136_2 := Aside0.mk hl136_2
         clear hi136_2 hl136_2
         replace p136 := eq_true p136
         replace q136 := eq_true q136
         try go_wp2_with (first | ((with_reducible refine gate_dst (N := 4) rfl ?_); (try (refine gate_guard (by rfl) ?_; dsimp only)); refine box_event ?hg (N := 4) ?hd (cs := #[.int .i64 0, .string (⟨#[]⟩ : ByteArray), .slice none 0 0]) (t := 61) ?hr ?_; (case hd => rfl); (case hg => rfl); (case hr => first | (go_simp; done) | (go_simp; rfl)); intro gb137 hg w93 hbox hb; have n0_ := Aside0.mk (blk_below (g := gb135) (o := .cells #[.int .i64 a0_0, .slice (some ad136) l0_1.length c0_1, .int .i64 a0_2, .int .i64 a0_3] 54 (0, 0)) (bk_ BK135) hb); have n1_ := Aside0.mk (below_step (be_ HB) hb); have n2_ := Aside0.mk (hbox); have n3_ := Aside0.mk ((by rw [hg]; exact (below_size (be_ HB)) : w.heap.size ≤ gb137)); have n4_ := Aside0.mk ((by rw [hg]; exact (below_size (be_ HB)) : w.heap.size ≤ gb137)); have n5_ := Aside0.mk ((by rw [hg]; exact Nat.ne_of_lt (blk_lt (g := gb135) (o := .cells #[.int .i64 a0_0, .slice (some ad136) l0_1.length c0_1, .int .i64 a0_2, .int .i64 a0_3] 54 (0, 0)) (bk_ BK135)) : gb135 ≠ gb137)); have n6_ := Aside0.mk ((by rw [hg]; exact Nat.ne_of_gt (blk_lt (g := gb135) (o := .cells #[.int .i64 a0_0, .slice (some ad136) l0_1.length c0_1, .int .i64 a0_2, .int .i64 a0_3] 54 (0, 0)) (bk_ BK135)) : gb137 ≠ gb135)); clear BK135; clear HB; have BK135 := n0_; have HB := n1_; have BK137 := n2_; have GW137 := n3_; have GE137 := n4_; have NB135_137 := n5_; have NB137_135 := n6_; clear n0_ n1_ n2_ n3_ n4_ n5_ n6_; clear hb hbox hg; have hnb94 := NB137_135.out; have hnc94 := NB135_137.out; have hcz95_0 : w93.cell? ⟨gb137, 0, none⟩ = some (.int .i64 0) := bc_ BK137 0; have hcz95_1 : w93.cell? ⟨gb137, 1, none⟩ = some (.string (⟨#[]⟩ : ByteArray)) := bc_ BK137 1; have hcz95_2 : w93.cell? ⟨gb137, 2, none⟩ = some (.slice none 0 0) := bc_ BK137 2; have hfz95_0 := blk_frozen BK137.out 0; have hfz95_1 := blk_frozen BK137.out 1; have hfz95_2 := blk_frozen BK137.out 2) | ((with_reducible refine gate_callee (f := 20) rfl ?_); refine goesL_ (some 64) rfl rfl Try.func20 (by kernel_rfl) rfl #[.string ((rd_T61 l0_1 x3_2).f1)] rfl (by (try simp only [List.map_toArray, List.map_cons, List.map_nil]); first | done | rfl | (simp only [List.length_drop, List.length_take]; rfl)) ?_; (with_reducible refine (thresherref3_All.calls k2 ((rd_T61 l0_1 x3_2).f1) t138 t139 _ A22.out).mono ?_); rintro e w96 ⟨v140, rfl, ho0, hb⟩; refine ⟨_, rfl, ?_⟩; have n0_ := Aside0.mk (Kd.R_lower ho0 (below_size (be_ HB))); have n1_ := Aside0.mk (blk_below (g := gb135) (o := .cells #[.int .i64 a0_0, .slice (some ad136) l0_1.length c0_1, .int .i64 a0_2, .int .i64 a0_3] 54 (0, 0)) (by (with_reducible repeat (first | refine blk_drewN ?_ _ | refine blk_drew ?_ | refine blk_alloc ?_ _)); refine blk_far ?_ NB135_137.out _; (with_reducible repeat (first | refine blk_drewN ?_ _ | refine blk_drew ?_ | refine blk_alloc ?_ _)); refine blk_far ?_ NB135_137.out _; (with_reducible repeat (first | refine blk_drewN ?_ _ | refine blk_drew ?_ | refine blk_alloc ?_ _)); refine blk_far ?_ NB135_137.out _; (with_reducible repeat (first | refine blk_drewN ?_ _ | refine blk_drew ?_ | refine blk_alloc ?_ _)); exact BK135.out) hb); have n2_ := Aside0.mk (blk_below (g := gb137) (o := .cells #[.int .i64 ((rd_T61 l0_1 x3_2).f0), .string ((rd_T61 l0_1 x3_2).f1), .slice A136_2 ((rd_T61 l0_1 x3_2).f2).length c136_2] 61 (0, 0)) (by (with_reducible repeat (first | refine blk_drewN ?_ _ | refine blk_drew ?_ | refine blk_alloc ?_ _)); refine blk_put (cs := #[.int .i64 ((rd_T61 l0_1 x3_2).f0), .string ((rd_T61 l0_1 x3_2).f1), .slice none 0 0]) ?_ 2 _ rfl; (with_reducible repeat (first | refine blk_drewN ?_ _ | refine blk_drew ?_ | refine blk_alloc ?_ _)); refine blk_put (cs := #[.int .i64 ((rd_T61 l0_1 x3_2).f0), .string (⟨#[]⟩ : ByteArray), .slice none 0 0]) ?_ 1 _ rfl; (with_reducible repeat (first | refine blk_drewN ?_ _ | refine blk_drew ?_ | refine blk_alloc ?_ _)); refine blk_put (cs := #[.int .i64 0, .string (⟨#[]⟩ : ByteArray), .slice none 0 0]) ?_ 0 _ rfl; (with_reducible repeat (first | refine blk_drewN ?_ _ | refine blk_drew ?_ | refine blk_alloc ?_ _)); exact BK137.out) hb); have n3_ := Aside0.mk (below_step (be_ HB) hb); clear BK135; clear BK137; clear HB; have HO141 := n0_; have BK135 := n1_; have BK137 := n2_; have HB := n3_; clear n0_ n1_ n2_ n3_; (try clear hb); (try clear hb2); (try clear hk); (try clear hi); (try clear ho0)))
         have n0_ := Aside0.mk (Kd.R_drew HO141.out)
         have n1_ := Aside0.mk (blk_drew BK135.out)
         have n2_ := Aside0.mk (blk_drew BK137.out)
         have n3_ := Aside0.mk (below_drew1 HB.out)
         clear HO141
         clear BK135
         clear BK137
         clear HB
         have HO141 := n0_
         have BK135 := n1_
         have BK137 := n2_
         have HB := n3_
         clear n0_ n1_ n2_ n3_
         refine start_ (n := 38) (S := fun w' => w'.cell? ⟨gb137, 0, none⟩ = some (.int .i64 ((rd_T61 l0_1 x3_2).f0)) ∧ w'.cell? ⟨gb137, 1, none⟩ = some (.string ((rd_T61 l0_1 x3_2).f1)) ∧ w'.cell? ⟨gb137, 2, none⟩ = some (.slice A136_2 ((rd_T61 l0_1 x3_2).f2).length c136_2)) (ds := []) #[false, false, false, false, false, false, false, false, false, false, false, false, false, false, false, false, false, false, false, false, false, false, false, false, false, false, false, false, false, false, false, false, false, false, false, false, false, false] (by kernel_rfl) rfl rfl ⟨bc_ BK137 0, bc_ BK137 1, bc_ BK137 2⟩ (fun hHeld => ?_); refine with_tabW thresherref11_Config.tab8 thresherref11_Config.bits8 (fun HT_ HW_ => ?_)
         generalize w96.drew = w97 at HO141 BK135 BK137 HB hHeld ⊢
         refine pu HT_ 0 67 (zb 38 1) ?_
         refine tk HT_ HW_ hHeld 1 68 (zb 38 3) (hv := by rintro w' ⟨s0, s1, s2⟩; go_simp; with_reducible rfl) (h := ?_)
         refine one_ (i := 2) (N := some 69) (zb 38 7) rfl rfl (one_of HT_.out (by kernel_rfl)) (by decide) (fun K hK => ?_)
         refine goes_ Try.func47 (by kernel_rfl) rfl #[.int .i64 ((rd_T61 l0_1 x3_2).f0)] (by rfl) rfl rfl (by (try simp only [List.map_toArray, List.map_cons, List.map_nil]); first | done | rfl | (simp only [List.length_drop, List.length_take]; rfl)) ?_
         with_reducible refine (thresherref0_ID.calls ((rd_T61 l0_1 x3_2).f0) false _ A23.out).mono ?_
         rintro e w' ⟨rfl, ⟨nd, rfl⟩⟩
         refine ⟨_, rfl, ?_⟩
         refine hK.out _ _ ⟨bc_ BK137 0, bc_ BK137 1, bc_ BK137 2⟩ (fun hHeld => ?_)
         clear hK K
         refine nm 69 ?_
         refine pu HT_ 3 70 (zb 38 15) ?_
         refine pu HT_ 4 71 (zb 38 31) ?_
         refine sk HT_ 5 72 (zb 38 63) ?_
         refine sk HT_ 6 73 (zb 38 127) ?_
         refine sk HT_ 7 74 (zb 38 255) ?_
         refine sk HT_ 8 75 (zb 38 511) ?_
         refine sk HT_ 9 76 (zb 38 1023) ?_
         refine sk HT_ 10 77 (zb 38 2047) ?_
         refine sk HT_ 11 78 (zb 38 4095) ?_
         refine sk HT_ 12 79 (zb 38 8191) ?_
         refine sk HT_ 13 80 (zb 38 16383) ?_
         refine sk HT_ 14 81 (zb 38 32767) ?_
         refine sk HT_ 15 82 (zb 38 65535) ?_
         refine sk HT_ 16 83 (zb 38 131071) ?_
         refine sk HT_ 17 84 (zb 38 262143) ?_
         refine sk HT_ 18 85 (zb 38 524287) ?_
         refine pu HT_ 19 86 (zb 38 1048575) ?_
         refine pu HT_ 20 87 (zb 38 2097151) ?_
         refine sk HT_ 21 88 (zb 38 4194303) ?_
         refine sk HT_ 22 89 (zb 38 8388607) ?_
         refine pu HT_ 23 90 (zb 38 16777215) ?_
         refine pu HT_ 24 91 (zb 38 33554431) ?_
         refine sk HT_ 25 92 (zb 38 67108863) ?_
         refine sk HT_ 26 93 (zb 38 134217727) ?_
         refine sk HT_ 27 94 (zb 38 268435455) ?_
         refine sk HT_ 28 95 (zb 38 536870911) ?_
         refine pu HT_ 29 96 (zb 38 1073741823) ?_
         refine pu HT_ 30 97 (zb 38 2147483647) ?_
         refine sk HT_ 31 98 (zb 38 4294967295) ?_
         refine sk HT_ 32 99 (zb 38 8589934591) ?_
         refine sk HT_ 33 100 (zb 38 17179869183) ?_
         refine sk HT_ 34 101 (zb 38 34359738367) ?_
         refine sk HT_ 35 102 (zb 38 68719476735) ?_
         refine sk HT_ 36 103 (zb 38 137438953471) ?_
         refine pu HT_ 37 104 (zb 38 274877906943) ?_
         refine done_ (done_of HT_.out (by kernel_rfl)) ?_
         try go_wp2
         go_ret
         exact ⟨re_, be_ HB⟩
       ·
        rw [if_neg c21] at H
        exact absurd H (by simp)
      ·
       rw [if_neg c20] at H
       have c20b0 : decide (x3_2 < (l0_1.length : Int)) = false := decide_eq_false c20
       clear c20
       obtain rfl := Option.some.inj H
       have hcz98_0 : wr.cell? ⟨gb135, 0, none⟩ = some (.int .i64 a0_0) := bc_ BK135 0
       have hcz98_1 : wr.cell? ⟨gb135, 1, none⟩ = some (.slice A0_1 l0_1.length c0_1) := bc_ BK135 1
       have hcz98_2 : wr.cell? ⟨gb135, 2, none⟩ = some (.int .i64 a0_2) := bc_ BK135 2
       have hcz98_3 : wr.cell? ⟨gb135, 3, none⟩ = some (.int .i64 a0_3) := bc_ BK135 3
       have hfz98_0 := blk_frozen BK135.out 0
       have hfz98_1 := blk_frozen BK135.out 1
       have hfz98_2 := blk_frozen BK135.out 2
       have hfz98_3 := blk_frozen BK135.out 3
       go_wp2
       go_ret
       exact ⟨re_, be_ HB⟩

end Go.Proofs.Ytgchbhepnfnhpaa.QSplit
