-- Printed for this claim by a turned copy of the kit's print (wip/patch_print.py): a text of this session.
import Derived.Test.YtgchbhepnfnhpaaQSplitx0
import Derived.Test.YtgchbhepnfnhpaaQSplitx3
namespace Go.Proofs.Ytgchbhepnfnhpaa.QSplit
open Go.RowKit Go.Proofs.YtgchbhepnfnhpaaW.PrintWords Go.Proofs.YtgchbhepnfnhpaaW.PrintLast Go.Proofs.YtgchbhepnfnhpaaW.PrintMore
attribute [local go_sem] max2_int min2_int max_two min_two max_three min_three max_four min_four   -- for this text's walks alone
set_option linter.unusedVariables false
set_option linter.unusedSimpArgs false
theorem q1_4 {α : Type} (l : List α) (i : Nat) (a : α) : l.toArray.setIfInBounds i a = (l.set i a).toArray := List.setIfInBounds_toArray l i a
theorem q2_4 {α : Type} (a b : α) (l : List α) : (a :: l).set 0 b = b :: l := rfl
theorem q3_4 {α : Type} (a b : α) (l : List α) (n : Nat) : (a :: l).set (n + 1) b = a :: l.set n b := rfl


/-! ### thresherref11_Config: function 24 -/
mutual
def thresherref11_Config.j0 : Nat → Bool → Int → List (S61) → Int → Int → Option (Bool)
  | 0, _, _, _, _, _ => none
  | k + 1, x48, x136000, x136001, x136002, x136003 => if x48 = true then (some false) else (thresherref11_Config.l0 k 0 x136000 x136001 x136002 x136003)
def thresherref11_Config.l0 : Nat → Int → Int → List (S61) → Int → Int → Option (Bool)
  | 0, _, _, _, _, _ => none
  | k + 1, x3, x136000, x136001, x136002, x136003 => if x3 < (x136001.length : Int) then (if 0 ≤ x3 then ((thresherref3_All.f k ((rd_T61 x136001 x3).f1)).bind fun bt138 => ((thresherref0_ID.f ((rd_T61 x136001 x3).f0)).bind fun t142 => (if t142 = true then (if x3 > 0 then (if 0 ≤ (wrap64 (x3 - 1)) then (if (wrap64 (x3 - 1)) < (x136001.length : Int) then (if ((rd_T61 x136001 (wrap64 (x3 - 1))).f0) ≥ ((rd_T61 x136001 x3).f0) then (some false) else (if bt138.2 = 0 then (if (((rd_T61 x136001 x3).f2).length : Int) = 0 then (some false) else ((thresherref0_Rising.f k ((rd_T61 x136001 x3).f2) 1 x136000).bind fun t144 => (if t144 = true then (thresherref11_Config.l0 k (wrap64 (x3 + 1)) x136000 x136001 x136002 x136003) else (some false)))) else (some false))) else (none)) else (none)) else (if bt138.2 = 0 then (if (((rd_T61 x136001 x3).f2).length : Int) = 0 then (some false) else ((thresherref0_Rising.f k ((rd_T61 x136001 x3).f2) 1 x136000).bind fun t145 => (if t145 = true then (thresherref11_Config.l0 k (wrap64 (x3 + 1)) x136000 x136001 x136002 x136003) else (some false)))) else (some false))) else (some false)))) else (none)) else (some true)
end
def thresherref11_Config.f (k : Nat) (a0_0 : Int) (l0_1 : List (S61)) (a0_2 : Int) (a0_3 : Int) : Option (Bool) := if a0_0 < 1 then (thresherref11_Config.j0 k true a0_0 l0_1 a0_2 a0_3) else (if a0_0 > 3 then (thresherref11_Config.j0 k true a0_0 l0_1 a0_2 a0_3) else (if (l0_1.length : Int) > 6 then (thresherref11_Config.j0 k true a0_0 l0_1 a0_2 a0_3) else (if a0_2 < 1 then (thresherref11_Config.j0 k true a0_0 l0_1 a0_2 a0_3) else (if a0_2 > 16 then (thresherref11_Config.j0 k true a0_0 l0_1 a0_2 a0_3) else (if a0_3 < 16 then (thresherref11_Config.j0 k true a0_0 l0_1 a0_2 a0_3) else (if a0_3 > 64 then (thresherref11_Config.j0 k true a0_0 l0_1 a0_2 a0_3) else (thresherref11_Config.j0 k (decide (a0_3 < (wrap64 (2 * a0_2)))) a0_0 l0_1 a0_2 a0_3)))))))
theorem thresherref11_Config.mono_l : ∀ k, (∀ y0 y1 y2 y3 y4, LeO (thresherref11_Config.j0 k y0 y1 y2 y3 y4) (thresherref11_Config.j0 (k + 1) y0 y1 y2 y3 y4)) ∧ (∀ y0 y1 y2 y3 y4, LeO (thresherref11_Config.l0 k y0 y1 y2 y3 y4) (thresherref11_Config.l0 (k + 1) y0 y1 y2 y3 y4))
  | 0 => ⟨fun _ _ _ _ _ r h => by simp [thresherref11_Config.j0] at h, fun _ _ _ _ _ r h => by simp [thresherref11_Config.l0] at h⟩
  | k + 1 => by
    obtain ⟨ih0, ih1⟩ := thresherref11_Config.mono_l k
    refine ⟨?_, ?_⟩
    · intro y0 y1 y2 y3 y4
      unfold thresherref11_Config.j0
      repeat' first
      | (with_reducible exact ih0 _ _ _ _ _)
      | (with_reducible exact ih1 _ _ _ _ _)
      | (with_reducible exact thresherref0_Rising.mono _ _ _ _)
      | (with_reducible exact thresherref3_All.mono _ _)
      | (with_reducible exact LeO.refl _)
      | (with_reducible exact LeO.none _)
      | (with_reducible refine LeO.ite ?_ ?_)
      | (with_reducible refine LeO.bind ?_ (fun _ => ?_))
      | exact ih0 _ _ _ _ _
      | exact ih1 _ _ _ _ _
      | exact thresherref0_Rising.mono _ _ _ _
      | exact thresherref3_All.mono _ _
      | exact LeO.none _
      | refine LeO.ite ?_ ?_
      | refine LeO.bind ?_ (fun _ => ?_)
    · intro y0 y1 y2 y3 y4
      unfold thresherref11_Config.l0
      repeat' first
      | (with_reducible exact ih0 _ _ _ _ _)
      | (with_reducible exact ih1 _ _ _ _ _)
      | (with_reducible exact thresherref0_Rising.mono _ _ _ _)
      | (with_reducible exact thresherref3_All.mono _ _)
      | (with_reducible exact LeO.refl _)
      | (with_reducible exact LeO.none _)
      | (with_reducible refine LeO.ite ?_ ?_)
      | (with_reducible refine LeO.bind ?_ (fun _ => ?_))
      | exact ih0 _ _ _ _ _
      | exact ih1 _ _ _ _ _
      | exact thresherref0_Rising.mono _ _ _ _
      | exact thresherref3_All.mono _ _
      | exact LeO.none _
      | refine LeO.ite ?_ ?_
      | refine LeO.bind ?_ (fun _ => ?_)
theorem thresherref11_Config.mono : ∀ a0 a1 a2 a3 k, LeO (thresherref11_Config.f k a0 a1 a2 a3) (thresherref11_Config.f (k + 1) a0 a1 a2 a3) := by
  intro a0 a1 a2 a3 k
  obtain ⟨ih0, ih1⟩ := thresherref11_Config.mono_l k
  unfold thresherref11_Config.f
  repeat' first
      | (with_reducible exact ih0 _ _ _ _ _)
      | (with_reducible exact ih1 _ _ _ _ _)
      | (with_reducible exact thresherref0_Rising.mono _ _ _ _)
      | (with_reducible exact thresherref3_All.mono _ _)
      | (with_reducible exact LeO.refl _)
      | (with_reducible exact LeO.none _)
      | (with_reducible refine LeO.ite ?_ ?_)
      | (with_reducible refine LeO.bind ?_ (fun _ => ?_))
      | exact ih0 _ _ _ _ _
      | exact ih1 _ _ _ _ _
      | exact thresherref0_Rising.mono _ _ _ _
      | exact thresherref3_All.mono _ _
      | exact LeO.none _
      | refine LeO.ite ?_ ?_
      | refine LeO.bind ?_ (fun _ => ?_)
def thresherref11_Config.T8 : Bool × List (List Nat × List Nat) := (true, [([], []), ([0], [0]), ([1], [1]), ([2], [2]), ([3, 2], [3]), ([4], [4]), ([5, 4], [4, 5]), ([6, 4, 4], [4, 6]), ([7], [7]), ([8, 7], [7, 8]), ([7], [7]), ([10, 7], [7, 10]), ([9, 11, 7], [7, 9, 11]), ([12, 7], [7, 12]), ([13, 7], [7, 13]), ([7], [7]), ([15, 7], [7, 15]), ([14, 16, 7], [7, 14, 16]), ([7, 17, 4], [4, 7, 17]), ([4, 18], [4, 18]), ([19, 7], [19]), ([20], [20]), ([21, 20], [20, 21]), ([20, 22], [20, 22]), ([23, 20], [23]), ([24], [24]), ([25, 24], [24, 25]), ([26, 24], [24, 26]), ([27, 24], [24, 27]), ([24, 28], [24, 28]), ([29, 24], [29]), ([30], [30]), ([31, 30], [30, 31]), ([30], [30]), ([33, 30], [30, 33]), ([32, 34, 30, 30], [30, 32, 34]), ([35, 30], [30, 35]), ([30, 36], [30, 36])])
def thresherref11_Config.B8 : List Nat := [0, 1, 3, 7, 15, 31, 63, 127, 255, 511, 255, 1279, 4095, 8191, 16383, 255, 33023, 131071, 262143, 524287, 1048575, 2097151, 4194303, 8388607, 16777215, 33554431, 67108863, 134217727, 268435455, 536870911, 1073741823, 2147483647, 4294967295, 2147483647, 10737418239, 34359738367, 68719476735, 137438953471]
theorem thresherref11_Config.tab8 : rtab .any (opsOf Try.f24 8) = thresherref11_Config.T8 := by kernel_rfl
theorem thresherref11_Config.bits8 : waitsOk thresherref11_Config.T8.2 thresherref11_Config.B8 = true := by kernel_rfl

end Go.Proofs.Ytgchbhepnfnhpaa.QSplit
