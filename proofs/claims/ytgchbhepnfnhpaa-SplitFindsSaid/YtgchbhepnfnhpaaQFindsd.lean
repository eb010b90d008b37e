/- SplitFinds, walked: the ways of 'if may' meet, and what follows is told once. -/
import Derived.Test.YtgchbhepnfnhpaaSteps
import Derived.Test.YtgchbhepnfnhpaaQSplitx0
import Derived.Test.YtgchbhepnfnhpaaQSplitx2
import Derived.Test.YtgchbhepnfnhpaaQSplitx4
import Derived.Test.YtgchbhepnfnhpaaQSplitx7
import Derived.Test.YtgchbhepnfnhpaaQSplitx8
import Derived.Test.YtgchbhepnfnhpaaEqRecs
import Derived.Test.YtgchbhepnfnhpaaQSplitx10
namespace Go.Proofs.Ytgchbhepnfnhpaa.QSplit
open Go.RowKit Go.Proofs.YtgchbhepnfnhpaaW.PrintWords Go.Proofs.YtgchbhepnfnhpaaW.PrintLast Go.Proofs.YtgchbhepnfnhpaaW.PrintMore Go.Proofs.Ytgchbhepnfnhpaa.Steps
attribute [local go_sem] max2_int min2_int max_two min_two max_three min_three max_four min_four
set_option linter.unusedVariables false
set_option linter.unusedSimpArgs false
mutual
def thresherlaw12_SplitFinds.l0 : Nat → Bool → Int → Int → List (S61) → Int → Int → List Int → Option (Bool)
 | 0, _, _, _, _, _, _, _ => none
 | k + 1, x3, x4, x281000, x281001, x281002, x281003, x281004 => if x4 < (x281004.length : Int) then (thresherlaw12_SplitFinds.j1 k x3 x4 (decide (x4 < 12)) x281000 x281001 x281002 x281003 x281004) else (thresherlaw12_SplitFinds.j1 k x3 x4 false x281000 x281001 x281002 x281003 x281004)
def thresherlaw12_SplitFinds.j1 : Nat → Bool → Int → Bool → Int → List (S61) → Int → Int → List Int → Option (Bool)
 | 0, _, _, _, _, _, _, _, _ => none
 | k + 1, x3, x4, x41, x281000, x281001, x281002, x281003, x281004 => if x41 = true then (if 0 ≤ x4 then (if x4 < (x281004.length : Int) then ((thresherref11_Find.f k x281000 x281001 x281002 x281003 (rd x281004 x4)).bind fun t287 => ((split_Find.f k x281000 x281001 x281002 x281003 (rd x281004 x4)).bind fun bt289 => (if x3 = true then (if t287 ≥ 0 then (if 0 ≤ t287 then (if t287 < (x281001.length : Int) then (thresherlaw12_SplitFinds.jw k x3 x4 t287 0 bt289.2.2.2 x281000 x281001 x281002 x281003 x281004 bt289.1 bt289.2.1 bt289.2.2.1 ((rd_T61 x281001 t287).f0) ((rd_T61 x281001 t287).f1) ((rd_T61 x281001 t287).f2)) else none) else none) else (thresherlaw12_SplitFinds.jw k x3 x4 t287 3 bt289.2.2.2 x281000 x281001 x281002 x281003 x281004 bt289.1 bt289.2.1 bt289.2.2.1 0 (⟨#[]⟩ : ByteArray) ([] : List Int))) else (thresherlaw12_SplitFinds.jw k x3 x4 t287 1 bt289.2.2.2 x281000 x281001 x281002 x281003 x281004 bt289.1 bt289.2.1 bt289.2.2.1 0 (⟨#[]⟩ : ByteArray) ([] : List Int))))) else (none)) else (none)) else ((thresherlaw12_wakes.f k).bind fun t285 => (some t285))
def thresherlaw12_SplitFinds.jw : Nat → Bool → Int → Int → Int → Int → Int → List (S61) → Int → Int → List Int → Int → ByteArray → List Int → Int → ByteArray → List Int → Option (Bool)
 | 0, _, _, _, _, _, _, _, _, _, _, _, _, _, _, _, _ => none
 | k + 1, x3, x4, x5, bad, e, x281000, x281001, x281002, x281003, x281004, s0, s1, s2, y0, y1, y2 => (thresherlaw12_num.f e).bind fun t297 => (if t297 = bad then ((thresherref0_EqSplit.f k s0 s1 s2 y0 y1 y2).bind fun t298 => (thresherlaw12_SplitFinds.j2 k x3 x4 x5 (!t298) x281000 x281001 x281002 x281003 x281004 s0 s1 s2)) else (thresherlaw12_SplitFinds.j2 k x3 x4 x5 true x281000 x281001 x281002 x281003 x281004 s0 s1 s2))
def thresherlaw12_SplitFinds.j2 : Nat → Bool → Int → Int → Bool → Int → List (S61) → Int → Int → List Int → Int → ByteArray → List Int → Option (Bool)
 | 0, _, _, _, _, _, _, _, _, _, _, _, _ => none
 | k + 1, x3, x4, x5, x82, x281000, x281001, x281002, x281003, x281004, x296000, x296001, x296002 => if x82 = true then (some false) else ((thresherlaw0_Numbers.f k x296002).bind fun _ => (thresherlaw12_SplitFinds.l1 k x3 x4 x5 (-1) x281000 x281001 x281002 x281003 x281004))
def thresherlaw12_SplitFinds.l1 : Nat → Bool → Int → Int → Int → Int → List (S61) → Int → Int → List Int → Option (Bool)
 | 0, _, _, _, _, _, _, _, _, _ => none
 | k + 1, x3, x4, x5, x10, x281000, x281001, x281002, x281003, x281004 => if x10 ≤ 4 then (if 0 ≤ x4 then (if x4 < (x281004.length : Int) then ((split_Next.f k x281000 x281001 x281002 x281003 (rd x281004 x4) x10).bind fun bt300 => (if x3 = true then ((thresherref0_Num.f x10 x281000).bind fun t302 => (thresherlaw12_SplitFinds.j4 k x3 x4 x5 x10 bt300.1 bt300.2 1 0 t302 x281000 x281001 x281002 x281003 x281004)) else (thresherlaw12_SplitFinds.j4 k x3 x4 x5 x10 bt300.1 bt300.2 1 0 false x281000 x281001 x281002 x281003 x281004))) else (none)) else (none)) else (if 0 ≤ (wrap64 (x4 + 1)) then (if (wrap64 (x4 + 1)) ≤ (x281004.length : Int) then ((split_Recs.f k x281000 x281001 x281002 x281003 (x281004.take ((wrap64 (x4 + 1)) : Int).toNat)).bind fun bt309 => (if x3 = true then (thresherlaw12_SplitFinds.l2 k x3 x4 bt309.1 bt309.2 0 ([] : List (S32)) 0 x281000 x281001 x281002 x281003 x281004) else (thresherlaw12_SplitFinds.j6 k x3 x4 bt309.1 bt309.2 1 ([] : List (S32)) x281000 x281001 x281002 x281003 x281004))) else (none)) else (none))
def thresherlaw12_SplitFinds.j4 : Nat → Bool → Int → Int → Int → Int → Int → Int → Int → Bool → Int → List (S61) → Int → Int → List Int → Option (Bool)
 | 0, _, _, _, _, _, _, _, _, _, _, _, _, _, _ => none
 | k + 1, x3, x4, x5, x10, x11, x12, x13, x14, x109, x281000, x281001, x281002, x281003, x281004 => if x109 = true then (if x5 ≥ 0 then (if 0 ≤ x5 then (if x5 < (x281001.length : Int) then ((thresherref11_Next.f k ((rd_T61 x281001 x5).f0) ((rd_T61 x281001 x5).f1) ((rd_T61 x281001 x5).f2) x10).bind fun t304 => ((thresherlaw12_num.f x12).bind fun t305 => (if t305 = 0 then (if x11 = t304 then (thresherlaw12_SplitFinds.l1 k x3 x4 x5 (wrap64 (x10 + 1)) x281000 x281001 x281002 x281003 x281004) else (some false)) else (some false)))) else (none)) else (none)) else ((thresherlaw12_num.f x12).bind fun t306 => (if t306 = 3 then (if x11 = x14 then (thresherlaw12_SplitFinds.l1 k x3 x4 x5 (wrap64 (x10 + 1)) x281000 x281001 x281002 x281003 x281004) else (some false)) else (some false)))) else ((thresherlaw12_num.f x12).bind fun t307 => (if t307 = x13 then (if x11 = x14 then (thresherlaw12_SplitFinds.l1 k x3 x4 x5 (wrap64 (x10 + 1)) x281000 x281001 x281002 x281003 x281004) else (some false)) else (some false)))
def thresherlaw12_SplitFinds.j6 : Nat → Bool → Int → List (S32) → Int → Int → List (S32) → Int → List (S61) → Int → Int → List Int → Option (Bool)
 | 0, _, _, _, _, _, _, _, _, _, _, _ => none
 | k + 1, x3, x4, x15, x16, x17, x18, x281000, x281001, x281002, x281003, x281004 => (thresherlaw12_num.f x16).bind fun t322 => (if t322 = x17 then ((thresherref0_EqRecs.f k x15 x18).bind fun t323 => (if t323 = true then ((split_Check.f k x281000 x281001 x281002 x281003).bind fun t324 => ((thresherlaw12_num.f t324).bind fun t325 => (if ((t325 == 0) != x3) = true then (some false) else (thresherlaw12_SplitFinds.l0 k x3 (wrap64 (x4 + 1)) x281000 x281001 x281002 x281003 x281004)))) else (some false))) else (some false))
def thresherlaw12_SplitFinds.l2 : Nat → Bool → Int → List (S32) → Int → Int → List (S32) → Int → Int → List (S61) → Int → Int → List Int → Option (Bool)
 | 0, _, _, _, _, _, _, _, _, _, _, _, _ => none
 | k + 1, x3, x4, x15, x16, x17, x18, x19, x281000, x281001, x281002, x281003, x281004 => if x19 ≤ x4 then (if 0 ≤ x19 then (if x19 < (x281004.length : Int) then ((thresherref11_Find.f k x281000 x281001 x281002 x281003 (rd x281004 x19)).bind fun t314 => (if t314 < 0 then (if 3 = 0 then (thresherlaw12_SplitFinds.j6 k x3 x4 x15 x16 3 x18 x281000 x281001 x281002 x281003 x281004) else (thresherlaw12_SplitFinds.j6 k x3 x4 x15 x16 3 ([] : List (S32)) x281000 x281001 x281002 x281003 x281004)) else (if 0 ≤ t314 then (if t314 < (x281001.length : Int) then ((thresherref11_Recs.f k ((rd_T61 x281001 t314).f0) ((rd_T61 x281001 t314).f1) ((rd_T61 x281001 t314).f2)).bind fun t316 => (if x18.length + t316.length < 4398046511104 then (thresherlaw12_SplitFinds.l2 k x3 x4 x15 x16 x17 (x18 ++ t316) (wrap64 (x19 + 1)) x281000 x281001 x281002 x281003 x281004) else (none))) else (none)) else (none)))) else (none)) else (none)) else (if x17 = 0 then (thresherlaw12_SplitFinds.j6 k x3 x4 x15 x16 x17 x18 x281000 x281001 x281002 x281003 x281004) else (thresherlaw12_SplitFinds.j6 k x3 x4 x15 x16 x17 ([] : List (S32)) x281000 x281001 x281002 x281003 x281004))
end
def thresherlaw12_SplitFinds.f (k : Nat) (a0_0 : Int) (l0_1 : List (S61)) (a0_2 : Int) (a0_3 : Int) (l0_4 : List Int) : Option (Bool) := (thresherlaw12_Heavy.f k a0_0 l0_1 a0_2 a0_3 l0_4).bind fun t281 => (if t281 = true then (some true) else ((thresherref11_Config.f k a0_0 l0_1 a0_2 a0_3).bind fun t282 => ((split_Check.f k a0_0 l0_1 a0_2 a0_3).bind fun t283 => ((thresherlaw12_num.f t283).bind fun t284 => (if ((t284 == 0) != t282) = true then (some false) else (thresherlaw12_SplitFinds.l0 k t282 0 a0_0 l0_1 a0_2 a0_3 l0_4))))))
theorem thresherlaw12_SplitFinds.mono_l : ∀ k, (∀ y0 y1 y2 y3 y4 y5 y6, LeO (thresherlaw12_SplitFinds.l0 k y0 y1 y2 y3 y4 y5 y6) (thresherlaw12_SplitFinds.l0 (k + 1) y0 y1 y2 y3 y4 y5 y6)) ∧ (∀ y0 y1 y2 y3 y4 y5 y6 y7, LeO (thresherlaw12_SplitFinds.j1 k y0 y1 y2 y3 y4 y5 y6 y7) (thresherlaw12_SplitFinds.j1 (k + 1) y0 y1 y2 y3 y4 y5 y6 y7)) ∧ (∀ y0 y1 y2 y3 y4 y5 y6 y7 y8 y9 y10 y11 y12 y13 y14 y15, LeO (thresherlaw12_SplitFinds.jw k y0 y1 y2 y3 y4 y5 y6 y7 y8 y9 y10 y11 y12 y13 y14 y15) (thresherlaw12_SplitFinds.jw (k + 1) y0 y1 y2 y3 y4 y5 y6 y7 y8 y9 y10 y11 y12 y13 y14 y15)) ∧ (∀ y0 y1 y2 y3 y4 y5 y6 y7 y8 y9 y10 y11, LeO (thresherlaw12_SplitFinds.j2 k y0 y1 y2 y3 y4 y5 y6 y7 y8 y9 y10 y11) (thresherlaw12_SplitFinds.j2 (k + 1) y0 y1 y2 y3 y4 y5 y6 y7 y8 y9 y10 y11)) ∧ (∀ y0 y1 y2 y3 y4 y5 y6 y7 y8, LeO (thresherlaw12_SplitFinds.l1 k y0 y1 y2 y3 y4 y5 y6 y7 y8) (thresherlaw12_SplitFinds.l1 (k + 1) y0 y1 y2 y3 y4 y5 y6 y7 y8)) ∧ (∀ y0 y1 y2 y3 y4 y5 y6 y7 y8 y9 y10 y11 y12 y13, LeO (thresherlaw12_SplitFinds.j4 k y0 y1 y2 y3 y4 y5 y6 y7 y8 y9 y10 y11 y12 y13) (thresherlaw12_SplitFinds.j4 (k + 1) y0 y1 y2 y3 y4 y5 y6 y7 y8 y9 y10 y11 y12 y13)) ∧ (∀ y0 y1 y2 y3 y4 y5 y6 y7 y8 y9 y10, LeO (thresherlaw12_SplitFinds.j6 k y0 y1 y2 y3 y4 y5 y6 y7 y8 y9 y10) (thresherlaw12_SplitFinds.j6 (k + 1) y0 y1 y2 y3 y4 y5 y6 y7 y8 y9 y10)) ∧ (∀ y0 y1 y2 y3 y4 y5 y6 y7 y8 y9 y10 y11, LeO (thresherlaw12_SplitFinds.l2 k y0 y1 y2 y3 y4 y5 y6 y7 y8 y9 y10 y11) (thresherlaw12_SplitFinds.l2 (k + 1) y0 y1 y2 y3 y4 y5 y6 y7 y8 y9 y10 y11))
 | 0 => ⟨fun _ _ _ _ _ _ _ r h => by simp [thresherlaw12_SplitFinds.l0] at h, fun _ _ _ _ _ _ _ _ r h => by simp [thresherlaw12_SplitFinds.j1] at h, fun _ _ _ _ _ _ _ _ _ _ _ _ _ _ _ _ r h => by simp [thresherlaw12_SplitFinds.jw] at h, fun _ _ _ _ _ _ _ _ _ _ _ _ r h => by simp [thresherlaw12_SplitFinds.j2] at h, fun _ _ _ _ _ _ _ _ _ r h => by simp [thresherlaw12_SplitFinds.l1] at h, fun _ _ _ _ _ _ _ _ _ _ _ _ _ _ r h => by simp [thresherlaw12_SplitFinds.j4] at h, fun _ _ _ _ _ _ _ _ _ _ _ r h => by simp [thresherlaw12_SplitFinds.j6] at h, fun _ _ _ _ _ _ _ _ _ _ _ _ r h => by simp [thresherlaw12_SplitFinds.l2] at h⟩
 | k + 1 => by
  obtain ⟨ih0, ih1, ih2, ih3, ih4, ih5, ih6, ih7⟩ := thresherlaw12_SplitFinds.mono_l k
  refine ⟨?_, ?_, ?_, ?_, ?_, ?_, ?_, ?_⟩
  · intro y0 y1 y2 y3 y4 y5 y6
    unfold thresherlaw12_SplitFinds.l0
    repeat' first
    | (with_reducible exact ih0 _ _ _ _ _ _ _)
    | (with_reducible exact ih1 _ _ _ _ _ _ _ _)
    | (with_reducible exact ih2 _ _ _ _ _ _ _ _ _ _ _ _ _ _ _ _)
    | (with_reducible exact ih3 _ _ _ _ _ _ _ _ _ _ _ _)
    | (with_reducible exact ih4 _ _ _ _ _ _ _ _ _)
    | (with_reducible exact ih5 _ _ _ _ _ _ _ _ _ _ _ _ _ _)
    | (with_reducible exact ih6 _ _ _ _ _ _ _ _ _ _ _)
    | (with_reducible exact ih7 _ _ _ _ _ _ _ _ _ _ _ _)
    | (with_reducible exact split_Check.mono _ _ _ _ _)
    | (with_reducible exact split_Find.mono _ _ _ _ _ _)
    | (with_reducible exact split_Next.mono _ _ _ _ _ _ _)
    | (with_reducible exact split_Recs.mono _ _ _ _ _ _)
    | (with_reducible exact thresherlaw0_Numbers.mono _ _)
    | (with_reducible exact thresherlaw12_Heavy.mono _ _ _ _ _ _)
    | (with_reducible exact thresherlaw12_wakes.mono _)
    | (with_reducible exact thresherref0_EqRecs.mono _ _ _)
    | (with_reducible exact thresherref0_EqSplit.mono _ _ _ _ _ _ _)
    | (with_reducible exact thresherref11_Config.mono _ _ _ _ _)
    | (with_reducible exact thresherref11_Find.mono _ _ _ _ _ _)
    | (with_reducible exact thresherref11_Next.mono _ _ _ _ _)
    | (with_reducible exact thresherref11_Recs.mono _ _ _ _)
    | (with_reducible exact LeO.refl _)
    | (with_reducible exact LeO.none _)
    | (with_reducible refine LeO.ite ?_ ?_)
    | (with_reducible refine LeO.bind ?_ (fun _ => ?_))
  · intro y0 y1 y2 y3 y4 y5 y6 y7
    unfold thresherlaw12_SplitFinds.j1
    repeat' first
    | (with_reducible exact ih0 _ _ _ _ _ _ _)
    | (with_reducible exact ih1 _ _ _ _ _ _ _ _)
    | (with_reducible exact ih2 _ _ _ _ _ _ _ _ _ _ _ _ _ _ _ _)
    | (with_reducible exact ih3 _ _ _ _ _ _ _ _ _ _ _ _)
    | (with_reducible exact ih4 _ _ _ _ _ _ _ _ _)
    | (with_reducible exact ih5 _ _ _ _ _ _ _ _ _ _ _ _ _ _)
    | (with_reducible exact ih6 _ _ _ _ _ _ _ _ _ _ _)
    | (with_reducible exact ih7 _ _ _ _ _ _ _ _ _ _ _ _)
    | (with_reducible exact split_Check.mono _ _ _ _ _)
    | (with_reducible exact split_Find.mono _ _ _ _ _ _)
    | (with_reducible exact split_Next.mono _ _ _ _ _ _ _)
    | (with_reducible exact split_Recs.mono _ _ _ _ _ _)
    | (with_reducible exact thresherlaw0_Numbers.mono _ _)
    | (with_reducible exact thresherlaw12_Heavy.mono _ _ _ _ _ _)
    | (with_reducible exact thresherlaw12_wakes.mono _)
    | (with_reducible exact thresherref0_EqRecs.mono _ _ _)
    | (with_reducible exact thresherref0_EqSplit.mono _ _ _ _ _ _ _)
    | (with_reducible exact thresherref11_Config.mono _ _ _ _ _)
    | (with_reducible exact thresherref11_Find.mono _ _ _ _ _ _)
    | (with_reducible exact thresherref11_Next.mono _ _ _ _ _)
    | (with_reducible exact thresherref11_Recs.mono _ _ _ _)
    | (with_reducible exact LeO.refl _)
    | (with_reducible exact LeO.none _)
    | (with_reducible refine LeO.ite ?_ ?_)
    | (with_reducible refine LeO.bind ?_ (fun _ => ?_))
  · intro y0 y1 y2 y3 y4 y5 y6 y7 y8 y9 y10 y11 y12 y13 y14 y15
    unfold thresherlaw12_SplitFinds.jw
    repeat' first
    | (with_reducible exact ih0 _ _ _ _ _ _ _)
    | (with_reducible exact ih1 _ _ _ _ _ _ _ _)
    | (with_reducible exact ih2 _ _ _ _ _ _ _ _ _ _ _ _ _ _ _ _)
    | (with_reducible exact ih3 _ _ _ _ _ _ _ _ _ _ _ _)
    | (with_reducible exact ih4 _ _ _ _ _ _ _ _ _)
    | (with_reducible exact ih5 _ _ _ _ _ _ _ _ _ _ _ _ _ _)
    | (with_reducible exact ih6 _ _ _ _ _ _ _ _ _ _ _)
    | (with_reducible exact ih7 _ _ _ _ _ _ _ _ _ _ _ _)
    | (with_reducible exact split_Check.mono _ _ _ _ _)
    | (with_reducible exact split_Find.mono _ _ _ _ _ _)
    | (with_reducible exact split_Next.mono _ _ _ _ _ _ _)
    | (with_reducible exact split_Recs.mono _ _ _ _ _ _)
    | (with_reducible exact thresherlaw0_Numbers.mono _ _)
    | (with_reducible exact thresherlaw12_Heavy.mono _ _ _ _ _ _)
    | (with_reducible exact thresherlaw12_wakes.mono _)
    | (with_reducible exact thresherref0_EqRecs.mono _ _ _)
    | (with_reducible exact thresherref0_EqSplit.mono _ _ _ _ _ _ _)
    | (with_reducible exact thresherref11_Config.mono _ _ _ _ _)
    | (with_reducible exact thresherref11_Find.mono _ _ _ _ _ _)
    | (with_reducible exact thresherref11_Next.mono _ _ _ _ _)
    | (with_reducible exact thresherref11_Recs.mono _ _ _ _)
    | (with_reducible exact LeO.refl _)
    | (with_reducible exact LeO.none _)
    | (with_reducible refine LeO.ite ?_ ?_)
    | (with_reducible refine LeO.bind ?_ (fun _ => ?_))
  · intro y0 y1 y2 y3 y4 y5 y6 y7 y8 y9 y10 y11
    unfold thresherlaw12_SplitFinds.j2
    repeat' first
    | (with_reducible exact ih0 _ _ _ _ _ _ _)
    | (with_reducible exact ih1 _ _ _ _ _ _ _ _)
    | (with_reducible exact ih2 _ _ _ _ _ _ _ _ _ _ _ _ _ _ _ _)
    | (with_reducible exact ih3 _ _ _ _ _ _ _ _ _ _ _ _)
    | (with_reducible exact ih4 _ _ _ _ _ _ _ _ _)
    | (with_reducible exact ih5 _ _ _ _ _ _ _ _ _ _ _ _ _ _)
    | (with_reducible exact ih6 _ _ _ _ _ _ _ _ _ _ _)
    | (with_reducible exact ih7 _ _ _ _ _ _ _ _ _ _ _ _)
    | (with_reducible exact split_Check.mono _ _ _ _ _)
    | (with_reducible exact split_Find.mono _ _ _ _ _ _)
    | (with_reducible exact split_Next.mono _ _ _ _ _ _ _)
    | (with_reducible exact split_Recs.mono _ _ _ _ _ _)
    | (with_reducible exact thresherlaw0_Numbers.mono _ _)
    | (with_reducible exact thresherlaw12_Heavy.mono _ _ _ _ _ _)
    | (with_reducible exact thresherlaw12_wakes.mono _)
    | (with_reducible exact thresherref0_EqRecs.mono _ _ _)
    | (with_reducible exact thresherref0_EqSplit.mono _ _ _ _ _ _ _)
    | (with_reducible exact thresherref11_Config.mono _ _ _ _ _)
    | (with_reducible exact thresherref11_Find.mono _ _ _ _ _ _)
    | (with_reducible exact thresherref11_Next.mono _ _ _ _ _)
    | (with_reducible exact thresherref11_Recs.mono _ _ _ _)
    | (with_reducible exact LeO.refl _)
    | (with_reducible exact LeO.none _)
    | (with_reducible refine LeO.ite ?_ ?_)
    | (with_reducible refine LeO.bind ?_ (fun _ => ?_))
  · intro y0 y1 y2 y3 y4 y5 y6 y7 y8
    unfold thresherlaw12_SplitFinds.l1
    repeat' first
    | (with_reducible exact ih0 _ _ _ _ _ _ _)
    | (with_reducible exact ih1 _ _ _ _ _ _ _ _)
    | (with_reducible exact ih2 _ _ _ _ _ _ _ _ _ _ _ _ _ _ _ _)
    | (with_reducible exact ih3 _ _ _ _ _ _ _ _ _ _ _ _)
    | (with_reducible exact ih4 _ _ _ _ _ _ _ _ _)
    | (with_reducible exact ih5 _ _ _ _ _ _ _ _ _ _ _ _ _ _)
    | (with_reducible exact ih6 _ _ _ _ _ _ _ _ _ _ _)
    | (with_reducible exact ih7 _ _ _ _ _ _ _ _ _ _ _ _)
    | (with_reducible exact split_Check.mono _ _ _ _ _)
    | (with_reducible exact split_Find.mono _ _ _ _ _ _)
    | (with_reducible exact split_Next.mono _ _ _ _ _ _ _)
    | (with_reducible exact split_Recs.mono _ _ _ _ _ _)
    | (with_reducible exact thresherlaw0_Numbers.mono _ _)
    | (with_reducible exact thresherlaw12_Heavy.mono _ _ _ _ _ _)
    | (with_reducible exact thresherlaw12_wakes.mono _)
    | (with_reducible exact thresherref0_EqRecs.mono _ _ _)
    | (with_reducible exact thresherref0_EqSplit.mono _ _ _ _ _ _ _)
    | (with_reducible exact thresherref11_Config.mono _ _ _ _ _)
    | (with_reducible exact thresherref11_Find.mono _ _ _ _ _ _)
    | (with_reducible exact thresherref11_Next.mono _ _ _ _ _)
    | (with_reducible exact thresherref11_Recs.mono _ _ _ _)
    | (with_reducible exact LeO.refl _)
    | (with_reducible exact LeO.none _)
    | (with_reducible refine LeO.ite ?_ ?_)
    | (with_reducible refine LeO.bind ?_ (fun _ => ?_))
  · intro y0 y1 y2 y3 y4 y5 y6 y7 y8 y9 y10 y11 y12 y13
    unfold thresherlaw12_SplitFinds.j4
    repeat' first
    | (with_reducible exact ih0 _ _ _ _ _ _ _)
    | (with_reducible exact ih1 _ _ _ _ _ _ _ _)
    | (with_reducible exact ih2 _ _ _ _ _ _ _ _ _ _ _ _ _ _ _ _)
    | (with_reducible exact ih3 _ _ _ _ _ _ _ _ _ _ _ _)
    | (with_reducible exact ih4 _ _ _ _ _ _ _ _ _)
    | (with_reducible exact ih5 _ _ _ _ _ _ _ _ _ _ _ _ _ _)
    | (with_reducible exact ih6 _ _ _ _ _ _ _ _ _ _ _)
    | (with_reducible exact ih7 _ _ _ _ _ _ _ _ _ _ _ _)
    | (with_reducible exact split_Check.mono _ _ _ _ _)
    | (with_reducible exact split_Find.mono _ _ _ _ _ _)
    | (with_reducible exact split_Next.mono _ _ _ _ _ _ _)
    | (with_reducible exact split_Recs.mono _ _ _ _ _ _)
    | (with_reducible exact thresherlaw0_Numbers.mono _ _)
    | (with_reducible exact thresherlaw12_Heavy.mono _ _ _ _ _ _)
    | (with_reducible exact thresherlaw12_wakes.mono _)
    | (with_reducible exact thresherref0_EqRecs.mono _ _ _)
    | (with_reducible exact thresherref0_EqSplit.mono _ _ _ _ _ _ _)
    | (with_reducible exact thresherref11_Config.mono _ _ _ _ _)
    | (with_reducible exact thresherref11_Find.mono _ _ _ _ _ _)
    | (with_reducible exact thresherref11_Next.mono _ _ _ _ _)
    | (with_reducible exact thresherref11_Recs.mono _ _ _ _)
    | (with_reducible exact LeO.refl _)
    | (with_reducible exact LeO.none _)
    | (with_reducible refine LeO.ite ?_ ?_)
    | (with_reducible refine LeO.bind ?_ (fun _ => ?_))
  · intro y0 y1 y2 y3 y4 y5 y6 y7 y8 y9 y10
    unfold thresherlaw12_SplitFinds.j6
    repeat' first
    | (with_reducible exact ih0 _ _ _ _ _ _ _)
    | (with_reducible exact ih1 _ _ _ _ _ _ _ _)
    | (with_reducible exact ih2 _ _ _ _ _ _ _ _ _ _ _ _ _ _ _ _)
    | (with_reducible exact ih3 _ _ _ _ _ _ _ _ _ _ _ _)
    | (with_reducible exact ih4 _ _ _ _ _ _ _ _ _)
    | (with_reducible exact ih5 _ _ _ _ _ _ _ _ _ _ _ _ _ _)
    | (with_reducible exact ih6 _ _ _ _ _ _ _ _ _ _ _)
    | (with_reducible exact ih7 _ _ _ _ _ _ _ _ _ _ _ _)
    | (with_reducible exact split_Check.mono _ _ _ _ _)
    | (with_reducible exact split_Find.mono _ _ _ _ _ _)
    | (with_reducible exact split_Next.mono _ _ _ _ _ _ _)
    | (with_reducible exact split_Recs.mono _ _ _ _ _ _)
    | (with_reducible exact thresherlaw0_Numbers.mono _ _)
    | (with_reducible exact thresherlaw12_Heavy.mono _ _ _ _ _ _)
    | (with_reducible exact thresherlaw12_wakes.mono _)
    | (with_reducible exact thresherref0_EqRecs.mono _ _ _)
    | (with_reducible exact thresherref0_EqSplit.mono _ _ _ _ _ _ _)
    | (with_reducible exact thresherref11_Config.mono _ _ _ _ _)
    | (with_reducible exact thresherref11_Find.mono _ _ _ _ _ _)
    | (with_reducible exact thresherref11_Next.mono _ _ _ _ _)
    | (with_reducible exact thresherref11_Recs.mono _ _ _ _)
    | (with_reducible exact LeO.refl _)
    | (with_reducible exact LeO.none _)
    | (with_reducible refine LeO.ite ?_ ?_)
    | (with_reducible refine LeO.bind ?_ (fun _ => ?_))
  · intro y0 y1 y2 y3 y4 y5 y6 y7 y8 y9 y10 y11
    unfold thresherlaw12_SplitFinds.l2
    repeat' first
    | (with_reducible exact ih0 _ _ _ _ _ _ _)
    | (with_reducible exact ih1 _ _ _ _ _ _ _ _)
    | (with_reducible exact ih2 _ _ _ _ _ _ _ _ _ _ _ _ _ _ _ _)
    | (with_reducible exact ih3 _ _ _ _ _ _ _ _ _ _ _ _)
    | (with_reducible exact ih4 _ _ _ _ _ _ _ _ _)
    | (with_reducible exact ih5 _ _ _ _ _ _ _ _ _ _ _ _ _ _)
    | (with_reducible exact ih6 _ _ _ _ _ _ _ _ _ _ _)
    | (with_reducible exact ih7 _ _ _ _ _ _ _ _ _ _ _ _)
    | (with_reducible exact split_Check.mono _ _ _ _ _)
    | (with_reducible exact split_Find.mono _ _ _ _ _ _)
    | (with_reducible exact split_Next.mono _ _ _ _ _ _ _)
    | (with_reducible exact split_Recs.mono _ _ _ _ _ _)
    | (with_reducible exact thresherlaw0_Numbers.mono _ _)
    | (with_reducible exact thresherlaw12_Heavy.mono _ _ _ _ _ _)
    | (with_reducible exact thresherlaw12_wakes.mono _)
    | (with_reducible exact thresherref0_EqRecs.mono _ _ _)
    | (with_reducible exact thresherref0_EqSplit.mono _ _ _ _ _ _ _)
    | (with_reducible exact thresherref11_Config.mono _ _ _ _ _)
    | (with_reducible exact thresherref11_Find.mono _ _ _ _ _ _)
    | (with_reducible exact thresherref11_Next.mono _ _ _ _ _)
    | (with_reducible exact thresherref11_Recs.mono _ _ _ _)
    | (with_reducible exact LeO.refl _)
    | (with_reducible exact LeO.none _)
    | (with_reducible refine LeO.ite ?_ ?_)
    | (with_reducible refine LeO.bind ?_ (fun _ => ?_))
theorem thresherlaw12_SplitFinds.mono : ∀ a0 a1 a2 a3 a4 k, LeO (thresherlaw12_SplitFinds.f k a0 a1 a2 a3 a4) (thresherlaw12_SplitFinds.f (k + 1) a0 a1 a2 a3 a4) := by
 intro a0 a1 a2 a3 a4 k
 obtain ⟨ih0, ih1, ih2, ih3, ih4, ih5, ih6, ih7⟩ := thresherlaw12_SplitFinds.mono_l k
 unfold thresherlaw12_SplitFinds.f
 repeat' first
 | (with_reducible exact ih0 _ _ _ _ _ _ _)
 | (with_reducible exact ih1 _ _ _ _ _ _ _ _)
 | (with_reducible exact ih2 _ _ _ _ _ _ _ _ _ _ _ _ _ _ _ _)
 | (with_reducible exact ih3 _ _ _ _ _ _ _ _ _ _ _ _)
 | (with_reducible exact ih4 _ _ _ _ _ _ _ _ _)
 | (with_reducible exact ih5 _ _ _ _ _ _ _ _ _ _ _ _ _ _)
 | (with_reducible exact ih6 _ _ _ _ _ _ _ _ _ _ _)
 | (with_reducible exact ih7 _ _ _ _ _ _ _ _ _ _ _ _)
 | (with_reducible exact split_Check.mono _ _ _ _ _)
 | (with_reducible exact split_Find.mono _ _ _ _ _ _)
 | (with_reducible exact split_Next.mono _ _ _ _ _ _ _)
 | (with_reducible exact split_Recs.mono _ _ _ _ _ _)
 | (with_reducible exact thresherlaw0_Numbers.mono _ _)
 | (with_reducible exact thresherlaw12_Heavy.mono _ _ _ _ _ _)
 | (with_reducible exact thresherlaw12_wakes.mono _)
 | (with_reducible exact thresherref0_EqRecs.mono _ _ _)
 | (with_reducible exact thresherref0_EqSplit.mono _ _ _ _ _ _ _)
 | (with_reducible exact thresherref11_Config.mono _ _ _ _ _)
 | (with_reducible exact thresherref11_Find.mono _ _ _ _ _ _)
 | (with_reducible exact thresherref11_Next.mono _ _ _ _ _)
 | (with_reducible exact thresherref11_Recs.mono _ _ _ _)
 | (with_reducible exact LeO.refl _)
 | (with_reducible exact LeO.none _)
 | (with_reducible refine LeO.ite ?_ ?_)
 | (with_reducible refine LeO.bind ?_ (fun _ => ?_))
def thresherlaw12_SplitFinds.T9 : Bool × List (List Nat × List Nat) := (true, [([], []), ([0], [0]), ([], []), ([2], [2]), ([], []), ([3, 4], [3, 4]), ([5], [5]), ([1, 6], [1, 6]), ([7, 7, 0, 1, 2, 3, 4, 5, 6, 7], [7])])
def thresherlaw12_SplitFinds.B9 : List Nat := [0, 1, 0, 4, 0, 28, 60, 127, 255]
theorem thresherlaw12_SplitFinds.tab9 : rtab .any (opsOf Try.f7 9) = thresherlaw12_SplitFinds.T9 := by kernel_rfl
theorem thresherlaw12_SplitFinds.bits9 : waitsOk thresherlaw12_SplitFinds.T9.2 thresherlaw12_SplitFinds.B9 = true := by kernel_rfl
def thresherlaw12_SplitFinds.T10 : Bool × List (List Nat × List Nat) := (true, [([], []), ([0], [0]), ([], []), ([2], [2]), ([], []), ([3, 4], [3, 4]), ([5], [5]), ([1, 6], [1, 6]), ([7], [7]), ([8], [8]), ([8], [8]), ([], []), ([11, 9, 7, 0, 1, 2, 3, 4, 5, 6, 7, 8, 9, 11], [9, 11]), ([10, 12, 0, 1, 2, 3, 4, 5, 6, 7, 8, 9, 10, 11, 12], [10])])
def thresherlaw12_SplitFinds.B10 : List Nat := [0, 1, 0, 4, 0, 28, 60, 127, 255, 511, 511, 0, 3071, 8191]
theorem thresherlaw12_SplitFinds.tab10 : rtab .any (opsOf Try.f7 10) = thresherlaw12_SplitFinds.T10 := by kernel_rfl
theorem thresherlaw12_SplitFinds.bits10 : waitsOk thresherlaw12_SplitFinds.T10.2 thresherlaw12_SplitFinds.B10 = true := by kernel_rfl
def thresherlaw12_SplitFinds.T22 : Bool × List (List Nat × List Nat) := (true, [([], []), ([0], [0]), ([], []), ([2], [2]), ([], []), ([3, 4], [3, 4]), ([5], [5]), ([], []), ([1, 6, 7], [1, 6, 7]), ([8], [8]), ([9], [9]), ([9], [9]), ([10, 8, 0, 1, 2, 3, 4, 5, 6, 7, 8, 9, 10], [10]), ([11, 12, 0, 1, 2, 3, 4, 5, 6, 7, 8, 9, 10, 11, 12], [11])])
def thresherlaw12_SplitFinds.B22 : List Nat := [0, 1, 0, 4, 0, 28, 60, 0, 255, 511, 1023, 1023, 2047, 8191]
theorem thresherlaw12_SplitFinds.tab22 : rtab .any (opsOf Try.f7 22) = thresherlaw12_SplitFinds.T22 := by kernel_rfl
theorem thresherlaw12_SplitFinds.bits22 : waitsOk thresherlaw12_SplitFinds.T22.2 thresherlaw12_SplitFinds.B22 = true := by kernel_rfl
def thresherlaw12_SplitFinds.T30 : Bool × List (List Nat × List Nat) := (true, [([], []), ([0], [0]), ([], []), ([2], [2]), ([], []), ([4], [4]), ([3, 5], [3, 5]), ([1, 6], [1, 6]), ([7], [7]), ([8], [8]), ([8], [8]), ([9, 7, 0, 1, 2, 3, 4, 5, 6, 7, 8, 9], [9]), ([10, 11, 0, 1, 2, 3, 4, 5, 6, 7, 8, 9, 10, 11], [10])])
def thresherlaw12_SplitFinds.B30 : List Nat := [0, 1, 0, 4, 0, 16, 60, 127, 255, 511, 511, 1023, 4095]
theorem thresherlaw12_SplitFinds.tab30 : rtab .any (opsOf Try.f7 30) = thresherlaw12_SplitFinds.T30 := by kernel_rfl
theorem thresherlaw12_SplitFinds.bits30 : waitsOk thresherlaw12_SplitFinds.T30.2 thresherlaw12_SplitFinds.B30 = true := by kernel_rfl
def thresherlaw12_SplitFinds.T38 : Bool × List (List Nat × List Nat) := (true, [([], []), ([0], [0]), ([], []), ([2], [2]), ([], []), ([3, 4], [3, 4]), ([5], [5]), ([1, 6], [1, 6]), ([7, 7, 0, 1, 2, 3, 4, 5, 6, 7], [7])])
def thresherlaw12_SplitFinds.B38 : List Nat := [0, 1, 0, 4, 0, 28, 60, 127, 255]
theorem thresherlaw12_SplitFinds.tab38 : rtab .any (opsOf Try.f7 38) = thresherlaw12_SplitFinds.T38 := by kernel_rfl
theorem thresherlaw12_SplitFinds.bits38 : waitsOk thresherlaw12_SplitFinds.T38.2 thresherlaw12_SplitFinds.B38 = true := by kernel_rfl
def thresherlaw12_SplitFinds.T15 : Bool × List (List Nat × List Nat) := (true, [([], []), ([0], [0]), ([1], [1]), ([], []), ([2, 3], [2, 3]), ([4], [4]), ([], []), ([5, 6, 0, 1, 2, 3, 4, 5, 6], [5])])
def thresherlaw12_SplitFinds.B15 : List Nat := [0, 1, 3, 0, 15, 31, 0, 127]
theorem thresherlaw12_SplitFinds.tab15 : rtab .any (opsOf Try.f7 15) = thresherlaw12_SplitFinds.T15 := by kernel_rfl
theorem thresherlaw12_SplitFinds.bits15 : waitsOk thresherlaw12_SplitFinds.T15.2 thresherlaw12_SplitFinds.B15 = true := by kernel_rfl

end Go.Proofs.Ytgchbhepnfnhpaa.QSplit
