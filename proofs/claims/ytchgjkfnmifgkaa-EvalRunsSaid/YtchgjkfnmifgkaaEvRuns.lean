/- EvalRuns, walked: its inner loop once. -/
import Derived.Test.YtchgjkfnmifgkaaQEx0
import Derived.Test.YtchgjkfnmifgkaaQEx13
import Derived.Test.YtchgjkfnmifgkaaQEx16
import Derived.Test.YtchgjkfnmifgkaaQEx21
import Derived.Test.YtchgjkfnmifgkaaHParse
namespace Go.Proofs.Ytchgjkfnmifgkaa.QE
open Go.RowKit Go.Proofs.YtchgjkfnmifgkaaW.PrintWords Go.Proofs.YtchgjkfnmifgkaaW.PrintLast Go.Proofs.YtchgjkfnmifgkaaW.PrintMore
attribute [local go_sem] max2_int min2_int max_two min_two max_three min_three max_four min_four
set_option linter.unusedVariables false
set_option linter.unusedSimpArgs false
theorem q1_5 {α : Type} (l : List α) (i : Nat) (a : α) : l.toArray.setIfInBounds i a = (l.set i a).toArray := List.setIfInBounds_toArray l i a
theorem q2_5 {α : Type} (a b : α) (l : List α) : (a :: l).set 0 b = b :: l := rfl
theorem q3_5 {α : Type} (a b : α) (l : List α) (n : Nat) : (a :: l).set (n + 1) b = a :: l.set n b := rfl
def RC {α : Type} (d : Kd α) (w : World) (v : Value) (xs : List α) : Prop := ∃ A c, v = .slice A xs.length c ∧ Kd.C d w A xs.length xs ∧ xs.length ≤ c
theorem RC.of_C {α : Type} {d : Kd α} {w : World} {A : Option Addr} {c : Nat} {xs : List α} (h : Kd.C d w A xs.length xs) (hc : xs.length ≤ c) : RC d w (.slice A xs.length c) xs := ⟨A, c, rfl, h, hc⟩
theorem RC.of_R {α : Type} {d : Kd α} {e : Nat} {w : World} {base : Nat} {ok : Nat → Prop} {v : Value} {xs : List α} (h : Kd.R d e w base ok v xs) : RC d w v xs := by
 obtain ⟨A, c, rfl⟩ := Kd.R_slice h
 exact ⟨A, c, rfl, (Kd.R_reads' h).2.2, (Kd.R_reads' h).2.1⟩
theorem RC_drew {α : Type} {d : Kd α} {w : World} {v : Value} {xs : List α} (h : RC d w v xs) : RC d w.drew v xs := by
 obtain ⟨A, c, rfl, h1, h2⟩ := h
 exact ⟨A, c, rfl, Kd.C_drew h1, h2⟩
theorem RC_drewN {α : Type} {d : Kd α} {w : World} {n : Nat} {v : Value} {xs : List α} (h : RC d w v xs) : RC d (w.drewN n) v xs := by
 obtain ⟨A, c, rfl, h1, h2⟩ := h
 exact ⟨A, c, rfl, Kd.C_drewN h1 n, h2⟩
theorem RC_below {α : Type} {d : Kd α} {w w' : World} {v : Value} {xs : List α} (h : RC d w v xs) (hb : Below w.heap.size w w') : RC d w' v xs := by
 obtain ⟨A, c, rfl, h1, h2⟩ := h
 exact ⟨A, c, rfl, Kd.C_below h1 hb, h2⟩
theorem RC_slice {α : Type} {d : Kd α} {w : World} {v : Value} {xs : List α} (h : RC d w v xs) : ∃ A c, v = .slice A xs.length c := by
 obtain ⟨A, c, rfl, h1, h2⟩ := h
 exact ⟨A, c, rfl⟩
theorem RC_reads {α : Type} {d : Kd α} {w : World} {A : Option Addr} {n c : Nat} {xs : List α} (h : RC d w (.slice A n c) xs) : True ∧ xs.length ≤ c ∧ Kd.C d w A xs.length xs := by
 obtain ⟨A', c', e, h1, h2⟩ := h
 obtain ⟨rfl, rfl, rfl⟩ : A = A' ∧ n = xs.length ∧ c = c' := by simpa using e
 exact ⟨trivial, h2, h1⟩
mutual
def thresherlaw8_EvalRuns.l0 : Nat → Int → List ByteArray → List (S34) → List (S50) → List Int → Option (Bool)
 | 0, _, _, _, _, _ => none
 | k + 1, x3, x228000, x228001, x228002, x228003 => if x3 < (x228000.length : Int) then (thresherlaw8_EvalRuns.j1 k x3 (decide (x3 < 8)) x228000 x228001 x228002 x228003) else (thresherlaw8_EvalRuns.j1 k x3 false x228000 x228001 x228002 x228003)
def thresherlaw8_EvalRuns.j1 : Nat → Int → Bool → List ByteArray → List (S34) → List (S50) → List Int → Option (Bool)
 | 0, _, _, _, _, _, _ => none
 | k + 1, x3, x18, x228000, x228001, x228002, x228003 => if x18 = true then (if 0 ≤ x3 then (if x3 < (x228000.length : Int) then ((thresherref6_Parse.f k (rdOf ByteArray.empty x228000 x3)).bind fun bt231 => (if bt231.2 = 0 then (thresherlaw8_EvalRuns.l2 k x3 bt231.1 0 x228000 x228001 x228002 x228003) else (thresherlaw8_EvalRuns.l2 k x3 x228001 0 x228000 x228001 x228002 x228003))) else (none)) else (none)) else ((thresherlaw8_wakes.f k).bind fun t229 => (some t229))
def thresherlaw8_EvalRuns.l2 : Nat → Int → List (S34) → Int → List ByteArray → List (S34) → List (S50) → List Int → Option (Bool)
 | 0, _, _, _, _, _, _, _ => none
 | k + 1, x3, x4, x6, x228000, x228001, x228002, x228003 => if x6 < (x228002.length : Int) then (if x6 < (x228003.length : Int) then (thresherlaw8_EvalRuns.j3 k x3 x4 x6 (decide (x6 < 8)) x228000 x228001 x228002 x228003) else (thresherlaw8_EvalRuns.j3 k x3 x4 x6 false x228000 x228001 x228002 x228003)) else (thresherlaw8_EvalRuns.j3 k x3 x4 x6 false x228000 x228001 x228002 x228003)
def thresherlaw8_EvalRuns.j3 : Nat → Int → List (S34) → Int → Bool → List ByteArray → List (S34) → List (S50) → List Int → Option (Bool)
 | 0, _, _, _, _, _, _, _, _ => none
 | k + 1, x3, x4, x6, x51, x228000, x228001, x228002, x228003 => if x51 = true then (if 0 ≤ x6 then (if x6 < (x228002.length : Int) then (if x6 < (x228003.length : Int) then ((thresherlaw8_run.f k x4 ((rd_T50 x228002 x6).f0.f0) ((rd_T50 x228002 x6).f0.f1) ((rd_T50 x228002 x6).f1) (rd x228003 x6)).bind fun t237 => (if t237 = true then ((thresherlaw8_run.f k x228001 ((rd_T50 x228002 x6).f0.f0) ((rd_T50 x228002 x6).f0.f1) ((rd_T50 x228002 x6).f1) (rd x228003 x6)).bind fun t240 => (if t240 = true then (thresherlaw8_EvalRuns.l2 k x3 x4 (wrap64 (x6 + 1)) x228000 x228001 x228002 x228003) else (some false))) else (some false))) else (none)) else (none)) else (none)) else (thresherlaw8_EvalRuns.l0 k (wrap64 (x3 + 1)) x228000 x228001 x228002 x228003)
end
def thresherlaw8_EvalRuns.f (k : Nat) (l0_0 : List ByteArray) (l0_1 : List (S34)) (l0_2 : List (S50)) (l0_3 : List Int) : Option (Bool) := (thresherlaw8_Heavy.f k l0_0 l0_1 l0_2 l0_3).bind fun t228 => (if t228 = true then (some true) else (thresherlaw8_EvalRuns.l0 k 0 l0_0 l0_1 l0_2 l0_3))
theorem thresherlaw8_EvalRuns.mono_l : ∀ k, (∀ y0 y1 y2 y3 y4, LeO (thresherlaw8_EvalRuns.l0 k y0 y1 y2 y3 y4) (thresherlaw8_EvalRuns.l0 (k + 1) y0 y1 y2 y3 y4)) ∧ (∀ y0 y1 y2 y3 y4 y5, LeO (thresherlaw8_EvalRuns.j1 k y0 y1 y2 y3 y4 y5) (thresherlaw8_EvalRuns.j1 (k + 1) y0 y1 y2 y3 y4 y5)) ∧ (∀ y0 y1 y2 y3 y4 y5 y6, LeO (thresherlaw8_EvalRuns.l2 k y0 y1 y2 y3 y4 y5 y6) (thresherlaw8_EvalRuns.l2 (k + 1) y0 y1 y2 y3 y4 y5 y6)) ∧ (∀ y0 y1 y2 y3 y4 y5 y6 y7, LeO (thresherlaw8_EvalRuns.j3 k y0 y1 y2 y3 y4 y5 y6 y7) (thresherlaw8_EvalRuns.j3 (k + 1) y0 y1 y2 y3 y4 y5 y6 y7))
 | 0 => ⟨fun _ _ _ _ _ r h => by simp [thresherlaw8_EvalRuns.l0] at h, fun _ _ _ _ _ _ r h => by simp [thresherlaw8_EvalRuns.j1] at h, fun _ _ _ _ _ _ _ r h => by simp [thresherlaw8_EvalRuns.l2] at h, fun _ _ _ _ _ _ _ _ r h => by simp [thresherlaw8_EvalRuns.j3] at h⟩
 | k + 1 => by
  obtain ⟨ih0, ih1, ih2, ih3⟩ := thresherlaw8_EvalRuns.mono_l k
  refine ⟨?_, ?_, ?_, ?_⟩
  ·
   intro y0 y1 y2 y3 y4
   unfold thresherlaw8_EvalRuns.l0
   repeat' first
   | (with_reducible exact ih0 _ _ _ _ _)
   | (with_reducible exact ih1 _ _ _ _ _ _)
   | (with_reducible exact ih2 _ _ _ _ _ _ _)
   | (with_reducible exact ih3 _ _ _ _ _ _ _ _)
   | (with_reducible exact thresherlaw8_Heavy.mono _ _ _ _ _)
   | (with_reducible exact thresherlaw8_run.mono _ _ _ _ _ _)
   | (with_reducible exact thresherlaw8_wakes.mono _)
   | (with_reducible exact thresherref6_Parse.mono _ _)
   | (with_reducible exact LeO.refl _)
   | (with_reducible exact LeO.none _)
   | (with_reducible refine LeO.ite ?_ ?_)
   | (with_reducible refine LeO.bind ?_ (fun _ => ?_))
  ·
   intro y0 y1 y2 y3 y4 y5
   unfold thresherlaw8_EvalRuns.j1
   repeat' first
   | (with_reducible exact ih0 _ _ _ _ _)
   | (with_reducible exact ih1 _ _ _ _ _ _)
   | (with_reducible exact ih2 _ _ _ _ _ _ _)
   | (with_reducible exact ih3 _ _ _ _ _ _ _ _)
   | (with_reducible exact thresherlaw8_Heavy.mono _ _ _ _ _)
   | (with_reducible exact thresherlaw8_run.mono _ _ _ _ _ _)
   | (with_reducible exact thresherlaw8_wakes.mono _)
   | (with_reducible exact thresherref6_Parse.mono _ _)
   | (with_reducible exact LeO.refl _)
   | (with_reducible exact LeO.none _)
   | (with_reducible refine LeO.ite ?_ ?_)
   | (with_reducible refine LeO.bind ?_ (fun _ => ?_))
  ·
   intro y0 y1 y2 y3 y4 y5 y6
   unfold thresherlaw8_EvalRuns.l2
   repeat' first
   | (with_reducible exact ih0 _ _ _ _ _)
   | (with_reducible exact ih1 _ _ _ _ _ _)
   | (with_reducible exact ih2 _ _ _ _ _ _ _)
   | (with_reducible exact ih3 _ _ _ _ _ _ _ _)
   | (with_reducible exact thresherlaw8_Heavy.mono _ _ _ _ _)
   | (with_reducible exact thresherlaw8_run.mono _ _ _ _ _ _)
   | (with_reducible exact thresherlaw8_wakes.mono _)
   | (with_reducible exact thresherref6_Parse.mono _ _)
   | (with_reducible exact LeO.refl _)
   | (with_reducible exact LeO.none _)
   | (with_reducible refine LeO.ite ?_ ?_)
   | (with_reducible refine LeO.bind ?_ (fun _ => ?_))
  ·
   intro y0 y1 y2 y3 y4 y5 y6 y7
   unfold thresherlaw8_EvalRuns.j3
   repeat' first
   | (with_reducible exact ih0 _ _ _ _ _)
   | (with_reducible exact ih1 _ _ _ _ _ _)
   | (with_reducible exact ih2 _ _ _ _ _ _ _)
   | (with_reducible exact ih3 _ _ _ _ _ _ _ _)
   | (with_reducible exact thresherlaw8_Heavy.mono _ _ _ _ _)
   | (with_reducible exact thresherlaw8_run.mono _ _ _ _ _ _)
   | (with_reducible exact thresherlaw8_wakes.mono _)
   | (with_reducible exact thresherref6_Parse.mono _ _)
   | (with_reducible exact LeO.refl _)
   | (with_reducible exact LeO.none _)
   | (with_reducible refine LeO.ite ?_ ?_)
   | (with_reducible refine LeO.bind ?_ (fun _ => ?_))
theorem thresherlaw8_EvalRuns.mono : ∀ a0 a1 a2 a3 k, LeO (thresherlaw8_EvalRuns.f k a0 a1 a2 a3) (thresherlaw8_EvalRuns.f (k + 1) a0 a1 a2 a3) := by
 intro a0 a1 a2 a3 k
 obtain ⟨ih0, ih1, ih2, ih3⟩ := thresherlaw8_EvalRuns.mono_l k
 unfold thresherlaw8_EvalRuns.f
 repeat' first
 | (with_reducible exact ih0 _ _ _ _ _)
 | (with_reducible exact ih1 _ _ _ _ _ _)
 | (with_reducible exact ih2 _ _ _ _ _ _ _)
 | (with_reducible exact ih3 _ _ _ _ _ _ _ _)
 | (with_reducible exact thresherlaw8_Heavy.mono _ _ _ _ _)
 | (with_reducible exact thresherlaw8_run.mono _ _ _ _ _ _)
 | (with_reducible exact thresherlaw8_wakes.mono _)
 | (with_reducible exact thresherref6_Parse.mono _ _)
 | (with_reducible exact LeO.refl _)
 | (with_reducible exact LeO.none _)
 | (with_reducible refine LeO.ite ?_ ?_)
 | (with_reducible refine LeO.bind ?_ (fun _ => ?_))
def thresherlaw8_EvalRuns.T12 : Bool × List (List Nat × List Nat) := (true, [([], []), ([], []), ([1], [1]), ([], []), ([2, 3], [2, 3]), ([4], [4]), ([], []), ([6], [6]), ([], []), ([7, 8], [7, 8]), ([9], [9]), ([0, 5, 10], [0, 5, 10]), ([11], [11]), ([12, 11], [12]), ([13], [13]), ([14, 13], [13, 14]), ([15, 13], [13, 15]), ([13], [13]), ([17, 13], [13, 17]), ([13], [13]), ([18, 19, 13], [13, 18, 19]), ([20, 13], [13, 20]), ([13], [13]), ([22, 13], [13, 22]), ([13], [13]), ([23, 24, 13], [13, 23, 24]), ([25, 13], [13, 25]), ([16, 21, 26, 13, 13], [13, 16, 21, 26]), ([27, 13], [13, 27]), ([13, 28], [13, 28])])
def thresherlaw8_EvalRuns.B12 : List Nat := [0, 0, 2, 0, 14, 30, 0, 64, 0, 448, 960, 2047, 4095, 8191, 16383, 32767, 65535, 16383, 147455, 16383, 933887, 1982463, 16383, 4210687, 16383, 29376511, 62930943, 134217727, 268435455, 536870911]
theorem thresherlaw8_EvalRuns.tab12 : rtab .any (opsOf Try.f5 12) = thresherlaw8_EvalRuns.T12 := by kernel_rfl
theorem thresherlaw8_EvalRuns.bits12 : waitsOk thresherlaw8_EvalRuns.T12.2 thresherlaw8_EvalRuns.B12 = true := by kernel_rfl
abbrev Z5_0 : Array Bool := #[false, false, false, false, false, false, false, false, false, false, false, false, false, false, false, false, false, false, false, false, false, false, false, false, false, false, false, false, false, false]
abbrev Z5_1 : Array Bool := #[true, false, false, false, false, false, false, false, false, false, false, false, false, false, false, false, false, false, false, false, false, false, false, false, false, false, false, false, false, false]
abbrev Z5_2 : Array Bool := #[true, true, false, false, false, false, false, false, false, false, false, false, false, false, false, false, false, false, false, false, false, false, false, false, false, false, false, false, false, false]
abbrev Z5_3 : Array Bool := #[true, true, false, true, false, false, false, false, false, false, false, false, false, false, false, false, false, false, false, false, false, false, false, false, false, false, false, false, false, false]
abbrev Z5_4 : Array Bool := #[true, true, false, true, false, false, true, false, false, false, false, false, false, false, false, false, false, false, false, false, false, false, false, false, false, false, false, false, false, false]
abbrev Z5_5 : Array Bool := #[true, true, false, true, false, false, true, false, true, false, false, false, false, false, false, false, false, false, false, false, false, false, false, false, false, false, false, false, false, false]
abbrev Z5_6 : Array Bool := #[true, true, true, true, false, false, true, false, true, false, false, false, false, false, false, false, false, false, false, false, false, false, false, false, false, false, false, false, false, false]
abbrev Z5_7 : Array Bool := #[true, true, true, true, true, false, true, false, true, false, false, false, false, false, false, false, false, false, false, false, false, false, false, false, false, false, false, false, false, false]
abbrev Z5_8 : Array Bool := #[true, true, true, true, true, true, true, false, true, false, false, false, false, false, false, false, false, false, false, false, false, false, false, false, false, false, false, false, false, false]
abbrev Z5_9 : Array Bool := #[true, true, true, true, true, true, true, true, true, false, false, false, false, false, false, false, false, false, false, false, false, false, false, false, false, false, false, false, false, false]
abbrev Z5_10 : Array Bool := #[true, true, true, true, true, true, true, true, true, true, false, false, false, false, false, false, false, false, false, false, false, false, false, false, false, false, false, false, false, false]
abbrev Z5_11 : Array Bool := #[true, true, true, true, true, true, true, true, true, true, true, false, false, false, false, false, false, false, false, false, false, false, false, false, false, false, false, false, false, false]
abbrev Z5_12 : Array Bool := #[true, true, true, true, true, true, true, true, true, true, true, true, false, false, false, false, false, false, false, false, false, false, false, false, false, false, false, false, false, false]
abbrev Z5_13 : Array Bool := #[true, true, true, true, true, true, true, true, true, true, true, true, true, false, false, false, false, false, false, false, false, false, false, false, false, false, false, false, false, false]
abbrev Z5_14 : Array Bool := #[true, true, true, true, true, true, true, true, true, true, true, true, true, true, false, false, false, false, false, false, false, false, false, false, false, false, false, false, false, false]
abbrev Z5_15 : Array Bool := #[true, true, true, true, true, true, true, true, true, true, true, true, true, true, true, false, false, false, false, false, false, false, false, false, false, false, false, false, false, false]
abbrev Z5_16 : Array Bool := #[true, true, true, true, true, true, true, true, true, true, true, true, true, true, true, true, false, false, false, false, false, false, false, false, false, false, false, false, false, false]
abbrev Z5_17 : Array Bool := #[true, true, true, true, true, true, true, true, true, true, true, true, true, true, true, true, false, true, false, false, false, false, false, false, false, false, false, false, false, false]
abbrev Z5_18 : Array Bool := #[true, true, true, true, true, true, true, true, true, true, true, true, true, true, true, true, false, true, false, true, false, false, false, false, false, false, false, false, false, false]
abbrev Z5_19 : Array Bool := #[true, true, true, true, true, true, true, true, true, true, true, true, true, true, true, true, false, true, false, true, false, false, true, false, false, false, false, false, false, false]
abbrev Z5_20 : Array Bool := #[true, true, true, true, true, true, true, true, true, true, true, true, true, true, true, true, false, true, false, true, false, false, true, false, true, false, false, false, false, false]
abbrev Z5_21 : Array Bool := #[true, true, true, true, true, true, true, true, true, true, true, true, true, true, true, true, true, true, false, true, false, false, true, false, true, false, false, false, false, false]
abbrev Z5_22 : Array Bool := #[true, true, true, true, true, true, true, true, true, true, true, true, true, true, true, true, true, true, true, true, false, false, true, false, true, false, false, false, false, false]
abbrev Z5_23 : Array Bool := #[true, true, true, true, true, true, true, true, true, true, true, true, true, true, true, true, true, true, true, true, true, false, true, false, true, false, false, false, false, false]
abbrev Z5_24 : Array Bool := #[true, true, true, true, true, true, true, true, true, true, true, true, true, true, true, true, true, true, true, true, true, true, true, false, true, false, false, false, false, false]
abbrev Z5_25 : Array Bool := #[true, true, true, true, true, true, true, true, true, true, true, true, true, true, true, true, true, true, true, true, true, true, true, true, true, false, false, false, false, false]
abbrev Z5_26 : Array Bool := #[true, true, true, true, true, true, true, true, true, true, true, true, true, true, true, true, true, true, true, true, true, true, true, true, true, true, false, false, false, false]
abbrev Z5_27 : Array Bool := #[true, true, true, true, true, true, true, true, true, true, true, true, true, true, true, true, true, true, true, true, true, true, true, true, true, true, true, false, false, false]
abbrev Z5_28 : Array Bool := #[true, true, true, true, true, true, true, true, true, true, true, true, true, true, true, true, true, true, true, true, true, true, true, true, true, true, true, true, false, false]
abbrev Z5_29 : Array Bool := #[true, true, true, true, true, true, true, true, true, true, true, true, true, true, true, true, true, true, true, true, true, true, true, true, true, true, true, true, true, false]
abbrev Z5_30 : Array Bool := #[true, true, true, true, true, true, true, true, true, true, true, true, true, true, true, true, true, true, true, true, true, true, true, true, true, true, true, true, true, true]
abbrev Z5_31 : Array Bool := #[true, true, true, true, true, true, true, true, true, true, true, true, true, true, true, true, true, false, false, false, false, false, false, false, false, false, false, false, false, false]
abbrev Z5_32 : Array Bool := #[true, true, true, true, true, true, true, true, true, true, true, true, true, true, true, true, true, true, false, false, false, false, false, false, false, false, false, false, false, false]
abbrev Z5_33 : Array Bool := #[true, true, true, true, true, true, true, true, true, true, true, true, true, true, true, true, true, true, true, false, false, false, false, false, false, false, false, false, false, false]
abbrev Z5_34 : Array Bool := #[true, true, true, true, true, true, true, true, true, true, true, true, true, true, true, true, true, true, true, true, false, false, false, false, false, false, false, false, false, false]
abbrev Z5_35 : Array Bool := #[true, true, true, true, true, true, true, true, true, true, true, true, true, true, true, true, true, true, true, true, true, false, false, false, false, false, false, false, false, false]
abbrev Z5_36 : Array Bool := #[true, true, true, true, true, true, true, true, true, true, true, true, true, true, true, true, true, true, true, true, true, true, false, false, false, false, false, false, false, false]
abbrev Z5_37 : Array Bool := #[true, true, true, true, true, true, true, true, true, true, true, true, true, true, true, true, true, true, true, true, true, true, true, false, false, false, false, false, false, false]
abbrev Z5_38 : Array Bool := #[true, true, true, true, true, true, true, true, true, true, true, true, true, true, true, true, true, true, true, true, true, true, true, true, false, false, false, false, false, false]
set_option maxHeartbeats 8000000 in
set_option maxRecDepth 100000 in
theorem thresherlaw8_EvalRuns.calls (k : Nat) (A0_0 : Option Addr) (c0_0 : Nat) (l0_0 : List ByteArray) (A0_1 : Option Addr) (c0_1 : Nat) (l0_1 : List (S34)) (A0_2 : Option Addr) (c0_2 : Nat) (l0_2 : List (S50)) (A0_3 : Option Addr) (c0_3 : Nat) (l0_3 : List Int) (r : Bool) (w : World) (hr0_0 : Kd.C Kd.string w A0_0 l0_0.length l0_0) (hc0_0 : l0_0.length ≤ c0_0) (hr0_1 : Kd.C k34 w A0_1 l0_1.length l0_1) (hc0_1 : l0_1.length ≤ c0_1) (hr0_2 : Kd.C k50 w A0_2 l0_2.length l0_2) (hc0_2 : l0_2.length ≤ c0_2) (hr0_3 : Kd.C (Kd.int .i64) w A0_3 l0_3.length l0_3) (hc0_3 : l0_3.length ≤ c0_3) (h : thresherlaw8_EvalRuns.f k l0_0 l0_1 l0_2 l0_3 = some r) :
  Calls Try.prog 5 #[.agg #[.slice A0_0 l0_0.length c0_0, .slice A0_1 l0_1.length c0_1, .slice A0_2 l0_2.length c0_2, .slice A0_3 l0_3.length c0_3]] w fun e w' => e = .returned (.bool r) ∧ Below w.heap.size w w' := by
 have hu44 := Try.underlying44
 have hu50 := Try.underlying50
 have HR0_0 := Aside0.mk hr0_0
 have HC0_0 := Aside0.mk hc0_0
 clear hr0_0 hc0_0
 have HR0_1 := Aside0.mk hr0_1
 have HC0_1 := Aside0.mk hc0_1
 clear hr0_1 hc0_1
 have HR0_2 := Aside0.mk hr0_2
 have HC0_2 := Aside0.mk hc0_2
 clear hr0_2 hc0_2
 have HR0_3 := Aside0.mk hr0_3
 have HC0_3 := Aside0.mk hc0_3
 clear hr0_3 hc0_3
 have HB := Aside0.mk (Below.refl w.heap.size w)
 have H : ((thresherlaw8_Heavy.f k l0_0 l0_1 l0_2 l0_3).bind fun t228 => (if t228 = true then (some true) else (thresherlaw8_EvalRuns.l0 k 0 l0_0 l0_1 l0_2 l0_3))) = some r := h
 clear h; replace H := Option.bind_eq_some_iff.mp H
 obtain ⟨t228, A20, H⟩ := H
 replace H : (if t228 = true then (some true) else (thresherlaw8_EvalRuns.l0 k 0 l0_0 l0_1 l0_2 l0_3)) = some r := H
 have A2 := Aside0.mk A20
 clear A20
 by_cases c3 : t228 = true
 ·
  subst c3
  have H1 : (some true) = some r := by rw [if_pos rfl] at H; exact H
  clear H; have H := H1
  clear H1
  obtain rfl := Option.some.inj H
  go_enter Try.func5, Try.ntmps5
  go_wp2_with (first | ((with_reducible refine gate_dst (N := 1) rfl ?_); (try (refine gate_guard (by rfl) ?_; dsimp only)); refine box_event ?hg (N := 1) ?hd (cs := #[.slice A0_0 l0_0.length c0_0, .slice A0_1 l0_1.length c0_1, .slice A0_2 l0_2.length c0_2, .slice A0_3 l0_3.length c0_3]) (t := 44) ?hr ?_; (case hd => rfl); (case hg => rfl); (case hr => first | (go_simp; done) | (go_simp; rfl)); intro gb227 hg w4 hbox hb; have n0_ := Aside0.mk (below_step (by repeat (first | (with_reducible first | exact HB.out | apply below_alloc | apply pw_below_drewN | apply below_drew1) | exact HB.out)) hb); have n1_ := Aside0.mk (hbox); have n2_ := Aside0.mk ((by rw [hg]; exact (below_size (by repeat (first | (with_reducible first | exact HB.out | apply below_alloc | apply pw_below_drewN | apply below_drew1) | exact HB.out))) : w.heap.size ≤ gb227)); have n3_ := Aside0.mk ((by rw [hg]; exact (below_size (by repeat (first | (with_reducible first | exact HB.out | apply below_alloc | apply pw_below_drewN | apply below_drew1) | exact HB.out))) : w.heap.size ≤ gb227)); clear HB; have HB := n0_; have BK227 := n1_; have GW227 := n2_; have GE227 := n3_; clear n0_ n1_ n2_ n3_; clear hb hbox hg; have hcz5_0 : w4.cell? ⟨gb227, 0, none⟩ = some (.slice A0_0 l0_0.length c0_0) := (blk_cell BK227.out 0).trans rfl; have hcz5_1 : w4.cell? ⟨gb227, 1, none⟩ = some (.slice A0_1 l0_1.length c0_1) := (blk_cell BK227.out 1).trans rfl; have hcz5_2 : w4.cell? ⟨gb227, 2, none⟩ = some (.slice A0_2 l0_2.length c0_2) := (blk_cell BK227.out 2).trans rfl; have hcz5_3 : w4.cell? ⟨gb227, 3, none⟩ = some (.slice A0_3 l0_3.length c0_3) := (blk_cell BK227.out 3).trans rfl; have hfz5_0 := blk_frozen BK227.out 0; have hfz5_1 := blk_frozen BK227.out 1; have hfz5_2 := blk_frozen BK227.out 2; have hfz5_3 := blk_frozen BK227.out 3) | ((with_reducible refine gate_callee (f := 22) rfl ?_); refine goesL_ (some 8) rfl rfl Try.func22 (by kernel_rfl) rfl #[.agg #[.slice A0_0 l0_0.length c0_0, .slice A0_1 l0_1.length c0_1, .slice A0_2 l0_2.length c0_2, .slice A0_3 l0_3.length c0_3]] rfl (by (try simp only [List.map_toArray, List.map_cons, List.map_nil]); first | done | rfl | (simp only [List.length_drop, List.length_take]; rfl)) ?_; (with_reducible refine (thresherlaw8_Heavy.calls k _ _ l0_0 _ _ l0_1 _ _ l0_2 _ _ l0_3 true _ ?side1 ?side2 ?side3 ?side4 ?side5 ?side6 ?side7 ?side8 A2.out).mono ?_); (case side1 => repeat (first | exact (Kd.C_below HR0_0.out HB.out) | (with_reducible refine Kd.C_alloc ?_ _) | (with_reducible refine Kd.C_drewN ?_ _) | (with_reducible refine Kd.C_drew ?_))); (case side2 => exact HC0_0.out); (case side3 => repeat (first | exact (Kd.C_below HR0_1.out HB.out) | (with_reducible refine Kd.C_alloc ?_ _) | (with_reducible refine Kd.C_drewN ?_ _) | (with_reducible refine Kd.C_drew ?_))); (case side4 => exact HC0_1.out); (case side5 => repeat (first | exact (Kd.C_below HR0_2.out HB.out) | (with_reducible refine Kd.C_alloc ?_ _) | (with_reducible refine Kd.C_drewN ?_ _) | (with_reducible refine Kd.C_drew ?_))); (case side6 => exact HC0_2.out); (case side7 => repeat (first | exact (Kd.C_below HR0_3.out HB.out) | (with_reducible refine Kd.C_alloc ?_ _) | (with_reducible refine Kd.C_drewN ?_ _) | (with_reducible refine Kd.C_drew ?_))); (case side8 => exact HC0_3.out); rintro e w6 ⟨rfl, hb⟩; refine ⟨_, rfl, ?_⟩; have n0_ := Aside0.mk (blk_below (g := gb227) (o := .cells #[.slice A0_0 l0_0.length c0_0, .slice A0_1 l0_1.length c0_1, .slice A0_2 l0_2.length c0_2, .slice A0_3 l0_3.length c0_3] 44 (0, 0)) (by (with_reducible repeat (first | refine blk_drewN ?_ _ | refine blk_drew ?_ | refine blk_alloc ?_ _)); exact BK227.out) hb); have n1_ := Aside0.mk (below_step (by repeat (first | (with_reducible first | exact HB.out | apply below_alloc | apply pw_below_drewN | apply below_drew1 | refine below_set ?_ GE227.out) | exact HB.out)) hb); clear BK227; clear HB; have BK227 := n0_; have HB := n1_; clear n0_ n1_; (try clear hb); (try clear hk); (try clear hi)))
  go_ret
  exact ⟨by first | rfl | (simp [errW_none, errW_some] <;> rfl) | (simp [*, errW_none, errW_some] <;> rfl), by repeat (first | (with_reducible first | exact HB.out | apply below_alloc | apply pw_below_drewN | apply below_drew1 | refine below_set ?_ GE227.out) | exact HB.out)⟩
 ·
  replace c3 := Bool.eq_false_iff.mpr c3
  subst c3
  have H1 : (thresherlaw8_EvalRuns.l0 k 0 l0_0 l0_1 l0_2 l0_3) = some r := by rw [if_neg (show ¬ (false = true) by decide)] at H; exact H
  clear H; have H := H1
  clear H1
  have H' := Aside0.mk H
  clear H; go_enter Try.func5, Try.ntmps5
  go_wp2_with (first | ((with_reducible refine gate_dst (N := 1) rfl ?_); (try (refine gate_guard (by rfl) ?_; dsimp only)); refine box_event ?hg (N := 1) ?hd (cs := #[.slice A0_0 l0_0.length c0_0, .slice A0_1 l0_1.length c0_1, .slice A0_2 l0_2.length c0_2, .slice A0_3 l0_3.length c0_3]) (t := 44) ?hr ?_; (case hd => rfl); (case hg => rfl); (case hr => first | (go_simp; done) | (go_simp; rfl)); intro gb227 hg w7 hbox hb; have n0_ := Aside0.mk (below_step (by repeat (first | (with_reducible first | exact HB.out | apply below_alloc | apply pw_below_drewN | apply below_drew1) | exact HB.out)) hb); have n1_ := Aside0.mk (hbox); have n2_ := Aside0.mk ((by rw [hg]; exact (below_size (by repeat (first | (with_reducible first | exact HB.out | apply below_alloc | apply pw_below_drewN | apply below_drew1) | exact HB.out))) : w.heap.size ≤ gb227)); have n3_ := Aside0.mk ((by rw [hg]; exact (below_size (by repeat (first | (with_reducible first | exact HB.out | apply below_alloc | apply pw_below_drewN | apply below_drew1) | exact HB.out))) : w.heap.size ≤ gb227)); clear HB; have HB := n0_; have BK227 := n1_; have GW227 := n2_; have GE227 := n3_; clear n0_ n1_ n2_ n3_; clear hb hbox hg; have hcz8_0 : w7.cell? ⟨gb227, 0, none⟩ = some (.slice A0_0 l0_0.length c0_0) := (blk_cell BK227.out 0).trans rfl; have hcz8_1 : w7.cell? ⟨gb227, 1, none⟩ = some (.slice A0_1 l0_1.length c0_1) := (blk_cell BK227.out 1).trans rfl; have hcz8_2 : w7.cell? ⟨gb227, 2, none⟩ = some (.slice A0_2 l0_2.length c0_2) := (blk_cell BK227.out 2).trans rfl; have hcz8_3 : w7.cell? ⟨gb227, 3, none⟩ = some (.slice A0_3 l0_3.length c0_3) := (blk_cell BK227.out 3).trans rfl; have hfz8_0 := blk_frozen BK227.out 0; have hfz8_1 := blk_frozen BK227.out 1; have hfz8_2 := blk_frozen BK227.out 2; have hfz8_3 := blk_frozen BK227.out 3) | ((with_reducible refine gate_callee (f := 22) rfl ?_); refine goesL_ (some 8) rfl rfl Try.func22 (by kernel_rfl) rfl #[.agg #[.slice A0_0 l0_0.length c0_0, .slice A0_1 l0_1.length c0_1, .slice A0_2 l0_2.length c0_2, .slice A0_3 l0_3.length c0_3]] rfl (by (try simp only [List.map_toArray, List.map_cons, List.map_nil]); first | done | rfl | (simp only [List.length_drop, List.length_take]; rfl)) ?_; (with_reducible refine (thresherlaw8_Heavy.calls k _ _ l0_0 _ _ l0_1 _ _ l0_2 _ _ l0_3 false _ ?side1 ?side2 ?side3 ?side4 ?side5 ?side6 ?side7 ?side8 A2.out).mono ?_); (case side1 => repeat (first | exact (Kd.C_below HR0_0.out HB.out) | (with_reducible refine Kd.C_alloc ?_ _) | (with_reducible refine Kd.C_drewN ?_ _) | (with_reducible refine Kd.C_drew ?_))); (case side2 => exact HC0_0.out); (case side3 => repeat (first | exact (Kd.C_below HR0_1.out HB.out) | (with_reducible refine Kd.C_alloc ?_ _) | (with_reducible refine Kd.C_drewN ?_ _) | (with_reducible refine Kd.C_drew ?_))); (case side4 => exact HC0_1.out); (case side5 => repeat (first | exact (Kd.C_below HR0_2.out HB.out) | (with_reducible refine Kd.C_alloc ?_ _) | (with_reducible refine Kd.C_drewN ?_ _) | (with_reducible refine Kd.C_drew ?_))); (case side6 => exact HC0_2.out); (case side7 => repeat (first | exact (Kd.C_below HR0_3.out HB.out) | (with_reducible refine Kd.C_alloc ?_ _) | (with_reducible refine Kd.C_drewN ?_ _) | (with_reducible refine Kd.C_drew ?_))); (case side8 => exact HC0_3.out); rintro e w9 ⟨rfl, hb⟩; refine ⟨_, rfl, ?_⟩; have n0_ := Aside0.mk (blk_below (g := gb227) (o := .cells #[.slice A0_0 l0_0.length c0_0, .slice A0_1 l0_1.length c0_1, .slice A0_2 l0_2.length c0_2, .slice A0_3 l0_3.length c0_3] 44 (0, 0)) (by (with_reducible repeat (first | refine blk_drewN ?_ _ | refine blk_drew ?_ | refine blk_alloc ?_ _)); exact BK227.out) hb); have n1_ := Aside0.mk (below_step (by repeat (first | (with_reducible first | exact HB.out | apply below_alloc | apply pw_below_drewN | apply below_drew1 | refine below_set ?_ GE227.out) | exact HB.out)) hb); clear BK227; clear HB; have BK227 := n0_; have HB := n1_; clear n0_ n1_; (try clear hb); (try clear hk); (try clear hi)))
  go_loopg [3] k (fun kq v3 w' => ∃ (x3_1 : Int), v3 = .int .i64 x3_1 ∧ Aside0 (thresherlaw8_EvalRuns.l0 kq x3_1 l0_0 l0_1 l0_2 l0_3 = some r) ∧ Aside0 (kq ≤ k) ∧ Aside0 (w'.heap[gb227]? = some (.cells #[(.slice A0_0 l0_0.length c0_0), (.slice A0_1 l0_1.length c0_1), (.slice A0_2 l0_2.length c0_2), (.slice A0_3 l0_3.length c0_3)] 44 (0, 0))) ∧ Aside0 (Below w.heap.size w w'))
  case atStart => exact ⟨(0), (by first | rfl | (simp; done) | (simp [*]; done)), H', ⟨Nat.le_refl _⟩, ⟨by (with_reducible repeat (first | refine blk_drewN ?_ _ | refine blk_drew ?_ | refine blk_alloc ?_ _)); exact BK227.out⟩, ⟨by repeat (first | (with_reducible first | exact HB.out | apply below_alloc | apply pw_below_drewN | apply below_drew1 | refine below_set ?_ GE227.out) | exact HB.out)⟩⟩
  case round =>
   clear H'
   (try clear c2); (try clear p2); (try clear c3); (try clear c5); (try clear hcz5_0); (try clear hcz5_1); (try clear hcz5_2); (try clear hcz5_3); (try clear hcz8_0); (try clear hcz8_1); (try clear hcz8_2); (try clear hcz8_3)
   (try clear hfz5_0); (try clear hfz5_1); (try clear hfz5_2); (try clear hfz5_3); (try clear hfz8_0); (try clear hfz8_1); (try clear hfz8_2); (try clear hfz8_3)
   obtain ⟨x3_1, rfl, HA, HK1, BK227, HB⟩ := hrel
   cases gk with
   | zero => exact absurd HA.out (by simp [thresherlaw8_EvalRuns.l0])
   | succ k1 =>
    have H := HA.out
    clear HA
    simp only [thresherlaw8_EvalRuns.l0] at H
    have HC10 := Aside0.mk H
    clear H; go_upto_region 4 with (fail)
    go_cut [18] (fun v18 wc => ∃ (kq : Nat) (x18_9 : Bool), v18 = .bool x18_9 ∧ Aside0 (thresherlaw8_EvalRuns.j1 kq x3_1 x18_9 l0_0 l0_1 l0_2 l0_3 = some r) ∧ Aside0 (kq ≤ k1) ∧ Aside0 (wc.heap[gb227]? = some (.cells #[(.slice A0_0 l0_0.length c0_0), (.slice A0_1 l0_1.length c0_1), (.slice A0_2 l0_2.length c0_2), (.slice A0_3 l0_3.length c0_3)] 44 (0, 0))) ∧ Aside0 (Below w.heap.size w wc))
    case first =>
     have H := HC10.out
     clear HC10
     by_cases c11 : x3_1 < (l0_0.length : Int)
     ·
      rw [if_pos c11] at H
      have c11b0 : decide (x3_1 < (l0_0.length : Int)) = true := decide_eq_true c11
      clear c11
      (first | rw [c11b0] | (simp only [i64_w, i32_w]; rw [c11b0]) | skip)
      have H' := Aside0.mk H
      clear H; have hcz12_0 : wr.cell? ⟨gb227, 0, none⟩ = some (.slice A0_0 l0_0.length c0_0) := (blk_cell BK227.out 0).trans rfl
      have hcz12_1 : wr.cell? ⟨gb227, 1, none⟩ = some (.slice A0_1 l0_1.length c0_1) := (blk_cell BK227.out 1).trans rfl
      have hcz12_2 : wr.cell? ⟨gb227, 2, none⟩ = some (.slice A0_2 l0_2.length c0_2) := (blk_cell BK227.out 2).trans rfl
      have hcz12_3 : wr.cell? ⟨gb227, 3, none⟩ = some (.slice A0_3 l0_3.length c0_3) := (blk_cell BK227.out 3).trans rfl
      have hfz12_0 := blk_frozen BK227.out 0
      have hfz12_1 := blk_frozen BK227.out 1
      have hfz12_2 := blk_frozen BK227.out 2
      have hfz12_3 := blk_frozen BK227.out 3
      go_wp2
      go_meet
      case rel => exact ⟨_, (decide (x3_1 < 8)), (by first | rfl | (simp; done) | (simp [*]; done)), H', ⟨by have := HK1.out; first | omega | exact Nat.le_refl _⟩, ⟨by (with_reducible repeat (first | refine blk_drewN ?_ _ | refine blk_drew ?_ | refine blk_alloc ?_ _)); exact BK227.out⟩, ⟨by repeat (first | (with_reducible first | exact HB.out | apply below_alloc | apply pw_below_drewN | apply below_drew1 | refine below_set ?_ GE227.out) | exact HB.out)⟩⟩
     ·
      rw [if_neg c11] at H
      have c11b0 : decide (x3_1 < (l0_0.length : Int)) = false := decide_eq_false c11
      clear c11
      (first | rw [c11b0] | (simp only [i64_w, i32_w]; rw [c11b0]) | skip)
      have H' := Aside0.mk H
      clear H; have hcz13_0 : wr.cell? ⟨gb227, 0, none⟩ = some (.slice A0_0 l0_0.length c0_0) := (blk_cell BK227.out 0).trans rfl
      have hcz13_1 : wr.cell? ⟨gb227, 1, none⟩ = some (.slice A0_1 l0_1.length c0_1) := (blk_cell BK227.out 1).trans rfl
      have hcz13_2 : wr.cell? ⟨gb227, 2, none⟩ = some (.slice A0_2 l0_2.length c0_2) := (blk_cell BK227.out 2).trans rfl
      have hcz13_3 : wr.cell? ⟨gb227, 3, none⟩ = some (.slice A0_3 l0_3.length c0_3) := (blk_cell BK227.out 3).trans rfl
      have hfz13_0 := blk_frozen BK227.out 0
      have hfz13_1 := blk_frozen BK227.out 1
      have hfz13_2 := blk_frozen BK227.out 2
      have hfz13_3 := blk_frozen BK227.out 3
      go_wp2
      go_meet
      case rel => exact ⟨_, (false), (by first | rfl | (simp; done) | (simp [*]; done)), H', ⟨by have := HK1.out; first | omega | exact Nat.le_refl _⟩, ⟨by (with_reducible repeat (first | refine blk_drewN ?_ _ | refine blk_drew ?_ | refine blk_alloc ?_ _)); exact BK227.out⟩, ⟨by repeat (first | (with_reducible first | exact HB.out | apply below_alloc | apply pw_below_drewN | apply below_drew1 | refine below_set ?_ GE227.out) | exact HB.out)⟩⟩
    case rest =>
     clear HC10
     (try clear c1); (try clear c2); (try clear p2); (try clear c3); (try clear c5); (try clear c11); (try clear c11b0); (try clear hcz12_0); (try clear hcz12_1); (try clear hcz12_2); (try clear hcz12_3); (try clear hcz13_0)
     (try clear hcz13_1); (try clear hcz13_2); (try clear hcz13_3); (try clear hcz5_0); (try clear hcz5_1); (try clear hcz5_2); (try clear hcz5_3); (try clear hcz8_0); (try clear hcz8_1); (try clear hcz8_2); (try clear hcz8_3); (try clear hfz12_0)
     (try clear hfz12_1); (try clear hfz12_2); (try clear hfz12_3); (try clear hfz13_0); (try clear hfz13_1); (try clear hfz13_2); (try clear hfz13_3); (try clear hfz5_0); (try clear hfz5_1); (try clear hfz5_2); (try clear hfz5_3); (try clear hfz8_0)
     (try clear hfz8_1); (try clear hfz8_2); (try clear hfz8_3); (try clear p2)
     obtain ⟨kq, x18_9, rfl, HA, HJ9, BK227, HB⟩ := hcut
     cases kq with
     | zero => exact absurd HA.out (by simp [thresherlaw8_EvalRuns.j1])
     | succ kj9 =>
      have H := HA.out
      clear HA
      simp only [thresherlaw8_EvalRuns.j1] at H
      by_cases c14 : x18_9 = true
      ·
       subst c14
       have H1 : (if 0 ≤ x3_1 then (if x3_1 < (l0_0.length : Int) then ((thresherref6_Parse.f kj9 (rdOf ByteArray.empty l0_0 x3_1)).bind fun bt231 => (if bt231.2 = 0 then (thresherlaw8_EvalRuns.l2 kj9 x3_1 bt231.1 0 l0_0 l0_1 l0_2 l0_3) else (thresherlaw8_EvalRuns.l2 kj9 x3_1 l0_1 0 l0_0 l0_1 l0_2 l0_3))) else (none)) else (none)) = some r := by rw [if_pos rfl] at H; exact H
       clear H; have H := H1
       clear H1
       by_cases c15 : 0 ≤ x3_1
       ·
        rw [if_pos c15] at H
        have c15b0 : decide (0 ≤ x3_1) = true := decide_eq_true c15
        clear c15
        by_cases c16 : x3_1 < (l0_0.length : Int)
        ·
         rw [if_pos c16] at H
         have c16b0 : decide (x3_1 < (l0_0.length : Int)) = true := decide_eq_true c16
         clear c16
         replace H := Option.bind_eq_some_iff.mp H
         obtain ⟨⟨t231, t232⟩, A170, H⟩ := H
         replace H : (if t232 = 0 then (thresherlaw8_EvalRuns.l2 kj9 x3_1 t231 0 l0_0 l0_1 l0_2 l0_3) else (thresherlaw8_EvalRuns.l2 kj9 x3_1 l0_1 0 l0_0 l0_1 l0_2 l0_3)) = some r := H
         have A17 := Aside0.mk A170
         clear A170
         have H18 := Aside0.mk H
         clear H; have hcz19_0 : wc.cell? ⟨gb227, 0, none⟩ = some (.slice A0_0 l0_0.length c0_0) := (blk_cell BK227.out 0).trans rfl
         have hcz19_1 : wc.cell? ⟨gb227, 1, none⟩ = some (.slice A0_1 l0_1.length c0_1) := (blk_cell BK227.out 1).trans rfl
         have hcz19_2 : wc.cell? ⟨gb227, 2, none⟩ = some (.slice A0_2 l0_2.length c0_2) := (blk_cell BK227.out 2).trans rfl
         have hcz19_3 : wc.cell? ⟨gb227, 3, none⟩ = some (.slice A0_3 l0_3.length c0_3) := (blk_cell BK227.out 3).trans rfl
         have hfz19_0 := blk_frozen BK227.out 0
         have hfz19_1 := blk_frozen BK227.out 1
         have hfz19_2 := blk_frozen BK227.out 2
         have hfz19_3 := blk_frozen BK227.out 3
         have p230 : 0 ≤ (x3_1 : Int) := of_decide_eq_true (by first | (with_reducible assumption) | assumption)
         have q230 : x3_1 < (l0_0.length : Int) := of_decide_eq_true (by first | (with_reducible assumption) | assumption)
         obtain ⟨ad230, e230, hx230_0⟩ := Kd.at_string HR0_0.out x3_1 p230 q230
         cases e230
         replace hx230_0 := (HB.out.cell (World.block_lt_of_cell? w _ hx230_0)).trans hx230_0
         replace p230 := eq_true p230
         replace q230 := eq_true q230
         go_upto_if 32 with (first | ((with_reducible refine gate_callee (f := 21) rfl ?_); refine goesL_ (some 28) rfl rfl Try.func21 (by kernel_rfl) rfl #[.string (rdOf ByteArray.empty l0_0 x3_1)] rfl (by (try simp only [List.map_toArray, List.map_cons, List.map_nil]); first | done | rfl | (simp only [List.length_drop, List.length_take]; rfl)) ?_; (with_reducible refine (thresherref6_Parse.calls kj9 (rdOf ByteArray.empty l0_0 x3_1) t231 t232 _ A17.out).mono ?_); rintro e w20 ⟨v233, rfl, ho0, hb⟩; refine ⟨_, rfl, ?_⟩; have n0_ := Aside0.mk (Kd.R_lower ho0 (below_size (by repeat (first | (with_reducible first | exact HB.out | apply below_alloc | apply pw_below_drewN | apply below_drew1 | refine below_set ?_ GE227.out) | exact HB.out)))); have n1_ := Aside0.mk (blk_below (g := gb227) (o := .cells #[.slice (some ad230) l0_0.length c0_0, .slice A0_1 l0_1.length c0_1, .slice A0_2 l0_2.length c0_2, .slice A0_3 l0_3.length c0_3] 44 (0, 0)) (by (with_reducible repeat (first | refine blk_drewN ?_ _ | refine blk_drew ?_ | refine blk_alloc ?_ _)); exact BK227.out) hb); have n2_ := Aside0.mk (below_step (by repeat (first | (with_reducible first | exact HB.out | apply below_alloc | apply pw_below_drewN | apply below_drew1 | refine below_set ?_ GE227.out) | exact HB.out)) hb); clear BK227; clear HB; have HO234 := n0_; have BK227 := n1_; have HB := n2_; clear n0_ n1_ n2_; (try clear hb); (try clear ho0)))
         (try simp only [Act.put, q1_5, q2_5, q3_5])
         go_cut [4] (fun v4 wc => ∃ (kq : Nat) (x4_ : List S34), Aside0 (thresherlaw8_EvalRuns.l2 kq x3_1 x4_ 0 l0_0 l0_1 l0_2 l0_3 = some r) ∧ Aside0 (kq ≤ kj9) ∧ Aside0 (RC k34 wc v4 x4_) ∧ Aside0 (wc.heap[gb227]? = some (.cells #[(.slice (some ad230) l0_0.length c0_0), (.slice A0_1 l0_1.length c0_1), (.slice A0_2 l0_2.length c0_2), (.slice A0_3 l0_3.length c0_3)] 44 (0, 0))) ∧ Aside0 (Below w.heap.size w wc))
         case first =>
          have H := H18.out
          clear H18
          by_cases c18 : t232 = 0
          ·
           rw [if_pos c18] at H
           have c18b0 : (t232 == 0) = true := beq_iff_eq.mpr c18
           have c18b1 : (t232 != 0) = false := bne_eq_false_iff_eq.mpr c18
           clear c18
           have H' := Aside0.mk H
           clear H; go_wp2
           go_meet
           case rel => exact ⟨kj9, t231, H', ⟨Nat.le_refl _⟩, ⟨RC.of_R HO234.out⟩, ⟨by (with_reducible repeat (first | refine blk_drewN ?_ _ | refine blk_drew ?_ | refine blk_alloc ?_ _)); exact BK227.out⟩, ⟨by repeat (first | (with_reducible first | exact HB.out | apply below_alloc | apply pw_below_drewN | apply below_drew1 | refine below_set ?_ GE227.out) | exact HB.out)⟩⟩
          ·
           rw [if_neg c18] at H
           have c18b0 : (t232 == 0) = false := beq_eq_false_iff_ne.mpr c18
           have c18b1 : (t232 != 0) = true := bne_iff_ne.mpr c18
           have H' := Aside0.mk H
           clear H; have hcz48_0 : w20.cell? ⟨gb227, 0, none⟩ = some (.slice (some ad230) l0_0.length c0_0) := (blk_cell BK227.out 0).trans rfl
           have hcz48_1 : w20.cell? ⟨gb227, 1, none⟩ = some (.slice A0_1 l0_1.length c0_1) := (blk_cell BK227.out 1).trans rfl
           have hcz48_2 : w20.cell? ⟨gb227, 2, none⟩ = some (.slice A0_2 l0_2.length c0_2) := (blk_cell BK227.out 2).trans rfl
           have hcz48_3 : w20.cell? ⟨gb227, 3, none⟩ = some (.slice A0_3 l0_3.length c0_3) := (blk_cell BK227.out 3).trans rfl
           have hfz48_0 := blk_frozen BK227.out 0
           have hfz48_1 := blk_frozen BK227.out 1
           have hfz48_2 := blk_frozen BK227.out 2
           have hfz48_3 := blk_frozen BK227.out 3
           go_wp2
           go_meet
           case rel => exact ⟨kj9, l0_1, H', ⟨Nat.le_refl _⟩, ⟨RC.of_C (Kd.C_below HR0_1.out HB.out) HC0_1.out⟩, ⟨by (with_reducible repeat (first | refine blk_drewN ?_ _ | refine blk_drew ?_ | refine blk_alloc ?_ _)); exact BK227.out⟩, ⟨by repeat (first | (with_reducible first | exact HB.out | apply below_alloc | apply pw_below_drewN | apply below_drew1 | refine below_set ?_ GE227.out) | exact HB.out)⟩⟩
         case rest =>
          clear H18
          (try clear hcz19_0); (try clear hcz19_1); (try clear hcz19_2); (try clear hcz19_3); (try clear hfz19_0); (try clear hfz19_1); (try clear hfz19_2); (try clear hfz19_3); (try clear hx230_0); (try clear p230); (try clear q230); (try clear HO234)
          (try clear A17)
          obtain ⟨kq9, x4_, H', HJq, HO_4, BK227, HB⟩ := hcut
          replace HJ9 : Aside0 (kq9 + 1 ≤ k1) := ⟨by have := HJq.out; have := HJ9.out; omega⟩
          clear HJq
          go_wp2
          go_loopg [6] kq9 (fun kq v6 w' => ∃ (x6_3 : Int), v6 = .int .i64 x6_3 ∧ Aside0 (thresherlaw8_EvalRuns.l2 kq x3_1 x4_ x6_3 l0_0 l0_1 l0_2 l0_3 = some r) ∧ Aside0 (kq ≤ kq9) ∧ Aside0 (RC k34 w' u4 x4_) ∧ Aside0 (w'.heap[gb227]? = some (.cells #[(.slice (some ad230) l0_0.length c0_0), (.slice A0_1 l0_1.length c0_1), (.slice A0_2 l0_2.length c0_2), (.slice A0_3 l0_3.length c0_3)] 44 (0, 0))) ∧ Aside0 (Below w.heap.size w w'))
          case atStart => exact ⟨(0), (by first | rfl | (simp; done) | (simp [*]; done)), H', ⟨Nat.le_refl _⟩, ⟨by (with_reducible repeat (first | apply RC_drewN | apply RC_drew)); exact HO_4.out⟩, ⟨by (with_reducible repeat (first | refine blk_drewN ?_ _ | refine blk_drew ?_ | refine blk_alloc ?_ _)); exact BK227.out⟩, ⟨by repeat (first | (with_reducible first | exact HB.out | apply below_alloc | apply pw_below_drewN | apply below_drew1 | refine below_set ?_ GE227.out) | exact HB.out)⟩⟩
          case round =>
           clear H'
           (try clear c1); (try clear c2); (try clear p2); (try clear q2); (try clear hx2); (try clear c3); (try clear c5); (try clear c11); (try clear c11b0); (try clear c14); (try clear c15); (try clear c15b0)
           (try clear c16); (try clear c16b0); (try clear c18); (try clear c18b0); (try clear c18b1); (try clear hcz12_0); (try clear hcz12_1); (try clear hcz12_2); (try clear hcz12_3); (try clear hcz13_0); (try clear hcz13_1); (try clear hcz13_2)
           (try clear hcz13_3); (try clear hcz19_0); (try clear hcz19_1); (try clear hcz19_2); (try clear hcz19_3); (try clear hcz5_0); (try clear hcz5_1); (try clear hcz5_2); (try clear hcz5_3); (try clear hcz8_0); (try clear hcz8_1); (try clear hcz8_2)
           (try clear hcz8_3); (try clear hfz12_0); (try clear hfz12_1); (try clear hfz12_2); (try clear hfz12_3); (try clear hfz13_0); (try clear hfz13_1); (try clear hfz13_2); (try clear hfz13_3); (try clear hfz19_0); (try clear hfz19_1); (try clear hfz19_2)
           (try clear hfz19_3); (try clear hfz5_0); (try clear hfz5_1); (try clear hfz5_2); (try clear hfz5_3); (try clear hfz8_0); (try clear hfz8_1); (try clear hfz8_2); (try clear hfz8_3); (try clear hx230_0); (try clear p2); (try clear p230)
           (try clear q230)
           obtain ⟨x6_3, rfl, HA, HK3, HO_4, BK227, HB⟩ := hrel
           cases gk with
           | zero => exact absurd HA.out (by simp [thresherlaw8_EvalRuns.l2])
           | succ k3 =>
            have H := HA.out
            clear HA
            simp only [thresherlaw8_EvalRuns.l2] at H
            have HC21 := Aside0.mk H
            clear H; go_upto_region 10 with (fail)
            go_cut [51] (fun v51 wc => ∃ (kq : Nat) (x51_20 : Bool), v51 = .bool x51_20 ∧ Aside0 (thresherlaw8_EvalRuns.j3 kq x3_1 x4_ x6_3 x51_20 l0_0 l0_1 l0_2 l0_3 = some r) ∧ Aside0 (kq ≤ k3) ∧ Aside0 (RC k34 wc u4 x4_) ∧ Aside0 (wc.heap[gb227]? = some (.cells #[(.slice (some ad230) l0_0.length c0_0), (.slice A0_1 l0_1.length c0_1), (.slice A0_2 l0_2.length c0_2), (.slice A0_3 l0_3.length c0_3)] 44 (0, 0))) ∧ Aside0 (Below w.heap.size w wc))
            case first =>
             have H := HC21.out
             clear HC21
             by_cases c22 : x6_3 < (l0_2.length : Int)
             ·
              rw [if_pos c22] at H
              have c22b0 : decide (x6_3 < (l0_2.length : Int)) = true := decide_eq_true c22
              clear c22
              (first | rw [c22b0] | (simp only [i64_w, i32_w]; rw [c22b0]) | skip)
              by_cases c23 : x6_3 < (l0_3.length : Int)
              ·
               rw [if_pos c23] at H
               have c23b0 : decide (x6_3 < (l0_3.length : Int)) = true := decide_eq_true c23
               clear c23
               have H' := Aside0.mk H
               clear H; have hcz24_0 : wr.cell? ⟨gb227, 0, none⟩ = some (.slice (some ad230) l0_0.length c0_0) := (blk_cell BK227.out 0).trans rfl
               have hcz24_1 : wr.cell? ⟨gb227, 1, none⟩ = some (.slice A0_1 l0_1.length c0_1) := (blk_cell BK227.out 1).trans rfl
               have hcz24_2 : wr.cell? ⟨gb227, 2, none⟩ = some (.slice A0_2 l0_2.length c0_2) := (blk_cell BK227.out 2).trans rfl
               have hcz24_3 : wr.cell? ⟨gb227, 3, none⟩ = some (.slice A0_3 l0_3.length c0_3) := (blk_cell BK227.out 3).trans rfl
               have hfz24_0 := blk_frozen BK227.out 0
               have hfz24_1 := blk_frozen BK227.out 1
               have hfz24_2 := blk_frozen BK227.out 2
               have hfz24_3 := blk_frozen BK227.out 3
               go_wp2
               go_meet
               case rel => exact ⟨_, (decide (x6_3 < 8)), (by first | rfl | (simp; done) | (simp [*]; done)), H', ⟨by have := HK1.out; have := HJ9.out; have := HK3.out; first | omega | exact Nat.le_refl _⟩, ⟨by (with_reducible repeat (first | apply RC_drewN | apply RC_drew)); exact HO_4.out⟩, ⟨by (with_reducible repeat (first | refine blk_drewN ?_ _ | refine blk_drew ?_ | refine blk_alloc ?_ _)); exact BK227.out⟩, ⟨by repeat (first | (with_reducible first | exact HB.out | apply below_alloc | apply pw_below_drewN | apply below_drew1 | refine below_set ?_ GE227.out) | exact HB.out)⟩⟩
              ·
               rw [if_neg c23] at H
               have c23b0 : decide (x6_3 < (l0_3.length : Int)) = false := decide_eq_false c23
               clear c23
               have H' := Aside0.mk H
               clear H; have hcz25_0 : wr.cell? ⟨gb227, 0, none⟩ = some (.slice (some ad230) l0_0.length c0_0) := (blk_cell BK227.out 0).trans rfl
               have hcz25_1 : wr.cell? ⟨gb227, 1, none⟩ = some (.slice A0_1 l0_1.length c0_1) := (blk_cell BK227.out 1).trans rfl
               have hcz25_2 : wr.cell? ⟨gb227, 2, none⟩ = some (.slice A0_2 l0_2.length c0_2) := (blk_cell BK227.out 2).trans rfl
               have hcz25_3 : wr.cell? ⟨gb227, 3, none⟩ = some (.slice A0_3 l0_3.length c0_3) := (blk_cell BK227.out 3).trans rfl
               have hfz25_0 := blk_frozen BK227.out 0
               have hfz25_1 := blk_frozen BK227.out 1
               have hfz25_2 := blk_frozen BK227.out 2
               have hfz25_3 := blk_frozen BK227.out 3
               go_wp2
               go_meet
               case rel => exact ⟨_, (false), (by first | rfl | (simp; done) | (simp [*]; done)), H', ⟨by have := HK1.out; have := HJ9.out; have := HK3.out; first | omega | exact Nat.le_refl _⟩, ⟨by (with_reducible repeat (first | apply RC_drewN | apply RC_drew)); exact HO_4.out⟩, ⟨by (with_reducible repeat (first | refine blk_drewN ?_ _ | refine blk_drew ?_ | refine blk_alloc ?_ _)); exact BK227.out⟩, ⟨by repeat (first | (with_reducible first | exact HB.out | apply below_alloc | apply pw_below_drewN | apply below_drew1 | refine below_set ?_ GE227.out) | exact HB.out)⟩⟩
             ·
              rw [if_neg c22] at H
              have c22b0 : decide (x6_3 < (l0_2.length : Int)) = false := decide_eq_false c22
              clear c22
              (first | rw [c22b0] | (simp only [i64_w, i32_w]; rw [c22b0]) | skip)
              have H' := Aside0.mk H
              clear H; have hcz26_0 : wr.cell? ⟨gb227, 0, none⟩ = some (.slice (some ad230) l0_0.length c0_0) := (blk_cell BK227.out 0).trans rfl
              have hcz26_1 : wr.cell? ⟨gb227, 1, none⟩ = some (.slice A0_1 l0_1.length c0_1) := (blk_cell BK227.out 1).trans rfl
              have hcz26_2 : wr.cell? ⟨gb227, 2, none⟩ = some (.slice A0_2 l0_2.length c0_2) := (blk_cell BK227.out 2).trans rfl
              have hcz26_3 : wr.cell? ⟨gb227, 3, none⟩ = some (.slice A0_3 l0_3.length c0_3) := (blk_cell BK227.out 3).trans rfl
              have hfz26_0 := blk_frozen BK227.out 0
              have hfz26_1 := blk_frozen BK227.out 1
              have hfz26_2 := blk_frozen BK227.out 2
              have hfz26_3 := blk_frozen BK227.out 3
              go_wp2
              go_meet
              case rel => exact ⟨_, (false), (by first | rfl | (simp; done) | (simp [*]; done)), H', ⟨by have := HK1.out; have := HJ9.out; have := HK3.out; first | omega | exact Nat.le_refl _⟩, ⟨by (with_reducible repeat (first | apply RC_drewN | apply RC_drew)); exact HO_4.out⟩, ⟨by (with_reducible repeat (first | refine blk_drewN ?_ _ | refine blk_drew ?_ | refine blk_alloc ?_ _)); exact BK227.out⟩, ⟨by repeat (first | (with_reducible first | exact HB.out | apply below_alloc | apply pw_below_drewN | apply below_drew1 | refine below_set ?_ GE227.out) | exact HB.out)⟩⟩
            case rest =>
             clear HC21
             (try clear c1); (try clear c2); (try clear p2); (try clear q2); (try clear hx2); (try clear c3); (try clear c5); (try clear c11); (try clear c11b0); (try clear c14); (try clear c15); (try clear c15b0)
             (try clear c16); (try clear c16b0); (try clear c18); (try clear c18b0); (try clear c18b1); (try clear c21); (try clear c22); (try clear c22b0); (try clear c23); (try clear c23b0); (try clear p23); (try clear q23)
             (try clear hx23); (try clear hcz12_0); (try clear hcz12_1); (try clear hcz12_2); (try clear hcz12_3); (try clear hcz13_0); (try clear hcz13_1); (try clear hcz13_2); (try clear hcz13_3); (try clear hcz19_0); (try clear hcz19_1); (try clear hcz19_2)
             (try clear hcz19_3); (try clear hcz24_0); (try clear hcz24_1); (try clear hcz24_2); (try clear hcz24_3); (try clear hcz25_0); (try clear hcz25_1); (try clear hcz25_2); (try clear hcz25_3); (try clear hcz26_0); (try clear hcz26_1); (try clear hcz26_2)
             (try clear hcz26_3); (try clear hcz5_0); (try clear hcz5_1); (try clear hcz5_2); (try clear hcz5_3); (try clear hcz8_0); (try clear hcz8_1); (try clear hcz8_2); (try clear hcz8_3); (try clear hfz12_0); (try clear hfz12_1); (try clear hfz12_2)
             (try clear hfz12_3); (try clear hfz13_0); (try clear hfz13_1); (try clear hfz13_2); (try clear hfz13_3); (try clear hfz19_0); (try clear hfz19_1); (try clear hfz19_2); (try clear hfz19_3); (try clear hfz24_0); (try clear hfz24_1); (try clear hfz24_2)
             (try clear hfz24_3); (try clear hfz25_0); (try clear hfz25_1); (try clear hfz25_2); (try clear hfz25_3); (try clear hfz26_0); (try clear hfz26_1); (try clear hfz26_2); (try clear hfz26_3); (try clear hfz5_0); (try clear hfz5_1); (try clear hfz5_2)
             (try clear hfz5_3); (try clear hfz8_0); (try clear hfz8_1); (try clear hfz8_2); (try clear hfz8_3); (try clear hx230_0); (try clear p2); (try clear p230); (try clear q2); (try clear q230)
             obtain ⟨kq, x51_20, rfl, HA, HJ20, HO_4, BK227, HB⟩ := hcut
             cases kq with
             | zero => exact absurd HA.out (by simp [thresherlaw8_EvalRuns.j3])
             | succ kj20 =>
              have H := HA.out
              clear HA
              simp only [thresherlaw8_EvalRuns.j3] at H
              by_cases c27 : x51_20 = true
              ·
               subst c27
               have H1 : (if 0 ≤ x6_3 then (if x6_3 < (l0_2.length : Int) then (if x6_3 < (l0_3.length : Int) then ((thresherlaw8_run.f kj20 x4_ ((rd_T50 l0_2 x6_3).f0.f0) ((rd_T50 l0_2 x6_3).f0.f1) ((rd_T50 l0_2 x6_3).f1) (rd l0_3 x6_3)).bind fun t237 => (if t237 = true then ((thresherlaw8_run.f kj20 l0_1 ((rd_T50 l0_2 x6_3).f0.f0) ((rd_T50 l0_2 x6_3).f0.f1) ((rd_T50 l0_2 x6_3).f1) (rd l0_3 x6_3)).bind fun t240 => (if t240 = true then (thresherlaw8_EvalRuns.l2 kj20 x3_1 x4_ (wrap64 (x6_3 + 1)) l0_0 l0_1 l0_2 l0_3) else (some false))) else (some false))) else (none)) else (none)) else (none)) = some r := by rw [if_pos rfl] at H; exact H
               clear H; have H := H1
               clear H1
               by_cases c28 : 0 ≤ x6_3
               ·
                rw [if_pos c28] at H
                have c28b0 : decide (0 ≤ x6_3) = true := decide_eq_true c28
                clear c28
                by_cases c29 : x6_3 < (l0_2.length : Int)
                ·
                 rw [if_pos c29] at H
                 have c29b0 : decide (x6_3 < (l0_2.length : Int)) = true := decide_eq_true c29
                 clear c29
                 by_cases c30 : x6_3 < (l0_3.length : Int)
                 ·
                  rw [if_pos c30] at H
                  have c30b0 : decide (x6_3 < (l0_3.length : Int)) = true := decide_eq_true c30
                  clear c30
                  replace H := Option.bind_eq_some_iff.mp H
                  obtain ⟨t237, A310, H⟩ := H
                  replace H : (if t237 = true then ((thresherlaw8_run.f kj20 l0_1 ((rd_T50 l0_2 x6_3).f0.f0) ((rd_T50 l0_2 x6_3).f0.f1) ((rd_T50 l0_2 x6_3).f1) (rd l0_3 x6_3)).bind fun t240 => (if t240 = true then (thresherlaw8_EvalRuns.l2 kj20 x3_1 x4_ (wrap64 (x6_3 + 1)) l0_0 l0_1 l0_2 l0_3) else (some false))) else (some false)) = some r := H
                  have A31 := Aside0.mk A310
                  clear A310
                  by_cases c32 : t237 = true
                  ·
                   subst c32
                   have H1 : ((thresherlaw8_run.f kj20 l0_1 ((rd_T50 l0_2 x6_3).f0.f0) ((rd_T50 l0_2 x6_3).f0.f1) ((rd_T50 l0_2 x6_3).f1) (rd l0_3 x6_3)).bind fun t240 => (if t240 = true then (thresherlaw8_EvalRuns.l2 kj20 x3_1 x4_ (wrap64 (x6_3 + 1)) l0_0 l0_1 l0_2 l0_3) else (some false))) = some r := by rw [if_pos rfl] at H; exact H
                   clear H; have H := H1
                   clear H1
                   replace H := Option.bind_eq_some_iff.mp H
                   obtain ⟨t240, A330, H⟩ := H
                   replace H : (if t240 = true then (thresherlaw8_EvalRuns.l2 kj20 x3_1 x4_ (wrap64 (x6_3 + 1)) l0_0 l0_1 l0_2 l0_3) else (some false)) = some r := H
                   have A33 := Aside0.mk A330
                   clear A330
                   by_cases c34 : t240 = true
                   ·
                    subst c34
                    have H1 : (thresherlaw8_EvalRuns.l2 kj20 x3_1 x4_ (wrap64 (x6_3 + 1)) l0_0 l0_1 l0_2 l0_3) = some r := by rw [if_pos rfl] at H; exact H
                    clear H; have H := H1
                    clear H1
                    have H' := Aside0.mk H
                    clear H; try go_wp2
                    have n0_ := Aside0.mk (RC_drew HO_4.out)
                    have n1_ := Aside0.mk (blk_drew BK227.out)
                    have n2_ := Aside0.mk (below_drew1 HB.out)
                    clear HO_4
                    clear BK227
                    clear HB
                    have HO_4 := n0_
                    have BK227 := n1_
                    have HB := n2_
                    clear n0_ n1_ n2_
                    have p235 : 0 ≤ (x6_3 : Int) := of_decide_eq_true (by first | (with_reducible assumption) | assumption)
                    have q235 : x6_3 < (l0_2.length : Int) := of_decide_eq_true (by first | (with_reducible assumption) | assumption)
                    obtain ⟨ad235, e235, hx235_0, hx235_1, hx235_2⟩ := at_T50 HR0_2.out x6_3 p235 q235
                    have hw235_2 := hx235_2
                    have hw235_1 := hx235_1
                    have hw235_0 := hx235_0
                    cases e235
                    replace hx235_0 := (HB.out.cell (World.block_lt_of_cell? w _ hx235_0)).trans hx235_0
                    replace hx235_1 := (HB.out.cell (World.block_lt_of_cell? w _ hx235_1)).trans hx235_1
                    replace hx235_2 := (HB.out.cell (World.block_lt_of_cell? w _ hx235_2)).trans hx235_2
                    replace p235 := eq_true p235
                    replace q235 := eq_true q235
                    have p236 : 0 ≤ (x6_3 : Int) := of_decide_eq_true (by first | (with_reducible assumption) | assumption)
                    have q236 : x6_3 < (l0_3.length : Int) := of_decide_eq_true (by first | (with_reducible assumption) | assumption)
                    obtain ⟨ad236, e236, hx236_0⟩ := Kd.at_int HR0_3.out x6_3 p236 q236
                    have hw236_0 := hx236_0
                    cases e236
                    replace hx236_0 := (HB.out.cell (World.block_lt_of_cell? w _ hx236_0)).trans hx236_0
                    replace p236 := eq_true p236
                    replace q236 := eq_true q236
                    obtain ⟨Ao36, co36, eo36⟩ := RC_slice HO_4.out
                    (first | subst eo36 | (injection eo36 with f1_ f2_ f3_; have f4_ := f1_.symm; have f5_ := f3_.symm; clear f1_ f2_ f3_; subst f4_; subst f5_))
                    have p238 : 0 ≤ (x6_3 : Int) := of_decide_eq_true (by first | (with_reducible assumption) | assumption)
                    have q238 : x6_3 < (l0_2.length : Int) := of_decide_eq_true (by first | (with_reducible assumption) | assumption)
                    obtain ⟨ad238, e238, hx238_0, hx238_1, hx238_2⟩ := at_T50 HR0_2.out x6_3 p238 q238
                    have hw238_2 := hx238_2
                    have hw238_1 := hx238_1
                    have hw238_0 := hx238_0
                    obtain rfl : ad235 = ad238 := (by injection e238)
                    replace hx238_0 := (HB.out.cell (World.block_lt_of_cell? w _ hx238_0)).trans hx238_0
                    replace hx238_1 := (HB.out.cell (World.block_lt_of_cell? w _ hx238_1)).trans hx238_1
                    replace hx238_2 := (HB.out.cell (World.block_lt_of_cell? w _ hx238_2)).trans hx238_2
                    replace p238 := eq_true p238
                    replace q238 := eq_true q238
                    have p239 : 0 ≤ (x6_3 : Int) := of_decide_eq_true (by first | (with_reducible assumption) | assumption)
                    have q239 : x6_3 < (l0_3.length : Int) := of_decide_eq_true (by first | (with_reducible assumption) | assumption)
                    obtain ⟨ad239, e239, hx239_0⟩ := Kd.at_int HR0_3.out x6_3 p239 q239
                    have hw239_0 := hx239_0
                    obtain rfl : ad236 = ad239 := (by injection e239)
                    replace hx239_0 := (HB.out.cell (World.block_lt_of_cell? w _ hx239_0)).trans hx239_0
                    replace p239 := eq_true p239
                    replace q239 := eq_true q239
                    refine start_ (n := 30) (S := fun w' => w'.cell? ⟨gb227, 0, none⟩ = some (.slice (some ad230) l0_0.length c0_0) ∧ w'.cell? ⟨gb227, 1, none⟩ = some (.slice A0_1 l0_1.length c0_1) ∧ w'.cell? ⟨gb227, 2, none⟩ = some (.slice (some ad235) l0_2.length c0_2) ∧ w'.cell? ⟨gb227, 3, none⟩ = some (.slice (some ad236) l0_3.length c0_3) ∧ w'.cell? (ad235.add ((x6_3).toNat * 3)) = some (.int .i64 ((rd_T50 l0_2 x6_3).f0.f0)) ∧ w'.cell? ⟨(ad235.add ((x6_3).toNat * 3)).block, (ad235.add ((x6_3).toNat * 3)).off + 1, none⟩ = some (.string ((rd_T50 l0_2 x6_3).f0.f1)) ∧ w'.cell? ⟨(ad235.add ((x6_3).toNat * 3)).block, (ad235.add ((x6_3).toNat * 3)).off + 2, none⟩ = some (.int .i64 ((rd_T50 l0_2 x6_3).f1)) ∧ w'.cell? (ad236.add (x6_3).toNat) = some (.int .i64 (rd l0_3 x6_3)) ∧ w'.cell? (ad235.add ((x6_3).toNat * 3)) = some (.int .i64 ((rd_T50 l0_2 x6_3).f0.f0)) ∧ w'.cell? ⟨(ad235.add ((x6_3).toNat * 3)).block, (ad235.add ((x6_3).toNat * 3)).off + 1, none⟩ = some (.string ((rd_T50 l0_2 x6_3).f0.f1)) ∧ w'.cell? ⟨(ad235.add ((x6_3).toNat * 3)).block, (ad235.add ((x6_3).toNat * 3)).off + 2, none⟩ = some (.int .i64 ((rd_T50 l0_2 x6_3).f1)) ∧ w'.cell? (ad236.add (x6_3).toNat) = some (.int .i64 (rd l0_3 x6_3))) (ds := []) Z5_0 (by kernel_rfl) rfl rfl ⟨(blk_cell BK227.out 0).trans rfl, (blk_cell BK227.out 1).trans rfl, (blk_cell BK227.out 2).trans rfl, (blk_cell BK227.out 3).trans rfl, ((HB.out.cell (World.block_lt_of_cell? w _ hw235_0)).trans hw235_0), ((HB.out.cell (World.block_lt_of_cell? w _ hw235_1)).trans hw235_1), ((HB.out.cell (World.block_lt_of_cell? w _ hw235_2)).trans hw235_2), ((HB.out.cell (World.block_lt_of_cell? w _ hw236_0)).trans hw236_0), ((HB.out.cell (World.block_lt_of_cell? w _ hw238_0)).trans hw238_0), ((HB.out.cell (World.block_lt_of_cell? w _ hw238_1)).trans hw238_1), ((HB.out.cell (World.block_lt_of_cell? w _ hw238_2)).trans hw238_2), ((HB.out.cell (World.block_lt_of_cell? w _ hw239_0)).trans hw239_0)⟩ (fun hHeld => ?_); refine with_tabW thresherlaw8_EvalRuns.tab12 thresherlaw8_EvalRuns.bits12 (fun HT_ HW_ => ?_)
                    generalize wc.drew = w35 at HO_4 BK227 HB hx235_0 hx235_1 hx235_2 hx236_0 hx238_0 hx238_1 hx238_2 hx239_0 hHeld ⊢
                    refine pure_ (i := 0) (N := some 54) (v := ?_) (a' := ?_) Z5_1 rfl rfl (any_of HT_.out (by kernel_rfl)) (fun _ _ _ h => h) (Or.inl ⟨by rfl, ?_⟩) ?_ ?_
                    rotate_left
                    ·
                     intro w'; go_simp; with_reducible rfl
                    rotate_left
                    ·
                     simp only [Act.put, q1_5, q2_5, q3_5, i64_w, i32_w]; rfl
                    refine pure_ (i := 1) (N := some 55) (v := ?_) (a' := ?_) Z5_2 rfl rfl (any_of HT_.out (by kernel_rfl)) (fun _ _ _ h => h) (Or.inl ⟨by rfl, ?_⟩) ?_ ?_
                    rotate_left
                    ·
                     intro w'; go_simp; with_reducible rfl
                    rotate_left
                    ·
                     simp only [Act.put, q1_5, q2_5, q3_5, i64_w, i32_w]; rfl
                    refine pure_ (i := 3) (N := some 57) (v := ?_) (a' := ?_) Z5_3 rfl rfl (any_of HT_.out (by kernel_rfl)) (fun _ _ _ h => h) (Or.inl ⟨by rfl, ?_⟩) ?_ ?_
                    rotate_left
                    ·
                     intro w'; go_simp; with_reducible rfl
                    rotate_left
                    ·
                     simp only [Act.put, q1_5, q2_5, q3_5, i64_w, i32_w]; rfl
                    refine pure_ (i := 6) (N := some 60) (v := ?_) (a' := ?_) Z5_4 rfl rfl (any_of HT_.out (by kernel_rfl)) (fun _ _ _ h => h) (Or.inl ⟨by rfl, ?_⟩) ?_ ?_
                    rotate_left
                    ·
                     intro w'; go_simp; with_reducible rfl
                    rotate_left
                    ·
                     simp only [Act.put, q1_5, q2_5, q3_5, i64_w, i32_w]; rfl
                    refine pure_ (i := 8) (N := some 62) (v := ?_) (a' := ?_) Z5_5 rfl rfl (any_of HT_.out (by kernel_rfl)) (fun _ _ _ h => h) (Or.inl ⟨by rfl, ?_⟩) ?_ ?_
                    rotate_left
                    ·
                     intro w'; go_simp; with_reducible rfl
                    rotate_left
                    ·
                     simp only [Act.put, q1_5, q2_5, q3_5, i64_w, i32_w]; rfl
                    refine take_ (i := 2) (N := some 56) (v := ?_) (a' := ?_) Z5_6 rfl rfl (take_ofW HT_.out HW_.out (by kernel_rfl)) (fun _ _ _ h => h) (Or.inl ⟨by rfl, ?_⟩) hHeld ?_ ?_
                    rotate_left
                    ·
                     rintro w' ⟨s0, s1, s2, s3, s4, s5, s6, s7, s8, s9, s10, s11⟩
                     go_simp; with_reducible rfl
                    rotate_left
                    ·
                     simp only [Act.put, q1_5, q2_5, q3_5, i64_w, i32_w]; rfl
                    refine pure_ (i := 4) (N := some 58) (v := ?_) (a' := ?_) Z5_7 rfl rfl (any_of HT_.out (by kernel_rfl)) (fun _ _ _ h => h) (Or.inl ⟨by rfl, ?_⟩) ?_ ?_
                    rotate_left
                    ·
                     intro w'; go_simp; with_reducible rfl
                    rotate_left
                    ·
                     simp only [Act.put, q1_5, q2_5, q3_5, i64_w, i32_w]; rfl
                    refine take_ (i := 5) (N := some 59) (v := ?_) (a' := ?_) Z5_8 rfl rfl (take_ofW HT_.out HW_.out (by kernel_rfl)) (fun _ _ _ h => h) (Or.inl ⟨by rfl, ?_⟩) hHeld ?_ ?_
                    rotate_left
                    ·
                     rintro w' ⟨s0, s1, s2, s3, s4, s5, s6, s7, s8, s9, s10, s11⟩
                     go_simp; with_reducible rfl
                    rotate_left
                    ·
                     simp only [Act.put, q1_5, q2_5, q3_5, i64_w, i32_w]; rfl
                    refine take_ (i := 7) (N := some 61) (v := ?_) (a' := ?_) Z5_9 rfl rfl (take_ofW HT_.out HW_.out (by kernel_rfl)) (fun _ _ _ h => h) (Or.inl ⟨by rfl, ?_⟩) hHeld ?_ ?_
                    rotate_left
                    ·
                     rintro w' ⟨s0, s1, s2, s3, s4, s5, s6, s7, s8, s9, s10, s11⟩
                     go_simp; with_reducible rfl
                    rotate_left
                    ·
                     simp only [Act.put, q1_5, q2_5, q3_5, i64_w, i32_w]; rfl
                    refine pure_ (i := 9) (N := some 63) (v := ?_) (a' := ?_) Z5_10 rfl rfl (any_of HT_.out (by kernel_rfl)) (fun _ _ _ h => h) (Or.inl ⟨by rfl, ?_⟩) ?_ ?_
                    rotate_left
                    ·
                     intro w'; go_simp; with_reducible rfl
                    rotate_left
                    ·
                     simp only [Act.put, q1_5, q2_5, q3_5, i64_w, i32_w]; rfl
                    refine take_ (i := 10) (N := some 64) (v := ?_) (a' := ?_) Z5_11 rfl rfl (take_ofW HT_.out HW_.out (by kernel_rfl)) (fun _ _ _ h => h) (Or.inl ⟨by rfl, ?_⟩) hHeld ?_ ?_
                    rotate_left
                    ·
                     rintro w' ⟨s0, s1, s2, s3, s4, s5, s6, s7, s8, s9, s10, s11⟩
                     go_simp; with_reducible rfl
                    rotate_left
                    ·
                     simp only [Act.put, q1_5, q2_5, q3_5, i64_w, i32_w]; rfl
                    refine one_ (i := 11) (N := some 65) Z5_12 rfl rfl (one_of HT_.out (by kernel_rfl)) (by decide) (fun K hK => ?_)
                    refine goes_ Try.func23 (by kernel_rfl) rfl #[.slice Ao36 x4_.length co36, .agg #[.int .i64 ((rd_T50 l0_2 x6_3).f0.f0), .string ((rd_T50 l0_2 x6_3).f0.f1), .int .i64 ((rd_T50 l0_2 x6_3).f1)], .int .i64 (rd l0_3 x6_3)] (by rfl) rfl rfl (by (try simp only [List.map_toArray, List.map_cons, List.map_nil]); first | done | rfl | (simp only [List.length_drop, List.length_take]; rfl)) ?_
                    with_reducible refine (thresherlaw8_run.calls kj20 _ _ x4_ ((rd_T50 l0_2 x6_3).f0.f0) ((rd_T50 l0_2 x6_3).f0.f1) ((rd_T50 l0_2 x6_3).f1) (rd l0_3 x6_3) true _ ?side1 ?side2 A31.out).mono ?_
                    (case side1 => repeat (first | exact (RC_reads HO_4.out).2.2 | (with_reducible refine Kd.C_alloc ?_ _) | (with_reducible refine Kd.C_drewN ?_ _) | (with_reducible refine Kd.C_drew ?_)))
                    (case side2 => exact (RC_reads HO_4.out).2.1)
                    rintro e w37 ⟨rfl, hb⟩
                    refine ⟨_, rfl, ?_⟩
                    have n0_ := Aside0.mk (RC_below (by (with_reducible repeat (first | apply RC_drewN | apply RC_drew)); exact HO_4.out) hb)
                    have n1_ := Aside0.mk (blk_below (g := gb227) (o := .cells #[.slice (some ad230) l0_0.length c0_0, .slice A0_1 l0_1.length c0_1, .slice (some ad235) l0_2.length c0_2, .slice (some ad236) l0_3.length c0_3] 44 (0, 0)) (by (with_reducible repeat (first | refine blk_drewN ?_ _ | refine blk_drew ?_ | refine blk_alloc ?_ _)); exact BK227.out) hb)
                    have n2_ := Aside0.mk (below_step (by repeat (first | (with_reducible first | exact HB.out | apply below_alloc | apply pw_below_drewN | apply below_drew1 | refine below_set ?_ GE227.out) | exact HB.out)) hb)
                    clear HO_4
                    clear BK227
                    clear HB
                    have HO_4 := n0_
                    have BK227 := n1_
                    have HB := n2_
                    clear n0_ n1_ n2_
                    (try clear hb)
                    (try clear hb2)
                    (try clear hk)
                    (try clear hi)
                    refine hK.out _ _ ⟨(blk_cell BK227.out 0).trans rfl, (blk_cell BK227.out 1).trans rfl, (blk_cell BK227.out 2).trans rfl, (blk_cell BK227.out 3).trans rfl, ((HB.out.cell (World.block_lt_of_cell? w _ hw235_0)).trans hw235_0), ((HB.out.cell (World.block_lt_of_cell? w _ hw235_1)).trans hw235_1), ((HB.out.cell (World.block_lt_of_cell? w _ hw235_2)).trans hw235_2), ((HB.out.cell (World.block_lt_of_cell? w _ hw236_0)).trans hw236_0), ((HB.out.cell (World.block_lt_of_cell? w _ hw238_0)).trans hw238_0), ((HB.out.cell (World.block_lt_of_cell? w _ hw238_1)).trans hw238_1), ((HB.out.cell (World.block_lt_of_cell? w _ hw238_2)).trans hw238_2), ((HB.out.cell (World.block_lt_of_cell? w _ hw239_0)).trans hw239_0)⟩ (fun hHeld => ?_)
                    clear hK K
                    refine norm_ (a' := ?_) ?_ ?_
                    rotate_left
                    ·
                     show Act.put _ (some 65) _ = _
                     simp only [Act.put, q1_5, q2_5, q3_5, i64_w, i32_w]; rfl
                    refine pure_ (i := 12) (N := some 66) (v := ?_) (a' := ?_) Z5_13 rfl rfl (any_of HT_.out (by kernel_rfl)) (fun _ _ _ h => h) (Or.inl ⟨by rfl, ?_⟩) ?_ ?_
                    rotate_left
                    ·
                     intro w'; go_simp; with_reducible rfl
                    rotate_left
                    ·
                     simp only [Act.put, q1_5, q2_5, q3_5, i64_w, i32_w]; rfl
                    refine pure_ (i := 13) (N := some 67) (v := ?_) (a' := ?_) Z5_14 rfl rfl (any_of HT_.out (by kernel_rfl)) (fun _ _ _ h => h) (Or.inl ⟨by rfl, ?_⟩) ?_ ?_
                    rotate_left
                    ·
                     intro w'; go_simp; with_reducible rfl
                    rotate_left
                    ·
                     simp only [Act.put, q1_5, q2_5, q3_5, i64_w, i32_w]; rfl
                    refine pure_ (i := 14) (N := some 68) (v := ?_) (a' := ?_) Z5_15 rfl rfl (any_of HT_.out (by kernel_rfl)) (fun _ _ _ h => h) (Or.inl ⟨by rfl, ?_⟩) ?_ ?_
                    rotate_left
                    ·
                     intro w'; go_simp; with_reducible rfl
                    rotate_left
                    ·
                     simp only [Act.put, q1_5, q2_5, q3_5, i64_w, i32_w]; rfl
                    refine pure_ (i := 15) (N := some 69) (v := ?_) (a' := ?_) Z5_16 rfl rfl (any_of HT_.out (by kernel_rfl)) (fun _ _ _ h => h) (Or.inl ⟨by rfl, ?_⟩) ?_ ?_
                    rotate_left
                    ·
                     intro w'; go_simp; with_reducible rfl
                    rotate_left
                    ·
                     simp only [Act.put, q1_5, q2_5, q3_5, i64_w, i32_w]; rfl
                    refine pure_ (i := 17) (N := some 71) (v := ?_) (a' := ?_) Z5_17 rfl rfl (any_of HT_.out (by kernel_rfl)) (fun _ _ _ h => h) (Or.inl ⟨by rfl, ?_⟩) ?_ ?_
                    rotate_left
                    ·
                     intro w'; go_simp; with_reducible rfl
                    rotate_left
                    ·
                     simp only [Act.put, q1_5, q2_5, q3_5, i64_w, i32_w]; rfl
                    refine pure_ (i := 19) (N := some 73) (v := ?_) (a' := ?_) Z5_18 rfl rfl (any_of HT_.out (by kernel_rfl)) (fun _ _ _ h => h) (Or.inl ⟨by rfl, ?_⟩) ?_ ?_
                    rotate_left
                    ·
                     intro w'; go_simp; with_reducible rfl
                    rotate_left
                    ·
                     simp only [Act.put, q1_5, q2_5, q3_5, i64_w, i32_w]; rfl
                    refine pure_ (i := 22) (N := some 76) (v := ?_) (a' := ?_) Z5_19 rfl rfl (any_of HT_.out (by kernel_rfl)) (fun _ _ _ h => h) (Or.inl ⟨by rfl, ?_⟩) ?_ ?_
                    rotate_left
                    ·
                     intro w'; go_simp; with_reducible rfl
                    rotate_left
                    ·
                     simp only [Act.put, q1_5, q2_5, q3_5, i64_w, i32_w]; rfl
                    refine pure_ (i := 24) (N := some 78) (v := ?_) (a' := ?_) Z5_20 rfl rfl (any_of HT_.out (by kernel_rfl)) (fun _ _ _ h => h) (Or.inl ⟨by rfl, ?_⟩) ?_ ?_
                    rotate_left
                    ·
                     intro w'; go_simp; with_reducible rfl
                    rotate_left
                    ·
                     simp only [Act.put, q1_5, q2_5, q3_5, i64_w, i32_w]; rfl
                    refine take_ (i := 16) (N := some 70) (v := ?_) (a' := ?_) Z5_21 rfl rfl (take_ofW HT_.out HW_.out (by kernel_rfl)) (fun _ _ _ h => h) (Or.inl ⟨by rfl, ?_⟩) hHeld ?_ ?_
                    rotate_left
                    ·
                     rintro w' ⟨s0, s1, s2, s3, s4, s5, s6, s7, s8, s9, s10, s11⟩
                     go_simp; with_reducible rfl
                    rotate_left
                    ·
                     simp only [Act.put, q1_5, q2_5, q3_5, i64_w, i32_w]; rfl
                    refine take_ (i := 18) (N := some 72) (v := ?_) (a' := ?_) Z5_22 rfl rfl (take_ofW HT_.out HW_.out (by kernel_rfl)) (fun _ _ _ h => h) (Or.inl ⟨by rfl, ?_⟩) hHeld ?_ ?_
                    rotate_left
                    ·
                     rintro w' ⟨s0, s1, s2, s3, s4, s5, s6, s7, s8, s9, s10, s11⟩
                     go_simp; with_reducible rfl
                    rotate_left
                    ·
                     simp only [Act.put, q1_5, q2_5, q3_5, i64_w, i32_w]; rfl
                    refine pure_ (i := 20) (N := some 74) (v := ?_) (a' := ?_) Z5_23 rfl rfl (any_of HT_.out (by kernel_rfl)) (fun _ _ _ h => h) (Or.inl ⟨by rfl, ?_⟩) ?_ ?_
                    rotate_left
                    ·
                     intro w'; go_simp; with_reducible rfl
                    rotate_left
                    ·
                     simp only [Act.put, q1_5, q2_5, q3_5, i64_w, i32_w]; rfl
                    refine take_ (i := 21) (N := some 75) (v := ?_) (a' := ?_) Z5_24 rfl rfl (take_ofW HT_.out HW_.out (by kernel_rfl)) (fun _ _ _ h => h) (Or.inl ⟨by rfl, ?_⟩) hHeld ?_ ?_
                    rotate_left
                    ·
                     rintro w' ⟨s0, s1, s2, s3, s4, s5, s6, s7, s8, s9, s10, s11⟩
                     go_simp; with_reducible rfl
                    rotate_left
                    ·
                     simp only [Act.put, q1_5, q2_5, q3_5, i64_w, i32_w]; rfl
                    refine take_ (i := 23) (N := some 77) (v := ?_) (a' := ?_) Z5_25 rfl rfl (take_ofW HT_.out HW_.out (by kernel_rfl)) (fun _ _ _ h => h) (Or.inl ⟨by rfl, ?_⟩) hHeld ?_ ?_
                    rotate_left
                    ·
                     rintro w' ⟨s0, s1, s2, s3, s4, s5, s6, s7, s8, s9, s10, s11⟩
                     go_simp; with_reducible rfl
                    rotate_left
                    ·
                     simp only [Act.put, q1_5, q2_5, q3_5, i64_w, i32_w]; rfl
                    refine pure_ (i := 25) (N := some 79) (v := ?_) (a' := ?_) Z5_26 rfl rfl (any_of HT_.out (by kernel_rfl)) (fun _ _ _ h => h) (Or.inl ⟨by rfl, ?_⟩) ?_ ?_
                    rotate_left
                    ·
                     intro w'; go_simp; with_reducible rfl
                    rotate_left
                    ·
                     simp only [Act.put, q1_5, q2_5, q3_5, i64_w, i32_w]; rfl
                    refine take_ (i := 26) (N := some 80) (v := ?_) (a' := ?_) Z5_27 rfl rfl (take_ofW HT_.out HW_.out (by kernel_rfl)) (fun _ _ _ h => h) (Or.inl ⟨by rfl, ?_⟩) hHeld ?_ ?_
                    rotate_left
                    ·
                     rintro w' ⟨s0, s1, s2, s3, s4, s5, s6, s7, s8, s9, s10, s11⟩
                     go_simp; with_reducible rfl
                    rotate_left
                    ·
                     simp only [Act.put, q1_5, q2_5, q3_5, i64_w, i32_w]; rfl
                    refine one_ (i := 27) (N := some 81) Z5_28 rfl rfl (one_of HT_.out (by kernel_rfl)) (by decide) (fun K hK => ?_)
                    refine goes_ Try.func23 (by kernel_rfl) rfl #[.slice A0_1 l0_1.length c0_1, .agg #[.int .i64 ((rd_T50 l0_2 x6_3).f0.f0), .string ((rd_T50 l0_2 x6_3).f0.f1), .int .i64 ((rd_T50 l0_2 x6_3).f1)], .int .i64 (rd l0_3 x6_3)] (by rfl) rfl rfl (by (try simp only [List.map_toArray, List.map_cons, List.map_nil]); first | done | rfl | (simp only [List.length_drop, List.length_take]; rfl)) ?_
                    with_reducible refine (thresherlaw8_run.calls kj20 _ _ l0_1 ((rd_T50 l0_2 x6_3).f0.f0) ((rd_T50 l0_2 x6_3).f0.f1) ((rd_T50 l0_2 x6_3).f1) (rd l0_3 x6_3) true _ ?side1 ?side2 A33.out).mono ?_
                    (case side1 => repeat (first | exact (Kd.C_below HR0_1.out HB.out) | (with_reducible refine Kd.C_alloc ?_ _) | (with_reducible refine Kd.C_drewN ?_ _) | (with_reducible refine Kd.C_drew ?_)))
                    (case side2 => exact HC0_1.out)
                    rintro e w38 ⟨rfl, hb⟩
                    refine ⟨_, rfl, ?_⟩
                    have n0_ := Aside0.mk (RC_below (by (with_reducible repeat (first | apply RC_drewN | apply RC_drew)); exact HO_4.out) hb)
                    have n1_ := Aside0.mk (blk_below (g := gb227) (o := .cells #[.slice (some ad230) l0_0.length c0_0, .slice A0_1 l0_1.length c0_1, .slice (some ad235) l0_2.length c0_2, .slice (some ad236) l0_3.length c0_3] 44 (0, 0)) (by (with_reducible repeat (first | refine blk_drewN ?_ _ | refine blk_drew ?_ | refine blk_alloc ?_ _)); exact BK227.out) hb)
                    have n2_ := Aside0.mk (below_step (by repeat (first | (with_reducible first | exact HB.out | apply below_alloc | apply pw_below_drewN | apply below_drew1 | refine below_set ?_ GE227.out) | exact HB.out)) hb)
                    clear HO_4
                    clear BK227
                    clear HB
                    have HO_4 := n0_
                    have BK227 := n1_
                    have HB := n2_
                    clear n0_ n1_ n2_
                    (try clear hb)
                    (try clear hb2)
                    (try clear hk)
                    (try clear hi)
                    refine hK.out _ _ ⟨(blk_cell BK227.out 0).trans rfl, (blk_cell BK227.out 1).trans rfl, (blk_cell BK227.out 2).trans rfl, (blk_cell BK227.out 3).trans rfl, ((HB.out.cell (World.block_lt_of_cell? w _ hw235_0)).trans hw235_0), ((HB.out.cell (World.block_lt_of_cell? w _ hw235_1)).trans hw235_1), ((HB.out.cell (World.block_lt_of_cell? w _ hw235_2)).trans hw235_2), ((HB.out.cell (World.block_lt_of_cell? w _ hw236_0)).trans hw236_0), ((HB.out.cell (World.block_lt_of_cell? w _ hw238_0)).trans hw238_0), ((HB.out.cell (World.block_lt_of_cell? w _ hw238_1)).trans hw238_1), ((HB.out.cell (World.block_lt_of_cell? w _ hw238_2)).trans hw238_2), ((HB.out.cell (World.block_lt_of_cell? w _ hw239_0)).trans hw239_0)⟩ (fun hHeld => ?_)
                    clear hK K
                    refine norm_ (a' := ?_) ?_ ?_
                    rotate_left
                    ·
                     show Act.put _ (some 81) _ = _
                     simp only [Act.put, q1_5, q2_5, q3_5, i64_w, i32_w]; rfl
                    refine pure_ (i := 28) (N := some 82) (v := ?_) (a' := ?_) Z5_29 rfl rfl (any_of HT_.out (by kernel_rfl)) (fun _ _ _ h => h) (Or.inl ⟨by rfl, ?_⟩) ?_ ?_
                    rotate_left
                    ·
                     intro w'; go_simp; with_reducible rfl
                    rotate_left
                    ·
                     simp only [Act.put, q1_5, q2_5, q3_5, i64_w, i32_w]; rfl
                    refine pure_ (i := 29) (N := some 83) (v := ?_) (a' := ?_) Z5_30 rfl rfl (any_of HT_.out (by kernel_rfl)) (fun _ _ _ h => h) (Or.inl ⟨by rfl, ?_⟩) ?_ ?_
                    rotate_left
                    ·
                     intro w'; go_simp; with_reducible rfl
                    rotate_left
                    ·
                     simp only [Act.put, q1_5, q2_5, q3_5, i64_w, i32_w]; rfl
                    refine done_ (done_of HT_.out (by kernel_rfl)) ?_
                    try go_wp2
                    go_roundg kj20
                    case measure => have := HK1.out; have := HJ9.out; have := HK3.out; have := HJ20.out; omega
                    case rel => exact ⟨(wrap64 (x6_3 + 1)), (by first | rfl | (simp; done) | (simp [*]; done)), H', ⟨by have := HK1.out; have := HJ9.out; have := HK3.out; have := HJ20.out; omega⟩, ⟨by (with_reducible repeat (first | apply RC_drewN | apply RC_drew)); exact HO_4.out⟩, ⟨by (with_reducible repeat (first | refine blk_drewN ?_ _ | refine blk_drew ?_ | refine blk_alloc ?_ _)); exact BK227.out⟩, ⟨by repeat (first | (with_reducible first | exact HB.out | apply below_alloc | apply pw_below_drewN | apply below_drew1 | refine below_set ?_ GE227.out) | exact HB.out)⟩⟩
                   ·
                    replace c34 := Bool.eq_false_iff.mpr c34
                    subst c34
                    have H1 : (some false) = some r := by rw [if_neg (show ¬ (false = true) by decide)] at H; exact H
                    clear H; have H := H1
                    clear H1
                    obtain rfl := Option.some.inj H
                    try go_wp2
                    have n0_ := Aside0.mk (RC_drew HO_4.out)
                    have n1_ := Aside0.mk (blk_drew BK227.out)
                    have n2_ := Aside0.mk (below_drew1 HB.out)
                    clear HO_4
                    clear BK227
                    clear HB
                    have HO_4 := n0_
                    have BK227 := n1_
                    have HB := n2_
                    clear n0_ n1_ n2_
                    have p235 : 0 ≤ (x6_3 : Int) := of_decide_eq_true (by first | (with_reducible assumption) | assumption)
                    have q235 : x6_3 < (l0_2.length : Int) := of_decide_eq_true (by first | (with_reducible assumption) | assumption)
                    obtain ⟨ad235, e235, hx235_0, hx235_1, hx235_2⟩ := at_T50 HR0_2.out x6_3 p235 q235
                    have hw235_2 := hx235_2
                    have hw235_1 := hx235_1
                    have hw235_0 := hx235_0
                    cases e235
                    replace hx235_0 := (HB.out.cell (World.block_lt_of_cell? w _ hx235_0)).trans hx235_0
                    replace hx235_1 := (HB.out.cell (World.block_lt_of_cell? w _ hx235_1)).trans hx235_1
                    replace hx235_2 := (HB.out.cell (World.block_lt_of_cell? w _ hx235_2)).trans hx235_2
                    replace p235 := eq_true p235
                    replace q235 := eq_true q235
                    have p236 : 0 ≤ (x6_3 : Int) := of_decide_eq_true (by first | (with_reducible assumption) | assumption)
                    have q236 : x6_3 < (l0_3.length : Int) := of_decide_eq_true (by first | (with_reducible assumption) | assumption)
                    obtain ⟨ad236, e236, hx236_0⟩ := Kd.at_int HR0_3.out x6_3 p236 q236
                    have hw236_0 := hx236_0
                    cases e236
                    replace hx236_0 := (HB.out.cell (World.block_lt_of_cell? w _ hx236_0)).trans hx236_0
                    replace p236 := eq_true p236
                    replace q236 := eq_true q236
                    obtain ⟨Ao40, co40, eo40⟩ := RC_slice HO_4.out
                    (first | subst eo40 | (injection eo40 with f1_ f2_ f3_; have f4_ := f1_.symm; have f5_ := f3_.symm; clear f1_ f2_ f3_; subst f4_; subst f5_))
                    have p238 : 0 ≤ (x6_3 : Int) := of_decide_eq_true (by first | (with_reducible assumption) | assumption)
                    have q238 : x6_3 < (l0_2.length : Int) := of_decide_eq_true (by first | (with_reducible assumption) | assumption)
                    obtain ⟨ad238, e238, hx238_0, hx238_1, hx238_2⟩ := at_T50 HR0_2.out x6_3 p238 q238
                    have hw238_2 := hx238_2
                    have hw238_1 := hx238_1
                    have hw238_0 := hx238_0
                    obtain rfl : ad235 = ad238 := (by injection e238)
                    replace hx238_0 := (HB.out.cell (World.block_lt_of_cell? w _ hx238_0)).trans hx238_0
                    replace hx238_1 := (HB.out.cell (World.block_lt_of_cell? w _ hx238_1)).trans hx238_1
                    replace hx238_2 := (HB.out.cell (World.block_lt_of_cell? w _ hx238_2)).trans hx238_2
                    replace p238 := eq_true p238
                    replace q238 := eq_true q238
                    have p239 : 0 ≤ (x6_3 : Int) := of_decide_eq_true (by first | (with_reducible assumption) | assumption)
                    have q239 : x6_3 < (l0_3.length : Int) := of_decide_eq_true (by first | (with_reducible assumption) | assumption)
                    obtain ⟨ad239, e239, hx239_0⟩ := Kd.at_int HR0_3.out x6_3 p239 q239
                    have hw239_0 := hx239_0
                    obtain rfl : ad236 = ad239 := (by injection e239)
                    replace hx239_0 := (HB.out.cell (World.block_lt_of_cell? w _ hx239_0)).trans hx239_0
                    replace p239 := eq_true p239
                    replace q239 := eq_true q239
                    refine start_ (n := 30) (S := fun w' => w'.cell? ⟨gb227, 0, none⟩ = some (.slice (some ad230) l0_0.length c0_0) ∧ w'.cell? ⟨gb227, 1, none⟩ = some (.slice A0_1 l0_1.length c0_1) ∧ w'.cell? ⟨gb227, 2, none⟩ = some (.slice (some ad235) l0_2.length c0_2) ∧ w'.cell? ⟨gb227, 3, none⟩ = some (.slice (some ad236) l0_3.length c0_3) ∧ w'.cell? (ad235.add ((x6_3).toNat * 3)) = some (.int .i64 ((rd_T50 l0_2 x6_3).f0.f0)) ∧ w'.cell? ⟨(ad235.add ((x6_3).toNat * 3)).block, (ad235.add ((x6_3).toNat * 3)).off + 1, none⟩ = some (.string ((rd_T50 l0_2 x6_3).f0.f1)) ∧ w'.cell? ⟨(ad235.add ((x6_3).toNat * 3)).block, (ad235.add ((x6_3).toNat * 3)).off + 2, none⟩ = some (.int .i64 ((rd_T50 l0_2 x6_3).f1)) ∧ w'.cell? (ad236.add (x6_3).toNat) = some (.int .i64 (rd l0_3 x6_3)) ∧ w'.cell? (ad235.add ((x6_3).toNat * 3)) = some (.int .i64 ((rd_T50 l0_2 x6_3).f0.f0)) ∧ w'.cell? ⟨(ad235.add ((x6_3).toNat * 3)).block, (ad235.add ((x6_3).toNat * 3)).off + 1, none⟩ = some (.string ((rd_T50 l0_2 x6_3).f0.f1)) ∧ w'.cell? ⟨(ad235.add ((x6_3).toNat * 3)).block, (ad235.add ((x6_3).toNat * 3)).off + 2, none⟩ = some (.int .i64 ((rd_T50 l0_2 x6_3).f1)) ∧ w'.cell? (ad236.add (x6_3).toNat) = some (.int .i64 (rd l0_3 x6_3))) (ds := []) Z5_0 (by kernel_rfl) rfl rfl ⟨(blk_cell BK227.out 0).trans rfl, (blk_cell BK227.out 1).trans rfl, (blk_cell BK227.out 2).trans rfl, (blk_cell BK227.out 3).trans rfl, ((HB.out.cell (World.block_lt_of_cell? w _ hw235_0)).trans hw235_0), ((HB.out.cell (World.block_lt_of_cell? w _ hw235_1)).trans hw235_1), ((HB.out.cell (World.block_lt_of_cell? w _ hw235_2)).trans hw235_2), ((HB.out.cell (World.block_lt_of_cell? w _ hw236_0)).trans hw236_0), ((HB.out.cell (World.block_lt_of_cell? w _ hw238_0)).trans hw238_0), ((HB.out.cell (World.block_lt_of_cell? w _ hw238_1)).trans hw238_1), ((HB.out.cell (World.block_lt_of_cell? w _ hw238_2)).trans hw238_2), ((HB.out.cell (World.block_lt_of_cell? w _ hw239_0)).trans hw239_0)⟩ (fun hHeld => ?_); refine with_tabW thresherlaw8_EvalRuns.tab12 thresherlaw8_EvalRuns.bits12 (fun HT_ HW_ => ?_)
                    generalize wc.drew = w39 at HO_4 BK227 HB hx235_0 hx235_1 hx235_2 hx236_0 hx238_0 hx238_1 hx238_2 hx239_0 hHeld ⊢
                    refine pure_ (i := 0) (N := some 54) (v := ?_) (a' := ?_) Z5_1 rfl rfl (any_of HT_.out (by kernel_rfl)) (fun _ _ _ h => h) (Or.inl ⟨by rfl, ?_⟩) ?_ ?_
                    rotate_left
                    ·
                     intro w'; go_simp; with_reducible rfl
                    rotate_left
                    ·
                     simp only [Act.put, q1_5, q2_5, q3_5, i64_w, i32_w]; rfl
                    refine pure_ (i := 1) (N := some 55) (v := ?_) (a' := ?_) Z5_2 rfl rfl (any_of HT_.out (by kernel_rfl)) (fun _ _ _ h => h) (Or.inl ⟨by rfl, ?_⟩) ?_ ?_
                    rotate_left
                    ·
                     intro w'; go_simp; with_reducible rfl
                    rotate_left
                    ·
                     simp only [Act.put, q1_5, q2_5, q3_5, i64_w, i32_w]; rfl
                    refine pure_ (i := 3) (N := some 57) (v := ?_) (a' := ?_) Z5_3 rfl rfl (any_of HT_.out (by kernel_rfl)) (fun _ _ _ h => h) (Or.inl ⟨by rfl, ?_⟩) ?_ ?_
                    rotate_left
                    ·
                     intro w'; go_simp; with_reducible rfl
                    rotate_left
                    ·
                     simp only [Act.put, q1_5, q2_5, q3_5, i64_w, i32_w]; rfl
                    refine pure_ (i := 6) (N := some 60) (v := ?_) (a' := ?_) Z5_4 rfl rfl (any_of HT_.out (by kernel_rfl)) (fun _ _ _ h => h) (Or.inl ⟨by rfl, ?_⟩) ?_ ?_
                    rotate_left
                    ·
                     intro w'; go_simp; with_reducible rfl
                    rotate_left
                    ·
                     simp only [Act.put, q1_5, q2_5, q3_5, i64_w, i32_w]; rfl
                    refine pure_ (i := 8) (N := some 62) (v := ?_) (a' := ?_) Z5_5 rfl rfl (any_of HT_.out (by kernel_rfl)) (fun _ _ _ h => h) (Or.inl ⟨by rfl, ?_⟩) ?_ ?_
                    rotate_left
                    ·
                     intro w'; go_simp; with_reducible rfl
                    rotate_left
                    ·
                     simp only [Act.put, q1_5, q2_5, q3_5, i64_w, i32_w]; rfl
                    refine take_ (i := 2) (N := some 56) (v := ?_) (a' := ?_) Z5_6 rfl rfl (take_ofW HT_.out HW_.out (by kernel_rfl)) (fun _ _ _ h => h) (Or.inl ⟨by rfl, ?_⟩) hHeld ?_ ?_
                    rotate_left
                    ·
                     rintro w' ⟨s0, s1, s2, s3, s4, s5, s6, s7, s8, s9, s10, s11⟩
                     go_simp; with_reducible rfl
                    rotate_left
                    ·
                     simp only [Act.put, q1_5, q2_5, q3_5, i64_w, i32_w]; rfl
                    refine pure_ (i := 4) (N := some 58) (v := ?_) (a' := ?_) Z5_7 rfl rfl (any_of HT_.out (by kernel_rfl)) (fun _ _ _ h => h) (Or.inl ⟨by rfl, ?_⟩) ?_ ?_
                    rotate_left
                    ·
                     intro w'; go_simp; with_reducible rfl
                    rotate_left
                    ·
                     simp only [Act.put, q1_5, q2_5, q3_5, i64_w, i32_w]; rfl
                    refine take_ (i := 5) (N := some 59) (v := ?_) (a' := ?_) Z5_8 rfl rfl (take_ofW HT_.out HW_.out (by kernel_rfl)) (fun _ _ _ h => h) (Or.inl ⟨by rfl, ?_⟩) hHeld ?_ ?_
                    rotate_left
                    ·
                     rintro w' ⟨s0, s1, s2, s3, s4, s5, s6, s7, s8, s9, s10, s11⟩
                     go_simp; with_reducible rfl
                    rotate_left
                    ·
                     simp only [Act.put, q1_5, q2_5, q3_5, i64_w, i32_w]; rfl
                    refine take_ (i := 7) (N := some 61) (v := ?_) (a' := ?_) Z5_9 rfl rfl (take_ofW HT_.out HW_.out (by kernel_rfl)) (fun _ _ _ h => h) (Or.inl ⟨by rfl, ?_⟩) hHeld ?_ ?_
                    rotate_left
                    ·
                     rintro w' ⟨s0, s1, s2, s3, s4, s5, s6, s7, s8, s9, s10, s11⟩
                     go_simp; with_reducible rfl
                    rotate_left
                    ·
                     simp only [Act.put, q1_5, q2_5, q3_5, i64_w, i32_w]; rfl
                    refine pure_ (i := 9) (N := some 63) (v := ?_) (a' := ?_) Z5_10 rfl rfl (any_of HT_.out (by kernel_rfl)) (fun _ _ _ h => h) (Or.inl ⟨by rfl, ?_⟩) ?_ ?_
                    rotate_left
                    ·
                     intro w'; go_simp; with_reducible rfl
                    rotate_left
                    ·
                     simp only [Act.put, q1_5, q2_5, q3_5, i64_w, i32_w]; rfl
                    refine take_ (i := 10) (N := some 64) (v := ?_) (a' := ?_) Z5_11 rfl rfl (take_ofW HT_.out HW_.out (by kernel_rfl)) (fun _ _ _ h => h) (Or.inl ⟨by rfl, ?_⟩) hHeld ?_ ?_
                    rotate_left
                    ·
                     rintro w' ⟨s0, s1, s2, s3, s4, s5, s6, s7, s8, s9, s10, s11⟩
                     go_simp; with_reducible rfl
                    rotate_left
                    ·
                     simp only [Act.put, q1_5, q2_5, q3_5, i64_w, i32_w]; rfl
                    refine one_ (i := 11) (N := some 65) Z5_12 rfl rfl (one_of HT_.out (by kernel_rfl)) (by decide) (fun K hK => ?_)
                    refine goes_ Try.func23 (by kernel_rfl) rfl #[.slice Ao40 x4_.length co40, .agg #[.int .i64 ((rd_T50 l0_2 x6_3).f0.f0), .string ((rd_T50 l0_2 x6_3).f0.f1), .int .i64 ((rd_T50 l0_2 x6_3).f1)], .int .i64 (rd l0_3 x6_3)] (by rfl) rfl rfl (by (try simp only [List.map_toArray, List.map_cons, List.map_nil]); first | done | rfl | (simp only [List.length_drop, List.length_take]; rfl)) ?_
                    with_reducible refine (thresherlaw8_run.calls kj20 _ _ x4_ ((rd_T50 l0_2 x6_3).f0.f0) ((rd_T50 l0_2 x6_3).f0.f1) ((rd_T50 l0_2 x6_3).f1) (rd l0_3 x6_3) true _ ?side1 ?side2 A31.out).mono ?_
                    (case side1 => repeat (first | exact (RC_reads HO_4.out).2.2 | (with_reducible refine Kd.C_alloc ?_ _) | (with_reducible refine Kd.C_drewN ?_ _) | (with_reducible refine Kd.C_drew ?_)))
                    (case side2 => exact (RC_reads HO_4.out).2.1)
                    rintro e w41 ⟨rfl, hb⟩
                    refine ⟨_, rfl, ?_⟩
                    have n0_ := Aside0.mk (RC_below (by (with_reducible repeat (first | apply RC_drewN | apply RC_drew)); exact HO_4.out) hb)
                    have n1_ := Aside0.mk (blk_below (g := gb227) (o := .cells #[.slice (some ad230) l0_0.length c0_0, .slice A0_1 l0_1.length c0_1, .slice (some ad235) l0_2.length c0_2, .slice (some ad236) l0_3.length c0_3] 44 (0, 0)) (by (with_reducible repeat (first | refine blk_drewN ?_ _ | refine blk_drew ?_ | refine blk_alloc ?_ _)); exact BK227.out) hb)
                    have n2_ := Aside0.mk (below_step (by repeat (first | (with_reducible first | exact HB.out | apply below_alloc | apply pw_below_drewN | apply below_drew1 | refine below_set ?_ GE227.out) | exact HB.out)) hb)
                    clear HO_4
                    clear BK227
                    clear HB
                    have HO_4 := n0_
                    have BK227 := n1_
                    have HB := n2_
                    clear n0_ n1_ n2_
                    (try clear hb)
                    (try clear hb2)
                    (try clear hk)
                    (try clear hi)
                    refine hK.out _ _ ⟨(blk_cell BK227.out 0).trans rfl, (blk_cell BK227.out 1).trans rfl, (blk_cell BK227.out 2).trans rfl, (blk_cell BK227.out 3).trans rfl, ((HB.out.cell (World.block_lt_of_cell? w _ hw235_0)).trans hw235_0), ((HB.out.cell (World.block_lt_of_cell? w _ hw235_1)).trans hw235_1), ((HB.out.cell (World.block_lt_of_cell? w _ hw235_2)).trans hw235_2), ((HB.out.cell (World.block_lt_of_cell? w _ hw236_0)).trans hw236_0), ((HB.out.cell (World.block_lt_of_cell? w _ hw238_0)).trans hw238_0), ((HB.out.cell (World.block_lt_of_cell? w _ hw238_1)).trans hw238_1), ((HB.out.cell (World.block_lt_of_cell? w _ hw238_2)).trans hw238_2), ((HB.out.cell (World.block_lt_of_cell? w _ hw239_0)).trans hw239_0)⟩ (fun hHeld => ?_)
                    clear hK K
                    refine norm_ (a' := ?_) ?_ ?_
                    rotate_left
                    ·
                     show Act.put _ (some 65) _ = _
                     simp only [Act.put, q1_5, q2_5, q3_5, i64_w, i32_w]; rfl
                    refine pure_ (i := 12) (N := some 66) (v := ?_) (a' := ?_) Z5_13 rfl rfl (any_of HT_.out (by kernel_rfl)) (fun _ _ _ h => h) (Or.inl ⟨by rfl, ?_⟩) ?_ ?_
                    rotate_left
                    ·
                     intro w'; go_simp; with_reducible rfl
                    rotate_left
                    ·
                     simp only [Act.put, q1_5, q2_5, q3_5, i64_w, i32_w]; rfl
                    refine pure_ (i := 13) (N := some 67) (v := ?_) (a' := ?_) Z5_14 rfl rfl (any_of HT_.out (by kernel_rfl)) (fun _ _ _ h => h) (Or.inl ⟨by rfl, ?_⟩) ?_ ?_
                    rotate_left
                    ·
                     intro w'; go_simp; with_reducible rfl
                    rotate_left
                    ·
                     simp only [Act.put, q1_5, q2_5, q3_5, i64_w, i32_w]; rfl
                    refine pure_ (i := 14) (N := some 68) (v := ?_) (a' := ?_) Z5_15 rfl rfl (any_of HT_.out (by kernel_rfl)) (fun _ _ _ h => h) (Or.inl ⟨by rfl, ?_⟩) ?_ ?_
                    rotate_left
                    ·
                     intro w'; go_simp; with_reducible rfl
                    rotate_left
                    ·
                     simp only [Act.put, q1_5, q2_5, q3_5, i64_w, i32_w]; rfl
                    refine pure_ (i := 15) (N := some 69) (v := ?_) (a' := ?_) Z5_16 rfl rfl (any_of HT_.out (by kernel_rfl)) (fun _ _ _ h => h) (Or.inl ⟨by rfl, ?_⟩) ?_ ?_
                    rotate_left
                    ·
                     intro w'; go_simp; with_reducible rfl
                    rotate_left
                    ·
                     simp only [Act.put, q1_5, q2_5, q3_5, i64_w, i32_w]; rfl
                    refine pure_ (i := 17) (N := some 71) (v := ?_) (a' := ?_) Z5_17 rfl rfl (any_of HT_.out (by kernel_rfl)) (fun _ _ _ h => h) (Or.inl ⟨by rfl, ?_⟩) ?_ ?_
                    rotate_left
                    ·
                     intro w'; go_simp; with_reducible rfl
                    rotate_left
                    ·
                     simp only [Act.put, q1_5, q2_5, q3_5, i64_w, i32_w]; rfl
                    refine pure_ (i := 19) (N := some 73) (v := ?_) (a' := ?_) Z5_18 rfl rfl (any_of HT_.out (by kernel_rfl)) (fun _ _ _ h => h) (Or.inl ⟨by rfl, ?_⟩) ?_ ?_
                    rotate_left
                    ·
                     intro w'; go_simp; with_reducible rfl
                    rotate_left
                    ·
                     simp only [Act.put, q1_5, q2_5, q3_5, i64_w, i32_w]; rfl
                    refine pure_ (i := 22) (N := some 76) (v := ?_) (a' := ?_) Z5_19 rfl rfl (any_of HT_.out (by kernel_rfl)) (fun _ _ _ h => h) (Or.inl ⟨by rfl, ?_⟩) ?_ ?_
                    rotate_left
                    ·
                     intro w'; go_simp; with_reducible rfl
                    rotate_left
                    ·
                     simp only [Act.put, q1_5, q2_5, q3_5, i64_w, i32_w]; rfl
                    refine pure_ (i := 24) (N := some 78) (v := ?_) (a' := ?_) Z5_20 rfl rfl (any_of HT_.out (by kernel_rfl)) (fun _ _ _ h => h) (Or.inl ⟨by rfl, ?_⟩) ?_ ?_
                    rotate_left
                    ·
                     intro w'; go_simp; with_reducible rfl
                    rotate_left
                    ·
                     simp only [Act.put, q1_5, q2_5, q3_5, i64_w, i32_w]; rfl
                    refine take_ (i := 16) (N := some 70) (v := ?_) (a' := ?_) Z5_21 rfl rfl (take_ofW HT_.out HW_.out (by kernel_rfl)) (fun _ _ _ h => h) (Or.inl ⟨by rfl, ?_⟩) hHeld ?_ ?_
                    rotate_left
                    ·
                     rintro w' ⟨s0, s1, s2, s3, s4, s5, s6, s7, s8, s9, s10, s11⟩
                     go_simp; with_reducible rfl
                    rotate_left
                    ·
                     simp only [Act.put, q1_5, q2_5, q3_5, i64_w, i32_w]; rfl
                    refine take_ (i := 18) (N := some 72) (v := ?_) (a' := ?_) Z5_22 rfl rfl (take_ofW HT_.out HW_.out (by kernel_rfl)) (fun _ _ _ h => h) (Or.inl ⟨by rfl, ?_⟩) hHeld ?_ ?_
                    rotate_left
                    ·
                     rintro w' ⟨s0, s1, s2, s3, s4, s5, s6, s7, s8, s9, s10, s11⟩
                     go_simp; with_reducible rfl
                    rotate_left
                    ·
                     simp only [Act.put, q1_5, q2_5, q3_5, i64_w, i32_w]; rfl
                    refine pure_ (i := 20) (N := some 74) (v := ?_) (a' := ?_) Z5_23 rfl rfl (any_of HT_.out (by kernel_rfl)) (fun _ _ _ h => h) (Or.inl ⟨by rfl, ?_⟩) ?_ ?_
                    rotate_left
                    ·
                     intro w'; go_simp; with_reducible rfl
                    rotate_left
                    ·
                     simp only [Act.put, q1_5, q2_5, q3_5, i64_w, i32_w]; rfl
                    refine take_ (i := 21) (N := some 75) (v := ?_) (a' := ?_) Z5_24 rfl rfl (take_ofW HT_.out HW_.out (by kernel_rfl)) (fun _ _ _ h => h) (Or.inl ⟨by rfl, ?_⟩) hHeld ?_ ?_
                    rotate_left
                    ·
                     rintro w' ⟨s0, s1, s2, s3, s4, s5, s6, s7, s8, s9, s10, s11⟩
                     go_simp; with_reducible rfl
                    rotate_left
                    ·
                     simp only [Act.put, q1_5, q2_5, q3_5, i64_w, i32_w]; rfl
                    refine take_ (i := 23) (N := some 77) (v := ?_) (a' := ?_) Z5_25 rfl rfl (take_ofW HT_.out HW_.out (by kernel_rfl)) (fun _ _ _ h => h) (Or.inl ⟨by rfl, ?_⟩) hHeld ?_ ?_
                    rotate_left
                    ·
                     rintro w' ⟨s0, s1, s2, s3, s4, s5, s6, s7, s8, s9, s10, s11⟩
                     go_simp; with_reducible rfl
                    rotate_left
                    ·
                     simp only [Act.put, q1_5, q2_5, q3_5, i64_w, i32_w]; rfl
                    refine pure_ (i := 25) (N := some 79) (v := ?_) (a' := ?_) Z5_26 rfl rfl (any_of HT_.out (by kernel_rfl)) (fun _ _ _ h => h) (Or.inl ⟨by rfl, ?_⟩) ?_ ?_
                    rotate_left
                    ·
                     intro w'; go_simp; with_reducible rfl
                    rotate_left
                    ·
                     simp only [Act.put, q1_5, q2_5, q3_5, i64_w, i32_w]; rfl
                    refine take_ (i := 26) (N := some 80) (v := ?_) (a' := ?_) Z5_27 rfl rfl (take_ofW HT_.out HW_.out (by kernel_rfl)) (fun _ _ _ h => h) (Or.inl ⟨by rfl, ?_⟩) hHeld ?_ ?_
                    rotate_left
                    ·
                     rintro w' ⟨s0, s1, s2, s3, s4, s5, s6, s7, s8, s9, s10, s11⟩
                     go_simp; with_reducible rfl
                    rotate_left
                    ·
                     simp only [Act.put, q1_5, q2_5, q3_5, i64_w, i32_w]; rfl
                    refine one_ (i := 27) (N := some 81) Z5_28 rfl rfl (one_of HT_.out (by kernel_rfl)) (by decide) (fun K hK => ?_)
                    refine goes_ Try.func23 (by kernel_rfl) rfl #[.slice A0_1 l0_1.length c0_1, .agg #[.int .i64 ((rd_T50 l0_2 x6_3).f0.f0), .string ((rd_T50 l0_2 x6_3).f0.f1), .int .i64 ((rd_T50 l0_2 x6_3).f1)], .int .i64 (rd l0_3 x6_3)] (by rfl) rfl rfl (by (try simp only [List.map_toArray, List.map_cons, List.map_nil]); first | done | rfl | (simp only [List.length_drop, List.length_take]; rfl)) ?_
                    with_reducible refine (thresherlaw8_run.calls kj20 _ _ l0_1 ((rd_T50 l0_2 x6_3).f0.f0) ((rd_T50 l0_2 x6_3).f0.f1) ((rd_T50 l0_2 x6_3).f1) (rd l0_3 x6_3) false _ ?side1 ?side2 A33.out).mono ?_
                    (case side1 => repeat (first | exact (Kd.C_below HR0_1.out HB.out) | (with_reducible refine Kd.C_alloc ?_ _) | (with_reducible refine Kd.C_drewN ?_ _) | (with_reducible refine Kd.C_drew ?_)))
                    (case side2 => exact HC0_1.out)
                    rintro e w42 ⟨rfl, hb⟩
                    refine ⟨_, rfl, ?_⟩
                    have n0_ := Aside0.mk (RC_below (by (with_reducible repeat (first | apply RC_drewN | apply RC_drew)); exact HO_4.out) hb)
                    have n1_ := Aside0.mk (blk_below (g := gb227) (o := .cells #[.slice (some ad230) l0_0.length c0_0, .slice A0_1 l0_1.length c0_1, .slice (some ad235) l0_2.length c0_2, .slice (some ad236) l0_3.length c0_3] 44 (0, 0)) (by (with_reducible repeat (first | refine blk_drewN ?_ _ | refine blk_drew ?_ | refine blk_alloc ?_ _)); exact BK227.out) hb)
                    have n2_ := Aside0.mk (below_step (by repeat (first | (with_reducible first | exact HB.out | apply below_alloc | apply pw_below_drewN | apply below_drew1 | refine below_set ?_ GE227.out) | exact HB.out)) hb)
                    clear HO_4
                    clear BK227
                    clear HB
                    have HO_4 := n0_
                    have BK227 := n1_
                    have HB := n2_
                    clear n0_ n1_ n2_
                    (try clear hb)
                    (try clear hb2)
                    (try clear hk)
                    (try clear hi)
                    refine hK.out _ _ ⟨(blk_cell BK227.out 0).trans rfl, (blk_cell BK227.out 1).trans rfl, (blk_cell BK227.out 2).trans rfl, (blk_cell BK227.out 3).trans rfl, ((HB.out.cell (World.block_lt_of_cell? w _ hw235_0)).trans hw235_0), ((HB.out.cell (World.block_lt_of_cell? w _ hw235_1)).trans hw235_1), ((HB.out.cell (World.block_lt_of_cell? w _ hw235_2)).trans hw235_2), ((HB.out.cell (World.block_lt_of_cell? w _ hw236_0)).trans hw236_0), ((HB.out.cell (World.block_lt_of_cell? w _ hw238_0)).trans hw238_0), ((HB.out.cell (World.block_lt_of_cell? w _ hw238_1)).trans hw238_1), ((HB.out.cell (World.block_lt_of_cell? w _ hw238_2)).trans hw238_2), ((HB.out.cell (World.block_lt_of_cell? w _ hw239_0)).trans hw239_0)⟩ (fun hHeld => ?_)
                    clear hK K
                    refine norm_ (a' := ?_) ?_ ?_
                    rotate_left
                    ·
                     show Act.put _ (some 81) _ = _
                     simp only [Act.put, q1_5, q2_5, q3_5, i64_w, i32_w]; rfl
                    refine pure_ (i := 28) (N := some 82) (v := ?_) (a' := ?_) Z5_29 rfl rfl (any_of HT_.out (by kernel_rfl)) (fun _ _ _ h => h) (Or.inl ⟨by rfl, ?_⟩) ?_ ?_
                    rotate_left
                    ·
                     intro w'; go_simp; with_reducible rfl
                    rotate_left
                    ·
                     simp only [Act.put, q1_5, q2_5, q3_5, i64_w, i32_w]; rfl
                    refine pure_ (i := 29) (N := some 83) (v := ?_) (a' := ?_) Z5_30 rfl rfl (any_of HT_.out (by kernel_rfl)) (fun _ _ _ h => h) (Or.inl ⟨by rfl, ?_⟩) ?_ ?_
                    rotate_left
                    ·
                     intro w'; go_simp; with_reducible rfl
                    rotate_left
                    ·
                     simp only [Act.put, q1_5, q2_5, q3_5, i64_w, i32_w]; rfl
                    refine done_ (done_of HT_.out (by kernel_rfl)) ?_
                    try go_wp2
                    go_ret
                    exact ⟨by first | rfl | (simp [errW_none, errW_some] <;> rfl) | (simp [*, errW_none, errW_some] <;> rfl), by repeat (first | (with_reducible first | exact HB.out | apply below_alloc | apply pw_below_drewN | apply below_drew1 | refine below_set ?_ GE227.out) | exact HB.out)⟩
                  ·
                   replace c32 := Bool.eq_false_iff.mpr c32
                   subst c32
                   have H1 : (some false) = some r := by rw [if_neg (show ¬ (false = true) by decide)] at H; exact H
                   clear H; have H := H1
                   clear H1
                   obtain rfl := Option.some.inj H
                   try go_wp2
                   have n0_ := Aside0.mk (RC_drew HO_4.out)
                   have n1_ := Aside0.mk (blk_drew BK227.out)
                   have n2_ := Aside0.mk (below_drew1 HB.out)
                   clear HO_4
                   clear BK227
                   clear HB
                   have HO_4 := n0_
                   have BK227 := n1_
                   have HB := n2_
                   clear n0_ n1_ n2_
                   have p235 : 0 ≤ (x6_3 : Int) := of_decide_eq_true (by first | (with_reducible assumption) | assumption)
                   have q235 : x6_3 < (l0_2.length : Int) := of_decide_eq_true (by first | (with_reducible assumption) | assumption)
                   obtain ⟨ad235, e235, hx235_0, hx235_1, hx235_2⟩ := at_T50 HR0_2.out x6_3 p235 q235
                   have hw235_2 := hx235_2
                   have hw235_1 := hx235_1
                   have hw235_0 := hx235_0
                   cases e235
                   replace hx235_0 := (HB.out.cell (World.block_lt_of_cell? w _ hx235_0)).trans hx235_0
                   replace hx235_1 := (HB.out.cell (World.block_lt_of_cell? w _ hx235_1)).trans hx235_1
                   replace hx235_2 := (HB.out.cell (World.block_lt_of_cell? w _ hx235_2)).trans hx235_2
                   replace p235 := eq_true p235
                   replace q235 := eq_true q235
                   have p236 : 0 ≤ (x6_3 : Int) := of_decide_eq_true (by first | (with_reducible assumption) | assumption)
                   have q236 : x6_3 < (l0_3.length : Int) := of_decide_eq_true (by first | (with_reducible assumption) | assumption)
                   obtain ⟨ad236, e236, hx236_0⟩ := Kd.at_int HR0_3.out x6_3 p236 q236
                   have hw236_0 := hx236_0
                   cases e236
                   replace hx236_0 := (HB.out.cell (World.block_lt_of_cell? w _ hx236_0)).trans hx236_0
                   replace p236 := eq_true p236
                   replace q236 := eq_true q236
                   obtain ⟨Ao44, co44, eo44⟩ := RC_slice HO_4.out
                   (first | subst eo44 | (injection eo44 with f1_ f2_ f3_; have f4_ := f1_.symm; have f5_ := f3_.symm; clear f1_ f2_ f3_; subst f4_; subst f5_))
                   refine start_ (n := 30) (S := fun w' => w'.cell? ⟨gb227, 0, none⟩ = some (.slice (some ad230) l0_0.length c0_0) ∧ w'.cell? ⟨gb227, 1, none⟩ = some (.slice A0_1 l0_1.length c0_1) ∧ w'.cell? ⟨gb227, 2, none⟩ = some (.slice (some ad235) l0_2.length c0_2) ∧ w'.cell? ⟨gb227, 3, none⟩ = some (.slice (some ad236) l0_3.length c0_3) ∧ w'.cell? (ad235.add ((x6_3).toNat * 3)) = some (.int .i64 ((rd_T50 l0_2 x6_3).f0.f0)) ∧ w'.cell? ⟨(ad235.add ((x6_3).toNat * 3)).block, (ad235.add ((x6_3).toNat * 3)).off + 1, none⟩ = some (.string ((rd_T50 l0_2 x6_3).f0.f1)) ∧ w'.cell? ⟨(ad235.add ((x6_3).toNat * 3)).block, (ad235.add ((x6_3).toNat * 3)).off + 2, none⟩ = some (.int .i64 ((rd_T50 l0_2 x6_3).f1)) ∧ w'.cell? (ad236.add (x6_3).toNat) = some (.int .i64 (rd l0_3 x6_3))) (ds := []) Z5_0 (by kernel_rfl) rfl rfl ⟨(blk_cell BK227.out 0).trans rfl, (blk_cell BK227.out 1).trans rfl, (blk_cell BK227.out 2).trans rfl, (blk_cell BK227.out 3).trans rfl, ((HB.out.cell (World.block_lt_of_cell? w _ hw235_0)).trans hw235_0), ((HB.out.cell (World.block_lt_of_cell? w _ hw235_1)).trans hw235_1), ((HB.out.cell (World.block_lt_of_cell? w _ hw235_2)).trans hw235_2), ((HB.out.cell (World.block_lt_of_cell? w _ hw236_0)).trans hw236_0)⟩ (fun hHeld => ?_); refine with_tabW thresherlaw8_EvalRuns.tab12 thresherlaw8_EvalRuns.bits12 (fun HT_ HW_ => ?_)
                   generalize wc.drew = w43 at HO_4 BK227 HB hx235_0 hx235_1 hx235_2 hx236_0 hHeld ⊢
                   refine pure_ (i := 0) (N := some 54) (v := ?_) (a' := ?_) Z5_1 rfl rfl (any_of HT_.out (by kernel_rfl)) (fun _ _ _ h => h) (Or.inl ⟨by rfl, ?_⟩) ?_ ?_
                   rotate_left
                   ·
                    intro w'; go_simp; with_reducible rfl
                   rotate_left
                   ·
                    simp only [Act.put, q1_5, q2_5, q3_5, i64_w, i32_w]; rfl
                   refine pure_ (i := 1) (N := some 55) (v := ?_) (a' := ?_) Z5_2 rfl rfl (any_of HT_.out (by kernel_rfl)) (fun _ _ _ h => h) (Or.inl ⟨by rfl, ?_⟩) ?_ ?_
                   rotate_left
                   ·
                    intro w'; go_simp; with_reducible rfl
                   rotate_left
                   ·
                    simp only [Act.put, q1_5, q2_5, q3_5, i64_w, i32_w]; rfl
                   refine pure_ (i := 3) (N := some 57) (v := ?_) (a' := ?_) Z5_3 rfl rfl (any_of HT_.out (by kernel_rfl)) (fun _ _ _ h => h) (Or.inl ⟨by rfl, ?_⟩) ?_ ?_
                   rotate_left
                   ·
                    intro w'; go_simp; with_reducible rfl
                   rotate_left
                   ·
                    simp only [Act.put, q1_5, q2_5, q3_5, i64_w, i32_w]; rfl
                   refine pure_ (i := 6) (N := some 60) (v := ?_) (a' := ?_) Z5_4 rfl rfl (any_of HT_.out (by kernel_rfl)) (fun _ _ _ h => h) (Or.inl ⟨by rfl, ?_⟩) ?_ ?_
                   rotate_left
                   ·
                    intro w'; go_simp; with_reducible rfl
                   rotate_left
                   ·
                    simp only [Act.put, q1_5, q2_5, q3_5, i64_w, i32_w]; rfl
                   refine pure_ (i := 8) (N := some 62) (v := ?_) (a' := ?_) Z5_5 rfl rfl (any_of HT_.out (by kernel_rfl)) (fun _ _ _ h => h) (Or.inl ⟨by rfl, ?_⟩) ?_ ?_
                   rotate_left
                   ·
                    intro w'; go_simp; with_reducible rfl
                   rotate_left
                   ·
                    simp only [Act.put, q1_5, q2_5, q3_5, i64_w, i32_w]; rfl
                   refine take_ (i := 2) (N := some 56) (v := ?_) (a' := ?_) Z5_6 rfl rfl (take_ofW HT_.out HW_.out (by kernel_rfl)) (fun _ _ _ h => h) (Or.inl ⟨by rfl, ?_⟩) hHeld ?_ ?_
                   rotate_left
                   ·
                    rintro w' ⟨s0, s1, s2, s3, s4, s5, s6, s7⟩
                    go_simp; with_reducible rfl
                   rotate_left
                   ·
                    simp only [Act.put, q1_5, q2_5, q3_5, i64_w, i32_w]; rfl
                   refine pure_ (i := 4) (N := some 58) (v := ?_) (a' := ?_) Z5_7 rfl rfl (any_of HT_.out (by kernel_rfl)) (fun _ _ _ h => h) (Or.inl ⟨by rfl, ?_⟩) ?_ ?_
                   rotate_left
                   ·
                    intro w'; go_simp; with_reducible rfl
                   rotate_left
                   ·
                    simp only [Act.put, q1_5, q2_5, q3_5, i64_w, i32_w]; rfl
                   refine take_ (i := 5) (N := some 59) (v := ?_) (a' := ?_) Z5_8 rfl rfl (take_ofW HT_.out HW_.out (by kernel_rfl)) (fun _ _ _ h => h) (Or.inl ⟨by rfl, ?_⟩) hHeld ?_ ?_
                   rotate_left
                   ·
                    rintro w' ⟨s0, s1, s2, s3, s4, s5, s6, s7⟩
                    go_simp; with_reducible rfl
                   rotate_left
                   ·
                    simp only [Act.put, q1_5, q2_5, q3_5, i64_w, i32_w]; rfl
                   refine take_ (i := 7) (N := some 61) (v := ?_) (a' := ?_) Z5_9 rfl rfl (take_ofW HT_.out HW_.out (by kernel_rfl)) (fun _ _ _ h => h) (Or.inl ⟨by rfl, ?_⟩) hHeld ?_ ?_
                   rotate_left
                   ·
                    rintro w' ⟨s0, s1, s2, s3, s4, s5, s6, s7⟩
                    go_simp; with_reducible rfl
                   rotate_left
                   ·
                    simp only [Act.put, q1_5, q2_5, q3_5, i64_w, i32_w]; rfl
                   refine pure_ (i := 9) (N := some 63) (v := ?_) (a' := ?_) Z5_10 rfl rfl (any_of HT_.out (by kernel_rfl)) (fun _ _ _ h => h) (Or.inl ⟨by rfl, ?_⟩) ?_ ?_
                   rotate_left
                   ·
                    intro w'; go_simp; with_reducible rfl
                   rotate_left
                   ·
                    simp only [Act.put, q1_5, q2_5, q3_5, i64_w, i32_w]; rfl
                   refine take_ (i := 10) (N := some 64) (v := ?_) (a' := ?_) Z5_11 rfl rfl (take_ofW HT_.out HW_.out (by kernel_rfl)) (fun _ _ _ h => h) (Or.inl ⟨by rfl, ?_⟩) hHeld ?_ ?_
                   rotate_left
                   ·
                    rintro w' ⟨s0, s1, s2, s3, s4, s5, s6, s7⟩
                    go_simp; with_reducible rfl
                   rotate_left
                   ·
                    simp only [Act.put, q1_5, q2_5, q3_5, i64_w, i32_w]; rfl
                   refine one_ (i := 11) (N := some 65) Z5_12 rfl rfl (one_of HT_.out (by kernel_rfl)) (by decide) (fun K hK => ?_)
                   refine goes_ Try.func23 (by kernel_rfl) rfl #[.slice Ao44 x4_.length co44, .agg #[.int .i64 ((rd_T50 l0_2 x6_3).f0.f0), .string ((rd_T50 l0_2 x6_3).f0.f1), .int .i64 ((rd_T50 l0_2 x6_3).f1)], .int .i64 (rd l0_3 x6_3)] (by rfl) rfl rfl (by (try simp only [List.map_toArray, List.map_cons, List.map_nil]); first | done | rfl | (simp only [List.length_drop, List.length_take]; rfl)) ?_
                   with_reducible refine (thresherlaw8_run.calls kj20 _ _ x4_ ((rd_T50 l0_2 x6_3).f0.f0) ((rd_T50 l0_2 x6_3).f0.f1) ((rd_T50 l0_2 x6_3).f1) (rd l0_3 x6_3) false _ ?side1 ?side2 A31.out).mono ?_
                   (case side1 => repeat (first | exact (RC_reads HO_4.out).2.2 | (with_reducible refine Kd.C_alloc ?_ _) | (with_reducible refine Kd.C_drewN ?_ _) | (with_reducible refine Kd.C_drew ?_)))
                   (case side2 => exact (RC_reads HO_4.out).2.1)
                   rintro e w45 ⟨rfl, hb⟩
                   refine ⟨_, rfl, ?_⟩
                   have n0_ := Aside0.mk (RC_below (by (with_reducible repeat (first | apply RC_drewN | apply RC_drew)); exact HO_4.out) hb)
                   have n1_ := Aside0.mk (blk_below (g := gb227) (o := .cells #[.slice (some ad230) l0_0.length c0_0, .slice A0_1 l0_1.length c0_1, .slice (some ad235) l0_2.length c0_2, .slice (some ad236) l0_3.length c0_3] 44 (0, 0)) (by (with_reducible repeat (first | refine blk_drewN ?_ _ | refine blk_drew ?_ | refine blk_alloc ?_ _)); exact BK227.out) hb)
                   have n2_ := Aside0.mk (below_step (by repeat (first | (with_reducible first | exact HB.out | apply below_alloc | apply pw_below_drewN | apply below_drew1 | refine below_set ?_ GE227.out) | exact HB.out)) hb)
                   clear HO_4
                   clear BK227
                   clear HB
                   have HO_4 := n0_
                   have BK227 := n1_
                   have HB := n2_
                   clear n0_ n1_ n2_
                   (try clear hb)
                   (try clear hb2)
                   (try clear hk)
                   (try clear hi)
                   refine hK.out _ _ ⟨(blk_cell BK227.out 0).trans rfl, (blk_cell BK227.out 1).trans rfl, (blk_cell BK227.out 2).trans rfl, (blk_cell BK227.out 3).trans rfl, ((HB.out.cell (World.block_lt_of_cell? w _ hw235_0)).trans hw235_0), ((HB.out.cell (World.block_lt_of_cell? w _ hw235_1)).trans hw235_1), ((HB.out.cell (World.block_lt_of_cell? w _ hw235_2)).trans hw235_2), ((HB.out.cell (World.block_lt_of_cell? w _ hw236_0)).trans hw236_0)⟩ (fun hHeld => ?_)
                   clear hK K
                   refine norm_ (a' := ?_) ?_ ?_
                   rotate_left
                   ·
                    show Act.put _ (some 65) _ = _
                    simp only [Act.put, q1_5, q2_5, q3_5, i64_w, i32_w]; rfl
                   refine pure_ (i := 12) (N := some 66) (v := ?_) (a' := ?_) Z5_13 rfl rfl (any_of HT_.out (by kernel_rfl)) (fun _ _ _ h => h) (Or.inl ⟨by rfl, ?_⟩) ?_ ?_
                   rotate_left
                   ·
                    intro w'; go_simp; with_reducible rfl
                   rotate_left
                   ·
                    simp only [Act.put, q1_5, q2_5, q3_5, i64_w, i32_w]; rfl
                   refine pure_ (i := 13) (N := some 67) (v := ?_) (a' := ?_) Z5_14 rfl rfl (any_of HT_.out (by kernel_rfl)) (fun _ _ _ h => h) (Or.inl ⟨by rfl, ?_⟩) ?_ ?_
                   rotate_left
                   ·
                    intro w'; go_simp; with_reducible rfl
                   rotate_left
                   ·
                    simp only [Act.put, q1_5, q2_5, q3_5, i64_w, i32_w]; rfl
                   refine pure_ (i := 14) (N := some 68) (v := undef) (a' := ?_) Z5_15 rfl rfl (any_of HT_.out (by kernel_rfl)) (fun _ _ _ h => h) (Or.inr ⟨by rfl, rfl⟩) ?_ ?_
                   rotate_left
                   ·
                    simp only [Act.put, q1_5, q2_5, q3_5, i64_w, i32_w]; rfl
                   refine pure_ (i := 15) (N := some 69) (v := undef) (a' := ?_) Z5_16 rfl rfl (any_of HT_.out (by kernel_rfl)) (fun _ _ _ h => h) (Or.inr ⟨by rfl, rfl⟩) ?_ ?_
                   rotate_left
                   ·
                    simp only [Act.put, q1_5, q2_5, q3_5, i64_w, i32_w]; rfl
                   refine pure_ (i := 16) (N := some 70) (v := undef) (a' := ?_) Z5_31 rfl rfl (any_of HT_.out (by kernel_rfl)) (fun _ _ _ h => h) (Or.inr ⟨by rfl, rfl⟩) ?_ ?_
                   rotate_left
                   ·
                    simp only [Act.put, q1_5, q2_5, q3_5, i64_w, i32_w]; rfl
                   refine pure_ (i := 17) (N := some 71) (v := undef) (a' := ?_) Z5_32 rfl rfl (any_of HT_.out (by kernel_rfl)) (fun _ _ _ h => h) (Or.inr ⟨by rfl, rfl⟩) ?_ ?_
                   rotate_left
                   ·
                    simp only [Act.put, q1_5, q2_5, q3_5, i64_w, i32_w]; rfl
                   refine pure_ (i := 18) (N := some 72) (v := undef) (a' := ?_) Z5_33 rfl rfl (any_of HT_.out (by kernel_rfl)) (fun _ _ _ h => h) (Or.inr ⟨by rfl, rfl⟩) ?_ ?_
                   rotate_left
                   ·
                    simp only [Act.put, q1_5, q2_5, q3_5, i64_w, i32_w]; rfl
                   refine pure_ (i := 19) (N := some 73) (v := undef) (a' := ?_) Z5_34 rfl rfl (any_of HT_.out (by kernel_rfl)) (fun _ _ _ h => h) (Or.inr ⟨by rfl, rfl⟩) ?_ ?_
                   rotate_left
                   ·
                    simp only [Act.put, q1_5, q2_5, q3_5, i64_w, i32_w]; rfl
                   refine pure_ (i := 20) (N := some 74) (v := undef) (a' := ?_) Z5_35 rfl rfl (any_of HT_.out (by kernel_rfl)) (fun _ _ _ h => h) (Or.inr ⟨by rfl, rfl⟩) ?_ ?_
                   rotate_left
                   ·
                    simp only [Act.put, q1_5, q2_5, q3_5, i64_w, i32_w]; rfl
                   refine pure_ (i := 21) (N := some 75) (v := undef) (a' := ?_) Z5_36 rfl rfl (any_of HT_.out (by kernel_rfl)) (fun _ _ _ h => h) (Or.inr ⟨by rfl, rfl⟩) ?_ ?_
                   rotate_left
                   ·
                    simp only [Act.put, q1_5, q2_5, q3_5, i64_w, i32_w]; rfl
                   refine pure_ (i := 22) (N := some 76) (v := undef) (a' := ?_) Z5_37 rfl rfl (any_of HT_.out (by kernel_rfl)) (fun _ _ _ h => h) (Or.inr ⟨by rfl, rfl⟩) ?_ ?_
                   rotate_left
                   ·
                    simp only [Act.put, q1_5, q2_5, q3_5, i64_w, i32_w]; rfl
                   refine pure_ (i := 23) (N := some 77) (v := undef) (a' := ?_) Z5_38 rfl rfl (any_of HT_.out (by kernel_rfl)) (fun _ _ _ h => h) (Or.inr ⟨by rfl, rfl⟩) ?_ ?_
                   rotate_left
                   ·
                    simp only [Act.put, q1_5, q2_5, q3_5, i64_w, i32_w]; rfl
                   refine pure_ (i := 24) (N := some 78) (v := undef) (a' := ?_) Z5_25 rfl rfl (any_of HT_.out (by kernel_rfl)) (fun _ _ _ h => h) (Or.inr ⟨by rfl, rfl⟩) ?_ ?_
                   rotate_left
                   ·
                    simp only [Act.put, q1_5, q2_5, q3_5, i64_w, i32_w]; rfl
                   refine pure_ (i := 25) (N := some 79) (v := undef) (a' := ?_) Z5_26 rfl rfl (any_of HT_.out (by kernel_rfl)) (fun _ _ _ h => h) (Or.inr ⟨by rfl, rfl⟩) ?_ ?_
                   rotate_left
                   ·
                    simp only [Act.put, q1_5, q2_5, q3_5, i64_w, i32_w]; rfl
                   refine pure_ (i := 26) (N := some 80) (v := undef) (a' := ?_) Z5_27 rfl rfl (any_of HT_.out (by kernel_rfl)) (fun _ _ _ h => h) (Or.inr ⟨by rfl, rfl⟩) ?_ ?_
                   rotate_left
                   ·
                    simp only [Act.put, q1_5, q2_5, q3_5, i64_w, i32_w]; rfl
                   refine pure_ (i := 27) (N := some 81) (v := undef) (a' := ?_) Z5_28 rfl rfl (any_of HT_.out (by kernel_rfl)) (fun _ _ _ h => h) (Or.inr ⟨by rfl, rfl⟩) ?_ ?_
                   rotate_left
                   ·
                    simp only [Act.put, q1_5, q2_5, q3_5, i64_w, i32_w]; rfl
                   refine pure_ (i := 28) (N := some 82) (v := undef) (a' := ?_) Z5_29 rfl rfl (any_of HT_.out (by kernel_rfl)) (fun _ _ _ h => h) (Or.inr ⟨by rfl, rfl⟩) ?_ ?_
                   rotate_left
                   ·
                    simp only [Act.put, q1_5, q2_5, q3_5, i64_w, i32_w]; rfl
                   refine pure_ (i := 29) (N := some 83) (v := ?_) (a' := ?_) Z5_30 rfl rfl (any_of HT_.out (by kernel_rfl)) (fun _ _ _ h => h) (Or.inl ⟨by rfl, ?_⟩) ?_ ?_
                   rotate_left
                   ·
                    intro w'; go_simp; with_reducible rfl
                   rotate_left
                   ·
                    simp only [Act.put, q1_5, q2_5, q3_5, i64_w, i32_w]; rfl
                   refine done_ (done_of HT_.out (by kernel_rfl)) ?_
                   try go_wp2
                   go_ret
                   exact ⟨by first | rfl | (simp [errW_none, errW_some] <;> rfl) | (simp [*, errW_none, errW_some] <;> rfl), by repeat (first | (with_reducible first | exact HB.out | apply below_alloc | apply pw_below_drewN | apply below_drew1 | refine below_set ?_ GE227.out) | exact HB.out)⟩
                 ·
                  rw [if_neg c30] at H
                  exact absurd H (by simp)
                ·
                 rw [if_neg c29] at H
                 exact absurd H (by simp)
               ·
                rw [if_neg c28] at H
                exact absurd H (by simp)
              ·
               replace c27 := Bool.eq_false_iff.mpr c27
               subst c27
               have H1 : (thresherlaw8_EvalRuns.l0 kj20 (wrap64 (x3_1 + 1)) l0_0 l0_1 l0_2 l0_3) = some r := by rw [if_neg (show ¬ (false = true) by decide)] at H; exact H
               clear H; have H := H1
               clear H1
               have H' := Aside0.mk H
               clear H; go_wp2
               go_roundg kj20
               case measure => have := HK1.out; have := HJ9.out; have := HK3.out; have := HJ20.out; omega
               case rel => exact ⟨(wrap64 (x3_1 + 1)), (by first | rfl | (simp; done) | (simp [*]; done)), H', ⟨by have := HK1.out; have := HJ9.out; have := HK3.out; have := HJ20.out; omega⟩, ⟨by (with_reducible repeat (first | refine blk_drewN ?_ _ | refine blk_drew ?_ | refine blk_alloc ?_ _)); exact BK227.out⟩, ⟨by repeat (first | (with_reducible first | exact HB.out | apply below_alloc | apply pw_below_drewN | apply below_drew1 | refine below_set ?_ GE227.out) | exact HB.out)⟩⟩
        ·
         rw [if_neg c16] at H
         exact absurd H (by simp)
       ·
        rw [if_neg c15] at H
        exact absurd H (by simp)
      ·
       replace c14 := Bool.eq_false_iff.mpr c14
       subst c14
       have H1 : ((thresherlaw8_wakes.f kj9).bind fun t229 => (some t229)) = some r := by rw [if_neg (show ¬ (false = true) by decide)] at H; exact H
       clear H; have H := H1
       clear H1
       replace H := Option.bind_eq_some_iff.mp H
       obtain ⟨t229, A710, H⟩ := H
       replace H : (some t229) = some r := H
       have A71 := Aside0.mk A710
       clear A710
       obtain rfl := Option.some.inj H
       go_wp2_with (first | ((with_reducible refine gate_callee (f := 24) rfl ?_); refine goesL_ (some 84) rfl rfl Try.func24 (by kernel_rfl) rfl #[] rfl (by (try simp only [List.map_toArray, List.map_cons, List.map_nil]); first | done | rfl | (simp only [List.length_drop, List.length_take]; rfl)) ?_; (with_reducible refine (thresherlaw8_wakes.calls kj9  t229 _ A71.out).mono ?_); rintro e w72 ⟨rfl, hb⟩; refine ⟨_, rfl, ?_⟩; have n0_ := Aside0.mk (blk_below (g := gb227) (o := .cells #[.slice A0_0 l0_0.length c0_0, .slice A0_1 l0_1.length c0_1, .slice A0_2 l0_2.length c0_2, .slice A0_3 l0_3.length c0_3] 44 (0, 0)) (by (with_reducible repeat (first | refine blk_drewN ?_ _ | refine blk_drew ?_ | refine blk_alloc ?_ _)); exact BK227.out) hb); have n1_ := Aside0.mk (below_step (by repeat (first | (with_reducible first | exact HB.out | apply below_alloc | apply pw_below_drewN | apply below_drew1 | refine below_set ?_ GE227.out) | exact HB.out)) hb); clear BK227; clear HB; have BK227 := n0_; have HB := n1_; clear n0_ n1_; (try clear hb); (try clear hk); (try clear hi)))
       go_ret
       exact ⟨by first | rfl | (simp [errW_none, errW_some] <;> rfl) | (simp [*, errW_none, errW_some] <;> rfl), by repeat (first | (with_reducible first | exact HB.out | apply below_alloc | apply pw_below_drewN | apply below_drew1 | refine below_set ?_ GE227.out) | exact HB.out)⟩
end Go.Proofs.Ytchgjkfnmifgkaa.QE
