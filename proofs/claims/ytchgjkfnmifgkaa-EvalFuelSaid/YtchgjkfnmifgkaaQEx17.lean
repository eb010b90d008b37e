-- Printed for this claim by a turned copy of the kit's print (wip/patch_print.py): a text of this session.
import Derived.Test.YtchgjkfnmifgkaaQEx0
import Derived.Test.YtchgjkfnmifgkaaQEx13
import Derived.Test.YtchgjkfnmifgkaaQEx16
import Derived.Test.YtchgjkfnmifgkaaHParse
import Derived.Test.YtchgjkfnmifgkaaEvRun
namespace Go.Proofs.Ytchgjkfnmifgkaa.QE
open Go.RowKit Go.Proofs.YtchgjkfnmifgkaaW.PrintWords Go.Proofs.YtchgjkfnmifgkaaW.PrintLast Go.Proofs.YtchgjkfnmifgkaaW.PrintMore
attribute [local go_sem] max2_int min2_int max_two min_two max_three min_three max_four min_four   -- for this text's walks alone
set_option linter.unusedVariables false
set_option linter.unusedSimpArgs false

/-! ### thresherlaw8_EvalFuel: function 6 -/
mutual
def thresherlaw8_EvalFuel.l0 : Nat → Int → List ByteArray → List (S34) → List (S50) → List Int → Option (Bool)
  | 0, _, _, _, _, _ => none
  | k + 1, x3, x355000, x355001, x355002, x355003 => if x3 < (x355000.length : Int) then (thresherlaw8_EvalFuel.j1 k x3 (decide (x3 < 8)) x355000 x355001 x355002 x355003) else (thresherlaw8_EvalFuel.j1 k x3 false x355000 x355001 x355002 x355003)
def thresherlaw8_EvalFuel.j1 : Nat → Int → Bool → List ByteArray → List (S34) → List (S50) → List Int → Option (Bool)
  | 0, _, _, _, _, _, _ => none
  | k + 1, x3, x28, x355000, x355001, x355002, x355003 => if x28 = true then (if 0 ≤ x3 then (if x3 < (x355000.length : Int) then ((thresherref6_Parse.f k (rdOf ByteArray.empty x355000 x3)).bind fun bt358 => (if bt358.2 = 0 then (thresherlaw8_EvalFuel.l1 k x3 bt358.1 0 x355000 x355001 x355002 x355003) else (thresherlaw8_EvalFuel.l0 k (wrap64 (x3 + 1)) x355000 x355001 x355002 x355003))) else (none)) else (none)) else ((thresherlaw8_wakes.f k).bind fun t356 => (some t356))
def thresherlaw8_EvalFuel.l1 : Nat → Int → List (S34) → Int → List ByteArray → List (S34) → List (S50) → List Int → Option (Bool)
  | 0, _, _, _, _, _, _, _ => none
  | k + 1, x3, x4, x6, x355000, x355001, x355002, x355003 => if x6 < (x355002.length : Int) then (thresherlaw8_EvalFuel.j3 k x3 x4 x6 (decide (x6 < 8)) x355000 x355001 x355002 x355003) else (thresherlaw8_EvalFuel.j3 k x3 x4 x6 false x355000 x355001 x355002 x355003)
def thresherlaw8_EvalFuel.j3 : Nat → Int → List (S34) → Int → Bool → List ByteArray → List (S34) → List (S50) → List Int → Option (Bool)
  | 0, _, _, _, _, _, _, _, _ => none
  | k + 1, x3, x4, x6, x51, x355000, x355001, x355002, x355003 => if x51 = true then (if 0 ≤ x6 then (if x6 < (x355002.length : Int) then ((eval_Run.f k x4 ((rd_T50 x355002 x6).f0.f0) ((rd_T50 x355002 x6).f0.f1) ((rd_T50 x355002 x6).f1) 2000).bind fun bt363 => ((thresherlaw8_num.f bt363.2.2).bind fun t368 => (if t368 = 0 then ((thresherref0_Num.f bt363.2.1 2000).bind fun t369 => (if t369 = true then ((eval_Run.f k x4 ((rd_T50 x355002 x6).f0.f0) ((rd_T50 x355002 x6).f0.f1) ((rd_T50 x355002 x6).f1) (wrap64 (2000 - bt363.2.1))).bind fun bt371 => ((thresherlaw8_num.f bt371.2.2).bind fun t376 => (if t376 = 0 then (if bt371.2.1 = 0 then ((thresherref0_EqRecs.f k bt371.1 bt363.1).bind fun t377 => (thresherlaw8_EvalFuel.j4 k x3 x4 x6 (wrap64 (2000 - bt363.2.1)) (!t377) x355000 x355001 x355002 x355003)) else (thresherlaw8_EvalFuel.j4 k x3 x4 x6 (wrap64 (2000 - bt363.2.1)) true x355000 x355001 x355002 x355003)) else (thresherlaw8_EvalFuel.j4 k x3 x4 x6 (wrap64 (2000 - bt363.2.1)) true x355000 x355001 x355002 x355003)))) else (some false))) else (thresherlaw8_EvalFuel.l1 k x3 x4 (wrap64 (x6 + 1)) x355000 x355001 x355002 x355003)))) else (none)) else (none)) else (thresherlaw8_EvalFuel.l0 k (wrap64 (x3 + 1)) x355000 x355001 x355002 x355003)
def thresherlaw8_EvalFuel.j4 : Nat → Int → List (S34) → Int → Int → Bool → List ByteArray → List (S34) → List (S50) → List Int → Option (Bool)
  | 0, _, _, _, _, _, _, _, _, _ => none
  | k + 1, x3, x4, x6, x10, x97, x355000, x355001, x355002, x355003 => if x97 = true then (some false) else (if x10 > 0 then (if 0 ≤ x6 then (if x6 < (x355002.length : Int) then ((eval_Run.f k x4 ((rd_T50 x355002 x6).f0.f0) ((rd_T50 x355002 x6).f0.f1) ((rd_T50 x355002 x6).f1) (wrap64 (x10 - 1))).bind fun bt379 => ((thresherlaw8_num.f bt379.2.2).bind fun t384 => (if t384 = 10 then (if bt379.2.1 = 0 then (if (bt379.1.length : Int) > 0 then (some false) else (thresherlaw8_EvalFuel.l1 k x3 x4 (wrap64 (x6 + 1)) x355000 x355001 x355002 x355003)) else (some false)) else (some false)))) else (none)) else (none)) else (thresherlaw8_EvalFuel.l1 k x3 x4 (wrap64 (x6 + 1)) x355000 x355001 x355002 x355003))
end
def thresherlaw8_EvalFuel.f (k : Nat) (l0_0 : List ByteArray) (l0_1 : List (S34)) (l0_2 : List (S50)) (l0_3 : List Int) : Option (Bool) := (thresherlaw8_Heavy.f k l0_0 l0_1 l0_2 l0_3).bind fun t355 => (if t355 = true then (some true) else (thresherlaw8_EvalFuel.l0 k 0 l0_0 l0_1 l0_2 l0_3))
theorem thresherlaw8_EvalFuel.mono_l : ∀ k, (∀ y0 y1 y2 y3 y4, LeO (thresherlaw8_EvalFuel.l0 k y0 y1 y2 y3 y4) (thresherlaw8_EvalFuel.l0 (k + 1) y0 y1 y2 y3 y4)) ∧ (∀ y0 y1 y2 y3 y4 y5, LeO (thresherlaw8_EvalFuel.j1 k y0 y1 y2 y3 y4 y5) (thresherlaw8_EvalFuel.j1 (k + 1) y0 y1 y2 y3 y4 y5)) ∧ (∀ y0 y1 y2 y3 y4 y5 y6, LeO (thresherlaw8_EvalFuel.l1 k y0 y1 y2 y3 y4 y5 y6) (thresherlaw8_EvalFuel.l1 (k + 1) y0 y1 y2 y3 y4 y5 y6)) ∧ (∀ y0 y1 y2 y3 y4 y5 y6 y7, LeO (thresherlaw8_EvalFuel.j3 k y0 y1 y2 y3 y4 y5 y6 y7) (thresherlaw8_EvalFuel.j3 (k + 1) y0 y1 y2 y3 y4 y5 y6 y7)) ∧ (∀ y0 y1 y2 y3 y4 y5 y6 y7 y8, LeO (thresherlaw8_EvalFuel.j4 k y0 y1 y2 y3 y4 y5 y6 y7 y8) (thresherlaw8_EvalFuel.j4 (k + 1) y0 y1 y2 y3 y4 y5 y6 y7 y8))
  | 0 => ⟨fun _ _ _ _ _ r h => by simp [thresherlaw8_EvalFuel.l0] at h, fun _ _ _ _ _ _ r h => by simp [thresherlaw8_EvalFuel.j1] at h, fun _ _ _ _ _ _ _ r h => by simp [thresherlaw8_EvalFuel.l1] at h, fun _ _ _ _ _ _ _ _ r h => by simp [thresherlaw8_EvalFuel.j3] at h, fun _ _ _ _ _ _ _ _ _ r h => by simp [thresherlaw8_EvalFuel.j4] at h⟩
  | k + 1 => by
    obtain ⟨ih0, ih1, ih2, ih3, ih4⟩ := thresherlaw8_EvalFuel.mono_l k
    refine ⟨?_, ?_, ?_, ?_, ?_⟩
    · intro y0 y1 y2 y3 y4
      unfold thresherlaw8_EvalFuel.l0
      repeat' first
      | (with_reducible exact ih0 _ _ _ _ _)
      | (with_reducible exact ih1 _ _ _ _ _ _)
      | (with_reducible exact ih2 _ _ _ _ _ _ _)
      | (with_reducible exact ih3 _ _ _ _ _ _ _ _)
      | (with_reducible exact ih4 _ _ _ _ _ _ _ _ _)
      | (with_reducible exact eval_Run.mono _ _ _ _ _ _)
      | (with_reducible exact thresherlaw8_Heavy.mono _ _ _ _ _)
      | (with_reducible exact thresherlaw8_wakes.mono _)
      | (with_reducible exact thresherref0_EqRecs.mono _ _ _)
      | (with_reducible exact thresherref6_Parse.mono _ _)
      | (with_reducible exact LeO.refl _)
      | (with_reducible exact LeO.none _)
      | (with_reducible refine LeO.ite ?_ ?_)
      | (with_reducible refine LeO.bind ?_ (fun _ => ?_))
      | exact ih0 _ _ _ _ _
      | exact ih1 _ _ _ _ _ _
      | exact ih2 _ _ _ _ _ _ _
      | exact ih3 _ _ _ _ _ _ _ _
      | exact ih4 _ _ _ _ _ _ _ _ _
      | exact eval_Run.mono _ _ _ _ _ _
      | exact thresherlaw8_Heavy.mono _ _ _ _ _
      | exact thresherlaw8_wakes.mono _
      | exact thresherref0_EqRecs.mono _ _ _
      | exact thresherref6_Parse.mono _ _
      | exact LeO.none _
      | refine LeO.ite ?_ ?_
      | refine LeO.bind ?_ (fun _ => ?_)
    · intro y0 y1 y2 y3 y4 y5
      unfold thresherlaw8_EvalFuel.j1
      repeat' first
      | (with_reducible exact ih0 _ _ _ _ _)
      | (with_reducible exact ih1 _ _ _ _ _ _)
      | (with_reducible exact ih2 _ _ _ _ _ _ _)
      | (with_reducible exact ih3 _ _ _ _ _ _ _ _)
      | (with_reducible exact ih4 _ _ _ _ _ _ _ _ _)
      | (with_reducible exact eval_Run.mono _ _ _ _ _ _)
      | (with_reducible exact thresherlaw8_Heavy.mono _ _ _ _ _)
      | (with_reducible exact thresherlaw8_wakes.mono _)
      | (with_reducible exact thresherref0_EqRecs.mono _ _ _)
      | (with_reducible exact thresherref6_Parse.mono _ _)
      | (with_reducible exact LeO.refl _)
      | (with_reducible exact LeO.none _)
      | (with_reducible refine LeO.ite ?_ ?_)
      | (with_reducible refine LeO.bind ?_ (fun _ => ?_))
      | exact ih0 _ _ _ _ _
      | exact ih1 _ _ _ _ _ _
      | exact ih2 _ _ _ _ _ _ _
      | exact ih3 _ _ _ _ _ _ _ _
      | exact ih4 _ _ _ _ _ _ _ _ _
      | exact eval_Run.mono _ _ _ _ _ _
      | exact thresherlaw8_Heavy.mono _ _ _ _ _
      | exact thresherlaw8_wakes.mono _
      | exact thresherref0_EqRecs.mono _ _ _
      | exact thresherref6_Parse.mono _ _
      | exact LeO.none _
      | refine LeO.ite ?_ ?_
      | refine LeO.bind ?_ (fun _ => ?_)
    · intro y0 y1 y2 y3 y4 y5 y6
      unfold thresherlaw8_EvalFuel.l1
      repeat' first
      | (with_reducible exact ih0 _ _ _ _ _)
      | (with_reducible exact ih1 _ _ _ _ _ _)
      | (with_reducible exact ih2 _ _ _ _ _ _ _)
      | (with_reducible exact ih3 _ _ _ _ _ _ _ _)
      | (with_reducible exact ih4 _ _ _ _ _ _ _ _ _)
      | (with_reducible exact eval_Run.mono _ _ _ _ _ _)
      | (with_reducible exact thresherlaw8_Heavy.mono _ _ _ _ _)
      | (with_reducible exact thresherlaw8_wakes.mono _)
      | (with_reducible exact thresherref0_EqRecs.mono _ _ _)
      | (with_reducible exact thresherref6_Parse.mono _ _)
      | (with_reducible exact LeO.refl _)
      | (with_reducible exact LeO.none _)
      | (with_reducible refine LeO.ite ?_ ?_)
      | (with_reducible refine LeO.bind ?_ (fun _ => ?_))
      | exact ih0 _ _ _ _ _
      | exact ih1 _ _ _ _ _ _
      | exact ih2 _ _ _ _ _ _ _
      | exact ih3 _ _ _ _ _ _ _ _
      | exact ih4 _ _ _ _ _ _ _ _ _
      | exact eval_Run.mono _ _ _ _ _ _
      | exact thresherlaw8_Heavy.mono _ _ _ _ _
      | exact thresherlaw8_wakes.mono _
      | exact thresherref0_EqRecs.mono _ _ _
      | exact thresherref6_Parse.mono _ _
      | exact LeO.none _
      | refine LeO.ite ?_ ?_
      | refine LeO.bind ?_ (fun _ => ?_)
    · intro y0 y1 y2 y3 y4 y5 y6 y7
      unfold thresherlaw8_EvalFuel.j3
      repeat' first
      | (with_reducible exact ih0 _ _ _ _ _)
      | (with_reducible exact ih1 _ _ _ _ _ _)
      | (with_reducible exact ih2 _ _ _ _ _ _ _)
      | (with_reducible exact ih3 _ _ _ _ _ _ _ _)
      | (with_reducible exact ih4 _ _ _ _ _ _ _ _ _)
      | (with_reducible exact eval_Run.mono _ _ _ _ _ _)
      | (with_reducible exact thresherlaw8_Heavy.mono _ _ _ _ _)
      | (with_reducible exact thresherlaw8_wakes.mono _)
      | (with_reducible exact thresherref0_EqRecs.mono _ _ _)
      | (with_reducible exact thresherref6_Parse.mono _ _)
      | (with_reducible exact LeO.refl _)
      | (with_reducible exact LeO.none _)
      | (with_reducible refine LeO.ite ?_ ?_)
      | (with_reducible refine LeO.bind ?_ (fun _ => ?_))
      | exact ih0 _ _ _ _ _
      | exact ih1 _ _ _ _ _ _
      | exact ih2 _ _ _ _ _ _ _
      | exact ih3 _ _ _ _ _ _ _ _
      | exact ih4 _ _ _ _ _ _ _ _ _
      | exact eval_Run.mono _ _ _ _ _ _
      | exact thresherlaw8_Heavy.mono _ _ _ _ _
      | exact thresherlaw8_wakes.mono _
      | exact thresherref0_EqRecs.mono _ _ _
      | exact thresherref6_Parse.mono _ _
      | exact LeO.none _
      | refine LeO.ite ?_ ?_
      | refine LeO.bind ?_ (fun _ => ?_)
    · intro y0 y1 y2 y3 y4 y5 y6 y7 y8
      unfold thresherlaw8_EvalFuel.j4
      repeat' first
      | (with_reducible exact ih0 _ _ _ _ _)
      | (with_reducible exact ih1 _ _ _ _ _ _)
      | (with_reducible exact ih2 _ _ _ _ _ _ _)
      | (with_reducible exact ih3 _ _ _ _ _ _ _ _)
      | (with_reducible exact ih4 _ _ _ _ _ _ _ _ _)
      | (with_reducible exact eval_Run.mono _ _ _ _ _ _)
      | (with_reducible exact thresherlaw8_Heavy.mono _ _ _ _ _)
      | (with_reducible exact thresherlaw8_wakes.mono _)
      | (with_reducible exact thresherref0_EqRecs.mono _ _ _)
      | (with_reducible exact thresherref6_Parse.mono _ _)
      | (with_reducible exact LeO.refl _)
      | (with_reducible exact LeO.none _)
      | (with_reducible refine LeO.ite ?_ ?_)
      | (with_reducible refine LeO.bind ?_ (fun _ => ?_))
      | exact ih0 _ _ _ _ _
      | exact ih1 _ _ _ _ _ _
      | exact ih2 _ _ _ _ _ _ _
      | exact ih3 _ _ _ _ _ _ _ _
      | exact ih4 _ _ _ _ _ _ _ _ _
      | exact eval_Run.mono _ _ _ _ _ _
      | exact thresherlaw8_Heavy.mono _ _ _ _ _
      | exact thresherlaw8_wakes.mono _
      | exact thresherref0_EqRecs.mono _ _ _
      | exact thresherref6_Parse.mono _ _
      | exact LeO.none _
      | refine LeO.ite ?_ ?_
      | refine LeO.bind ?_ (fun _ => ?_)
theorem thresherlaw8_EvalFuel.mono : ∀ a0 a1 a2 a3 k, LeO (thresherlaw8_EvalFuel.f k a0 a1 a2 a3) (thresherlaw8_EvalFuel.f (k + 1) a0 a1 a2 a3) := by
  intro a0 a1 a2 a3 k
  obtain ⟨ih0, ih1, ih2, ih3, ih4⟩ := thresherlaw8_EvalFuel.mono_l k
  unfold thresherlaw8_EvalFuel.f
  repeat' first
      | (with_reducible exact ih0 _ _ _ _ _)
      | (with_reducible exact ih1 _ _ _ _ _ _)
      | (with_reducible exact ih2 _ _ _ _ _ _ _)
      | (with_reducible exact ih3 _ _ _ _ _ _ _ _)
      | (with_reducible exact ih4 _ _ _ _ _ _ _ _ _)
      | (with_reducible exact eval_Run.mono _ _ _ _ _ _)
      | (with_reducible exact thresherlaw8_Heavy.mono _ _ _ _ _)
      | (with_reducible exact thresherlaw8_wakes.mono _)
      | (with_reducible exact thresherref0_EqRecs.mono _ _ _)
      | (with_reducible exact thresherref6_Parse.mono _ _)
      | (with_reducible exact LeO.refl _)
      | (with_reducible exact LeO.none _)
      | (with_reducible refine LeO.ite ?_ ?_)
      | (with_reducible refine LeO.bind ?_ (fun _ => ?_))
      | exact ih0 _ _ _ _ _
      | exact ih1 _ _ _ _ _ _
      | exact ih2 _ _ _ _ _ _ _
      | exact ih3 _ _ _ _ _ _ _ _
      | exact ih4 _ _ _ _ _ _ _ _ _
      | exact eval_Run.mono _ _ _ _ _ _
      | exact thresherlaw8_Heavy.mono _ _ _ _ _
      | exact thresherlaw8_wakes.mono _
      | exact thresherref0_EqRecs.mono _ _ _
      | exact thresherref6_Parse.mono _ _
      | exact LeO.none _
      | refine LeO.ite ?_ ?_
      | refine LeO.bind ?_ (fun _ => ?_)
set_option maxHeartbeats 8000000 in
set_option maxRecDepth 100000 in
theorem thresherlaw8_EvalFuel.calls (k : Nat) (A0_0 : Option Addr) (c0_0 : Nat) (l0_0 : List ByteArray) (A0_1 : Option Addr) (c0_1 : Nat) (l0_1 : List (S34)) (A0_2 : Option Addr) (c0_2 : Nat) (l0_2 : List (S50)) (A0_3 : Option Addr) (c0_3 : Nat) (l0_3 : List Int) (r : Bool) (w : World) (hr0_0 : Kd.C Kd.string w A0_0 l0_0.length l0_0) (hc0_0 : l0_0.length ≤ c0_0) (hr0_1 : Kd.C k34 w A0_1 l0_1.length l0_1) (hc0_1 : l0_1.length ≤ c0_1) (hr0_2 : Kd.C k50 w A0_2 l0_2.length l0_2) (hc0_2 : l0_2.length ≤ c0_2) (hr0_3 : Kd.C (Kd.int .i64) w A0_3 l0_3.length l0_3) (hc0_3 : l0_3.length ≤ c0_3) (h : thresherlaw8_EvalFuel.f k l0_0 l0_1 l0_2 l0_3 = some r) :
    Calls Try.prog 6 #[.agg #[.slice A0_0 l0_0.length c0_0, .slice A0_1 l0_1.length c0_1, .slice A0_2 l0_2.length c0_2, .slice A0_3 l0_3.length c0_3]] w fun e w' => e = .returned (.bool r) ∧ Below w.heap.size w w' := by
  have hu44 := Try.underlying44
  have hu50 := Try.underlying50
  have HR0_0 := Aside0.mk hr0_0
  have HC0_0 := Aside0.mk hc0_0
  clear hr0_0 hc0_0
  have HR0_1 := Aside0.mk hr0_1
  have HC0_1 := Aside0.mk hc0_1
  clear hr0_1 hc0_1
  have HR0_2 := Aside0.mk hr0_2
  have HC0_2 := Aside0.mk hc0_2
  clear hr0_2 hc0_2
  have HR0_3 := Aside0.mk hr0_3
  have HC0_3 := Aside0.mk hc0_3
  clear hr0_3 hc0_3
  have HB := Aside0.mk (Below.refl w.heap.size w)
  have H : ((thresherlaw8_Heavy.f k l0_0 l0_1 l0_2 l0_3).bind fun t355 => (if t355 = true then (some true) else (thresherlaw8_EvalFuel.l0 k 0 l0_0 l0_1 l0_2 l0_3))) = some r := h
  clear h
  replace H := Option.bind_eq_some_iff.mp H
  obtain ⟨t355, A20, H⟩ := H
  replace H : (if t355 = true then (some true) else (thresherlaw8_EvalFuel.l0 k 0 l0_0 l0_1 l0_2 l0_3)) = some r := H
  have A2 := Aside0.mk A20
  clear A20
  by_cases c3 : t355 = true
  · subst c3
    have H1 : (some true) = some r := by rw [if_pos rfl] at H; exact H
    clear H
    have H := H1
    clear H1
    obtain rfl := Option.some.inj H
    go_enter Try.func6, Try.ntmps6
    go_wp2_with (first | ((with_reducible refine gate_dst (N := 1) rfl ?_); (try (refine gate_guard (by rfl) ?_; dsimp only)); refine box_event ?hg (N := 1) ?hd (cs := #[.slice A0_0 l0_0.length c0_0, .slice A0_1 l0_1.length c0_1, .slice A0_2 l0_2.length c0_2, .slice A0_3 l0_3.length c0_3]) (t := 44) ?hr ?_; (case hd => rfl); (case hg => rfl); (case hr => first | (go_simp; done) | (go_simp; rfl)); intro gb354 hg w4 hbox hb; have n0_ := Aside0.mk (below_step (by repeat (first | (with_reducible first | exact HB.out | apply below_alloc | apply pw_below_drewN | apply below_drew1) | exact HB.out)) hb); have n1_ := Aside0.mk (hbox); have n2_ := Aside0.mk ((by rw [hg]; exact (below_size (by repeat (first | (with_reducible first | exact HB.out | apply below_alloc | apply pw_below_drewN | apply below_drew1) | exact HB.out))) : w.heap.size ≤ gb354)); have n3_ := Aside0.mk ((by rw [hg]; exact (below_size (by repeat (first | (with_reducible first | exact HB.out | apply below_alloc | apply pw_below_drewN | apply below_drew1) | exact HB.out))) : w.heap.size ≤ gb354)); clear HB; have HB := n0_; have BK354 := n1_; have GW354 := n2_; have GE354 := n3_; clear n0_ n1_ n2_ n3_; clear hb hbox hg; have hcz5_0 : w4.cell? ⟨gb354, 0, none⟩ = some (.slice A0_0 l0_0.length c0_0) := (blk_cell BK354.out 0).trans rfl; have hcz5_1 : w4.cell? ⟨gb354, 1, none⟩ = some (.slice A0_1 l0_1.length c0_1) := (blk_cell BK354.out 1).trans rfl; have hcz5_2 : w4.cell? ⟨gb354, 2, none⟩ = some (.slice A0_2 l0_2.length c0_2) := (blk_cell BK354.out 2).trans rfl; have hcz5_3 : w4.cell? ⟨gb354, 3, none⟩ = some (.slice A0_3 l0_3.length c0_3) := (blk_cell BK354.out 3).trans rfl; have hfz5_0 := blk_frozen BK354.out 0; have hfz5_1 := blk_frozen BK354.out 1; have hfz5_2 := blk_frozen BK354.out 2; have hfz5_3 := blk_frozen BK354.out 3) | ((with_reducible refine gate_callee (f := 22) rfl ?_); refine goesL_ (some 18) rfl rfl Try.func22 (by kernel_rfl) rfl #[.agg #[.slice A0_0 l0_0.length c0_0, .slice A0_1 l0_1.length c0_1, .slice A0_2 l0_2.length c0_2, .slice A0_3 l0_3.length c0_3]] rfl (by (try simp only [List.map_toArray, List.map_cons, List.map_nil]); first | done | rfl | (simp only [List.length_drop, List.length_take]; rfl)) ?_; (with_reducible refine (thresherlaw8_Heavy.calls k _ _ l0_0 _ _ l0_1 _ _ l0_2 _ _ l0_3 true _ ?side1 ?side2 ?side3 ?side4 ?side5 ?side6 ?side7 ?side8 A2.out).mono ?_); (case side1 => repeat (first | exact (Kd.C_below HR0_0.out HB.out) | (with_reducible refine Kd.C_alloc ?_ _) | (with_reducible refine Kd.C_drewN ?_ _) | (with_reducible refine Kd.C_drew ?_))); (case side2 => exact HC0_0.out); (case side3 => repeat (first | exact (Kd.C_below HR0_1.out HB.out) | (with_reducible refine Kd.C_alloc ?_ _) | (with_reducible refine Kd.C_drewN ?_ _) | (with_reducible refine Kd.C_drew ?_))); (case side4 => exact HC0_1.out); (case side5 => repeat (first | exact (Kd.C_below HR0_2.out HB.out) | (with_reducible refine Kd.C_alloc ?_ _) | (with_reducible refine Kd.C_drewN ?_ _) | (with_reducible refine Kd.C_drew ?_))); (case side6 => exact HC0_2.out); (case side7 => repeat (first | exact (Kd.C_below HR0_3.out HB.out) | (with_reducible refine Kd.C_alloc ?_ _) | (with_reducible refine Kd.C_drewN ?_ _) | (with_reducible refine Kd.C_drew ?_))); (case side8 => exact HC0_3.out); rintro e w6 ⟨rfl, hb⟩; refine ⟨_, rfl, ?_⟩; have n0_ := Aside0.mk (blk_below (g := gb354) (o := .cells #[.slice A0_0 l0_0.length c0_0, .slice A0_1 l0_1.length c0_1, .slice A0_2 l0_2.length c0_2, .slice A0_3 l0_3.length c0_3] 44 (0, 0)) (by (with_reducible repeat (first | refine blk_drewN ?_ _ | refine blk_drew ?_ | refine blk_alloc ?_ _)); exact BK354.out) hb); have n1_ := Aside0.mk (below_step (by repeat (first | (with_reducible first | exact HB.out | apply below_alloc | apply pw_below_drewN | apply below_drew1 | refine below_set ?_ GE354.out) | exact HB.out)) hb); clear BK354; clear HB; have BK354 := n0_; have HB := n1_; clear n0_ n1_; (try clear hb); (try clear hb2); (try clear hk); (try clear hi)))
    go_ret
    exact ⟨by first | rfl | (simp [errW_none, errW_some] <;> rfl) | (simp [*, errW_none, errW_some] <;> rfl), by repeat (first | (with_reducible first | exact HB.out | apply below_alloc | apply pw_below_drewN | apply below_drew1 | refine below_set ?_ GE354.out) | exact HB.out)⟩
  · replace c3 := Bool.eq_false_iff.mpr c3
    subst c3
    have H1 : (thresherlaw8_EvalFuel.l0 k 0 l0_0 l0_1 l0_2 l0_3) = some r := by rw [if_neg (show ¬ (false = true) by decide)] at H; exact H
    clear H
    have H := H1
    clear H1
    have H' := Aside0.mk H
    clear H
    go_enter Try.func6, Try.ntmps6
    go_wp2_with (first | ((with_reducible refine gate_dst (N := 1) rfl ?_); (try (refine gate_guard (by rfl) ?_; dsimp only)); refine box_event ?hg (N := 1) ?hd (cs := #[.slice A0_0 l0_0.length c0_0, .slice A0_1 l0_1.length c0_1, .slice A0_2 l0_2.length c0_2, .slice A0_3 l0_3.length c0_3]) (t := 44) ?hr ?_; (case hd => rfl); (case hg => rfl); (case hr => first | (go_simp; done) | (go_simp; rfl)); intro gb354 hg w7 hbox hb; have n0_ := Aside0.mk (below_step (by repeat (first | (with_reducible first | exact HB.out | apply below_alloc | apply pw_below_drewN | apply below_drew1) | exact HB.out)) hb); have n1_ := Aside0.mk (hbox); have n2_ := Aside0.mk ((by rw [hg]; exact (below_size (by repeat (first | (with_reducible first | exact HB.out | apply below_alloc | apply pw_below_drewN | apply below_drew1) | exact HB.out))) : w.heap.size ≤ gb354)); have n3_ := Aside0.mk ((by rw [hg]; exact (below_size (by repeat (first | (with_reducible first | exact HB.out | apply below_alloc | apply pw_below_drewN | apply below_drew1) | exact HB.out))) : w.heap.size ≤ gb354)); clear HB; have HB := n0_; have BK354 := n1_; have GW354 := n2_; have GE354 := n3_; clear n0_ n1_ n2_ n3_; clear hb hbox hg; have hcz8_0 : w7.cell? ⟨gb354, 0, none⟩ = some (.slice A0_0 l0_0.length c0_0) := (blk_cell BK354.out 0).trans rfl; have hcz8_1 : w7.cell? ⟨gb354, 1, none⟩ = some (.slice A0_1 l0_1.length c0_1) := (blk_cell BK354.out 1).trans rfl; have hcz8_2 : w7.cell? ⟨gb354, 2, none⟩ = some (.slice A0_2 l0_2.length c0_2) := (blk_cell BK354.out 2).trans rfl; have hcz8_3 : w7.cell? ⟨gb354, 3, none⟩ = some (.slice A0_3 l0_3.length c0_3) := (blk_cell BK354.out 3).trans rfl; have hfz8_0 := blk_frozen BK354.out 0; have hfz8_1 := blk_frozen BK354.out 1; have hfz8_2 := blk_frozen BK354.out 2; have hfz8_3 := blk_frozen BK354.out 3) | ((with_reducible refine gate_callee (f := 22) rfl ?_); refine goesL_ (some 18) rfl rfl Try.func22 (by kernel_rfl) rfl #[.agg #[.slice A0_0 l0_0.length c0_0, .slice A0_1 l0_1.length c0_1, .slice A0_2 l0_2.length c0_2, .slice A0_3 l0_3.length c0_3]] rfl (by (try simp only [List.map_toArray, List.map_cons, List.map_nil]); first | done | rfl | (simp only [List.length_drop, List.length_take]; rfl)) ?_; (with_reducible refine (thresherlaw8_Heavy.calls k _ _ l0_0 _ _ l0_1 _ _ l0_2 _ _ l0_3 false _ ?side1 ?side2 ?side3 ?side4 ?side5 ?side6 ?side7 ?side8 A2.out).mono ?_); (case side1 => repeat (first | exact (Kd.C_below HR0_0.out HB.out) | (with_reducible refine Kd.C_alloc ?_ _) | (with_reducible refine Kd.C_drewN ?_ _) | (with_reducible refine Kd.C_drew ?_))); (case side2 => exact HC0_0.out); (case side3 => repeat (first | exact (Kd.C_below HR0_1.out HB.out) | (with_reducible refine Kd.C_alloc ?_ _) | (with_reducible refine Kd.C_drewN ?_ _) | (with_reducible refine Kd.C_drew ?_))); (case side4 => exact HC0_1.out); (case side5 => repeat (first | exact (Kd.C_below HR0_2.out HB.out) | (with_reducible refine Kd.C_alloc ?_ _) | (with_reducible refine Kd.C_drewN ?_ _) | (with_reducible refine Kd.C_drew ?_))); (case side6 => exact HC0_2.out); (case side7 => repeat (first | exact (Kd.C_below HR0_3.out HB.out) | (with_reducible refine Kd.C_alloc ?_ _) | (with_reducible refine Kd.C_drewN ?_ _) | (with_reducible refine Kd.C_drew ?_))); (case side8 => exact HC0_3.out); rintro e w9 ⟨rfl, hb⟩; refine ⟨_, rfl, ?_⟩; have n0_ := Aside0.mk (blk_below (g := gb354) (o := .cells #[.slice A0_0 l0_0.length c0_0, .slice A0_1 l0_1.length c0_1, .slice A0_2 l0_2.length c0_2, .slice A0_3 l0_3.length c0_3] 44 (0, 0)) (by (with_reducible repeat (first | refine blk_drewN ?_ _ | refine blk_drew ?_ | refine blk_alloc ?_ _)); exact BK354.out) hb); have n1_ := Aside0.mk (below_step (by repeat (first | (with_reducible first | exact HB.out | apply below_alloc | apply pw_below_drewN | apply below_drew1 | refine below_set ?_ GE354.out) | exact HB.out)) hb); clear BK354; clear HB; have BK354 := n0_; have HB := n1_; clear n0_ n1_; (try clear hb); (try clear hb2); (try clear hk); (try clear hi)))
    go_loopg [3] k (fun kq v3 w' => ∃ (x3_1 : Int), v3 = .int .i64 x3_1 ∧ Aside0 (thresherlaw8_EvalFuel.l0 kq x3_1 l0_0 l0_1 l0_2 l0_3 = some r) ∧ Aside0 (kq ≤ k) ∧ Aside0 (w'.heap[gb354]? = some (.cells #[(.slice A0_0 l0_0.length c0_0), (.slice A0_1 l0_1.length c0_1), (.slice A0_2 l0_2.length c0_2), (.slice A0_3 l0_3.length c0_3)] 44 (0, 0))) ∧ Aside0 (Below w.heap.size w w'))
    case atStart => exact ⟨(0), (by first | rfl | (simp; done) | (simp [*]; done)), H', ⟨Nat.le_refl _⟩, ⟨by (with_reducible repeat (first | refine blk_drewN ?_ _ | refine blk_drew ?_ | refine blk_alloc ?_ _)); exact BK354.out⟩, ⟨by repeat (first | (with_reducible first | exact HB.out | apply below_alloc | apply pw_below_drewN | apply below_drew1 | refine below_set ?_ GE354.out) | exact HB.out)⟩⟩
    case round =>
      clear H'
      try clear c2
      try clear p2
      try clear c3
      try clear c6
      try clear hcz5_0
      try clear hcz5_1
      try clear hcz5_2
      try clear hcz5_3
      try clear hcz8_0
      try clear hcz8_1
      try clear hcz8_2
      try clear hcz8_3
      try clear hfz5_0
      try clear hfz5_1
      try clear hfz5_2
      try clear hfz5_3
      try clear hfz8_0
      try clear hfz8_1
      try clear hfz8_2
      try clear hfz8_3
      obtain ⟨x3_1, rfl, HA, HK1, BK354, HB⟩ := hrel
      cases gk with
      | zero => exact absurd HA.out (by simp [thresherlaw8_EvalFuel.l0])
      | succ k1 =>
        have H := HA.out
        clear HA
        simp only [thresherlaw8_EvalFuel.l0] at H
        have HC10 := Aside0.mk H
        clear H
        go_upto_region 4 with (fail)
        go_cut [28] (fun v28 wc => ∃ (kq : Nat) (x28_9 : Bool), v28 = .bool x28_9 ∧ Aside0 (thresherlaw8_EvalFuel.j1 kq x3_1 x28_9 l0_0 l0_1 l0_2 l0_3 = some r) ∧ Aside0 (kq ≤ k1) ∧ Aside0 (wc.heap[gb354]? = some (.cells #[(.slice A0_0 l0_0.length c0_0), (.slice A0_1 l0_1.length c0_1), (.slice A0_2 l0_2.length c0_2), (.slice A0_3 l0_3.length c0_3)] 44 (0, 0))) ∧ Aside0 (Below w.heap.size w wc))
        case first =>
          have H := HC10.out
          clear HC10
          by_cases c11 : x3_1 < (l0_0.length : Int)
          · rw [if_pos c11] at H
            have c11b0 : decide (x3_1 < (l0_0.length : Int)) = true := decide_eq_true c11
            clear c11
            (first | rw [c11b0] | (simp only [i64_w, i32_w]; rw [c11b0]) | skip)
            have H' := Aside0.mk H
            clear H
            have hcz12_0 : wr.cell? ⟨gb354, 0, none⟩ = some (.slice A0_0 l0_0.length c0_0) := (blk_cell BK354.out 0).trans rfl
            have hcz12_1 : wr.cell? ⟨gb354, 1, none⟩ = some (.slice A0_1 l0_1.length c0_1) := (blk_cell BK354.out 1).trans rfl
            have hcz12_2 : wr.cell? ⟨gb354, 2, none⟩ = some (.slice A0_2 l0_2.length c0_2) := (blk_cell BK354.out 2).trans rfl
            have hcz12_3 : wr.cell? ⟨gb354, 3, none⟩ = some (.slice A0_3 l0_3.length c0_3) := (blk_cell BK354.out 3).trans rfl
            have hfz12_0 := blk_frozen BK354.out 0
            have hfz12_1 := blk_frozen BK354.out 1
            have hfz12_2 := blk_frozen BK354.out 2
            have hfz12_3 := blk_frozen BK354.out 3
            go_wp2
            go_meet
            case rel => exact ⟨_, (decide (x3_1 < 8)), (by first | rfl | (simp; done) | (simp [*]; done)), H', ⟨by have := HK1.out; first | omega | exact Nat.le_refl _⟩, ⟨by (with_reducible repeat (first | refine blk_drewN ?_ _ | refine blk_drew ?_ | refine blk_alloc ?_ _)); exact BK354.out⟩, ⟨by repeat (first | (with_reducible first | exact HB.out | apply below_alloc | apply pw_below_drewN | apply below_drew1 | refine below_set ?_ GE354.out) | exact HB.out)⟩⟩
          · rw [if_neg c11] at H
            have c11b0 : decide (x3_1 < (l0_0.length : Int)) = false := decide_eq_false c11
            clear c11
            (first | rw [c11b0] | (simp only [i64_w, i32_w]; rw [c11b0]) | skip)
            have H' := Aside0.mk H
            clear H
            have hcz13_0 : wr.cell? ⟨gb354, 0, none⟩ = some (.slice A0_0 l0_0.length c0_0) := (blk_cell BK354.out 0).trans rfl
            have hcz13_1 : wr.cell? ⟨gb354, 1, none⟩ = some (.slice A0_1 l0_1.length c0_1) := (blk_cell BK354.out 1).trans rfl
            have hcz13_2 : wr.cell? ⟨gb354, 2, none⟩ = some (.slice A0_2 l0_2.length c0_2) := (blk_cell BK354.out 2).trans rfl
            have hcz13_3 : wr.cell? ⟨gb354, 3, none⟩ = some (.slice A0_3 l0_3.length c0_3) := (blk_cell BK354.out 3).trans rfl
            have hfz13_0 := blk_frozen BK354.out 0
            have hfz13_1 := blk_frozen BK354.out 1
            have hfz13_2 := blk_frozen BK354.out 2
            have hfz13_3 := blk_frozen BK354.out 3
            go_wp2
            go_meet
            case rel => exact ⟨_, (false), (by first | rfl | (simp; done) | (simp [*]; done)), H', ⟨by have := HK1.out; first | omega | exact Nat.le_refl _⟩, ⟨by (with_reducible repeat (first | refine blk_drewN ?_ _ | refine blk_drew ?_ | refine blk_alloc ?_ _)); exact BK354.out⟩, ⟨by repeat (first | (with_reducible first | exact HB.out | apply below_alloc | apply pw_below_drewN | apply below_drew1 | refine below_set ?_ GE354.out) | exact HB.out)⟩⟩
        case rest =>
          clear HC10
          try clear c1
          try clear c2
          try clear p2
          try clear c3
          try clear c6
          try clear c11
          try clear c11b0
          try clear hcz12_0
          try clear hcz12_1
          try clear hcz12_2
          try clear hcz12_3
          try clear hcz13_0
          try clear hcz13_1
          try clear hcz13_2
          try clear hcz13_3
          try clear hcz5_0
          try clear hcz5_1
          try clear hcz5_2
          try clear hcz5_3
          try clear hcz8_0
          try clear hcz8_1
          try clear hcz8_2
          try clear hcz8_3
          try clear hfz12_0
          try clear hfz12_1
          try clear hfz12_2
          try clear hfz12_3
          try clear hfz13_0
          try clear hfz13_1
          try clear hfz13_2
          try clear hfz13_3
          try clear hfz5_0
          try clear hfz5_1
          try clear hfz5_2
          try clear hfz5_3
          try clear hfz8_0
          try clear hfz8_1
          try clear hfz8_2
          try clear hfz8_3
          try clear p2
          obtain ⟨kq, x28_9, rfl, HA, HJ9, BK354, HB⟩ := hcut
          cases kq with
          | zero => exact absurd HA.out (by simp [thresherlaw8_EvalFuel.j1])
          | succ kj9 =>
            have H := HA.out
            clear HA
            simp only [thresherlaw8_EvalFuel.j1] at H
            by_cases c14 : x28_9 = true
            · subst c14
              have H1 : (if 0 ≤ x3_1 then (if x3_1 < (l0_0.length : Int) then ((thresherref6_Parse.f kj9 (rdOf ByteArray.empty l0_0 x3_1)).bind fun bt358 => (if bt358.2 = 0 then (thresherlaw8_EvalFuel.l1 kj9 x3_1 bt358.1 0 l0_0 l0_1 l0_2 l0_3) else (thresherlaw8_EvalFuel.l0 kj9 (wrap64 (x3_1 + 1)) l0_0 l0_1 l0_2 l0_3))) else (none)) else (none)) = some r := by rw [if_pos rfl] at H; exact H
              clear H
              have H := H1
              clear H1
              by_cases c15 : 0 ≤ x3_1
              · rw [if_pos c15] at H
                have c15b0 : decide (0 ≤ x3_1) = true := decide_eq_true c15
                clear c15
                by_cases c16 : x3_1 < (l0_0.length : Int)
                · rw [if_pos c16] at H
                  have c16b0 : decide (x3_1 < (l0_0.length : Int)) = true := decide_eq_true c16
                  clear c16
                  replace H := Option.bind_eq_some_iff.mp H
                  obtain ⟨⟨t358, t359⟩, A170, H⟩ := H
                  replace H : (if t359 = 0 then (thresherlaw8_EvalFuel.l1 kj9 x3_1 t358 0 l0_0 l0_1 l0_2 l0_3) else (thresherlaw8_EvalFuel.l0 kj9 (wrap64 (x3_1 + 1)) l0_0 l0_1 l0_2 l0_3)) = some r := H
                  have A17 := Aside0.mk A170
                  clear A170
                  by_cases c18 : t359 = 0
                  · rw [if_pos c18] at H
                    have c18b0 : (t359 == 0) = true := beq_iff_eq.mpr c18
                    have c18b1 : (t359 != 0) = false := bne_eq_false_iff_eq.mpr c18
                    clear c18
                    have H' := Aside0.mk H
                    clear H
                    have hcz19_0 : wc.cell? ⟨gb354, 0, none⟩ = some (.slice A0_0 l0_0.length c0_0) := (blk_cell BK354.out 0).trans rfl
                    have hcz19_1 : wc.cell? ⟨gb354, 1, none⟩ = some (.slice A0_1 l0_1.length c0_1) := (blk_cell BK354.out 1).trans rfl
                    have hcz19_2 : wc.cell? ⟨gb354, 2, none⟩ = some (.slice A0_2 l0_2.length c0_2) := (blk_cell BK354.out 2).trans rfl
                    have hcz19_3 : wc.cell? ⟨gb354, 3, none⟩ = some (.slice A0_3 l0_3.length c0_3) := (blk_cell BK354.out 3).trans rfl
                    have hfz19_0 := blk_frozen BK354.out 0
                    have hfz19_1 := blk_frozen BK354.out 1
                    have hfz19_2 := blk_frozen BK354.out 2
                    have hfz19_3 := blk_frozen BK354.out 3
                    have p357 : 0 ≤ (x3_1 : Int) := of_decide_eq_true (by first | (with_reducible assumption) | assumption)
                    have q357 : x3_1 < (l0_0.length : Int) := of_decide_eq_true (by first | (with_reducible assumption) | assumption)
                    obtain ⟨ad357, e357, hx357_0⟩ := Kd.at_string HR0_0.out x3_1 p357 q357
                    cases e357
                    replace hx357_0 := (HB.out.cell (World.block_lt_of_cell? w _ hx357_0)).trans hx357_0
                    replace p357 := eq_true p357
                    replace q357 := eq_true q357
                    go_wp2_with (first | ((with_reducible refine gate_callee (f := 21) rfl ?_); refine goesL_ (some 38) rfl rfl Try.func21 (by kernel_rfl) rfl #[.string (rdOf ByteArray.empty l0_0 x3_1)] rfl (by (try simp only [List.map_toArray, List.map_cons, List.map_nil]); first | done | rfl | (simp only [List.length_drop, List.length_take]; rfl)) ?_; (with_reducible refine (thresherref6_Parse.calls kj9 (rdOf ByteArray.empty l0_0 x3_1) t358 t359 _ A17.out).mono ?_); rintro e w20 ⟨v360, rfl, ho0, hb⟩; refine ⟨_, rfl, ?_⟩; have n0_ := Aside0.mk (Kd.R_lower ho0 (below_size (by repeat (first | (with_reducible first | exact HB.out | apply below_alloc | apply pw_below_drewN | apply below_drew1 | refine below_set ?_ GE354.out) | exact HB.out)))); have n1_ := Aside0.mk (blk_below (g := gb354) (o := .cells #[.slice (some ad357) l0_0.length c0_0, .slice A0_1 l0_1.length c0_1, .slice A0_2 l0_2.length c0_2, .slice A0_3 l0_3.length c0_3] 44 (0, 0)) (by (with_reducible repeat (first | refine blk_drewN ?_ _ | refine blk_drew ?_ | refine blk_alloc ?_ _)); exact BK354.out) hb); have n2_ := Aside0.mk (below_step (by repeat (first | (with_reducible first | exact HB.out | apply below_alloc | apply pw_below_drewN | apply below_drew1 | refine below_set ?_ GE354.out) | exact HB.out)) hb); clear BK354; clear HB; have HO361 := n0_; have BK354 := n1_; have HB := n2_; clear n0_ n1_ n2_; (try clear hb); (try clear hb2); (try clear hk); (try clear hi); (try clear ho0)))
                    go_loopg [6] kj9 (fun kq v6 w' => ∃ (x6_3 : Int), v6 = .int .i64 x6_3 ∧ Aside0 (thresherlaw8_EvalFuel.l1 kq x3_1 t358 x6_3 l0_0 l0_1 l0_2 l0_3 = some r) ∧ Aside0 (kq ≤ kj9) ∧ Aside0 (Kd.R k34 34 w' w.heap.size (fun _ => True) v360 t358) ∧ Aside0 (w'.heap[gb354]? = some (.cells #[(.slice (some ad357) l0_0.length c0_0), (.slice A0_1 l0_1.length c0_1), (.slice A0_2 l0_2.length c0_2), (.slice A0_3 l0_3.length c0_3)] 44 (0, 0))) ∧ Aside0 (Below w.heap.size w w'))
                    case atStart => exact ⟨(0), (by first | rfl | (simp; done) | (simp [*]; done)), H', ⟨Nat.le_refl _⟩, ⟨by (with_reducible repeat (first | apply Kd.R_alloc | apply Kd.R_drewN | apply Kd.R_drew)); exact HO361.out⟩, ⟨by (with_reducible repeat (first | refine blk_drewN ?_ _ | refine blk_drew ?_ | refine blk_alloc ?_ _)); exact BK354.out⟩, ⟨by repeat (first | (with_reducible first | exact HB.out | apply below_alloc | apply pw_below_drewN | apply below_drew1 | refine below_set ?_ GE354.out) | exact HB.out)⟩⟩
                    case round =>
                      clear H'
                      try clear c1
                      try clear c2
                      try clear p2
                      try clear c3
                      try clear p3
                      try clear q3
                      try clear hx3
                      try clear c6
                      try clear p6
                      try clear c11
                      try clear c11b0
                      try clear c14
                      try clear c15
                      try clear c15b0
                      try clear c16
                      try clear c16b0
                      try clear c18
                      try clear c18b0
                      try clear c18b1
                      try clear hcz12_0
                      try clear hcz12_1
                      try clear hcz12_2
                      try clear hcz12_3
                      try clear hcz13_0
                      try clear hcz13_1
                      try clear hcz13_2
                      try clear hcz13_3
                      try clear hcz19_0
                      try clear hcz19_1
                      try clear hcz19_2
                      try clear hcz19_3
                      try clear hcz5_0
                      try clear hcz5_1
                      try clear hcz5_2
                      try clear hcz5_3
                      try clear hcz8_0
                      try clear hcz8_1
                      try clear hcz8_2
                      try clear hcz8_3
                      try clear hfz12_0
                      try clear hfz12_1
                      try clear hfz12_2
                      try clear hfz12_3
                      try clear hfz13_0
                      try clear hfz13_1
                      try clear hfz13_2
                      try clear hfz13_3
                      try clear hfz19_0
                      try clear hfz19_1
                      try clear hfz19_2
                      try clear hfz19_3
                      try clear hfz5_0
                      try clear hfz5_1
                      try clear hfz5_2
                      try clear hfz5_3
                      try clear hfz8_0
                      try clear hfz8_1
                      try clear hfz8_2
                      try clear hfz8_3
                      try clear hx357_0
                      try clear p2
                      try clear p357
                      try clear q357
                      obtain ⟨x6_3, rfl, HA, HK3, HO_4, BK354, HB⟩ := hrel
                      cases gk with
                      | zero => exact absurd HA.out (by simp [thresherlaw8_EvalFuel.l1])
                      | succ k3 =>
                        have H := HA.out
                        clear HA
                        simp only [thresherlaw8_EvalFuel.l1] at H
                        have HC21 := Aside0.mk H
                        clear H
                        go_upto_region 9 with (fail)
                        go_cut [51] (fun v51 wc => ∃ (kq : Nat) (x51_20 : Bool), v51 = .bool x51_20 ∧ Aside0 (thresherlaw8_EvalFuel.j3 kq x3_1 t358 x6_3 x51_20 l0_0 l0_1 l0_2 l0_3 = some r) ∧ Aside0 (kq ≤ k3) ∧ Aside0 (Kd.R k34 34 wc w.heap.size (fun _ => True) v360 t358) ∧ Aside0 (wc.heap[gb354]? = some (.cells #[(.slice (some ad357) l0_0.length c0_0), (.slice A0_1 l0_1.length c0_1), (.slice A0_2 l0_2.length c0_2), (.slice A0_3 l0_3.length c0_3)] 44 (0, 0))) ∧ Aside0 (Below w.heap.size w wc))
                        case first =>
                          have H := HC21.out
                          clear HC21
                          by_cases c22 : x6_3 < (l0_2.length : Int)
                          · rw [if_pos c22] at H
                            have c22b0 : decide (x6_3 < (l0_2.length : Int)) = true := decide_eq_true c22
                            clear c22
                            (first | rw [c22b0] | (simp only [i64_w, i32_w]; rw [c22b0]) | skip)
                            have H' := Aside0.mk H
                            clear H
                            have hcz23_0 : wr.cell? ⟨gb354, 0, none⟩ = some (.slice (some ad357) l0_0.length c0_0) := (blk_cell BK354.out 0).trans rfl
                            have hcz23_1 : wr.cell? ⟨gb354, 1, none⟩ = some (.slice A0_1 l0_1.length c0_1) := (blk_cell BK354.out 1).trans rfl
                            have hcz23_2 : wr.cell? ⟨gb354, 2, none⟩ = some (.slice A0_2 l0_2.length c0_2) := (blk_cell BK354.out 2).trans rfl
                            have hcz23_3 : wr.cell? ⟨gb354, 3, none⟩ = some (.slice A0_3 l0_3.length c0_3) := (blk_cell BK354.out 3).trans rfl
                            have hfz23_0 := blk_frozen BK354.out 0
                            have hfz23_1 := blk_frozen BK354.out 1
                            have hfz23_2 := blk_frozen BK354.out 2
                            have hfz23_3 := blk_frozen BK354.out 3
                            go_wp2
                            go_meet
                            case rel => exact ⟨_, (decide (x6_3 < 8)), (by first | rfl | (simp; done) | (simp [*]; done)), H', ⟨by have := HK1.out; have := HJ9.out; have := HK3.out; first | omega | exact Nat.le_refl _⟩, ⟨by (with_reducible repeat (first | apply Kd.R_alloc | apply Kd.R_drewN | apply Kd.R_drew)); exact HO_4.out⟩, ⟨by (with_reducible repeat (first | refine blk_drewN ?_ _ | refine blk_drew ?_ | refine blk_alloc ?_ _)); exact BK354.out⟩, ⟨by repeat (first | (with_reducible first | exact HB.out | apply below_alloc | apply pw_below_drewN | apply below_drew1 | refine below_set ?_ GE354.out) | exact HB.out)⟩⟩
                          · rw [if_neg c22] at H
                            have c22b0 : decide (x6_3 < (l0_2.length : Int)) = false := decide_eq_false c22
                            clear c22
                            (first | rw [c22b0] | (simp only [i64_w, i32_w]; rw [c22b0]) | skip)
                            have H' := Aside0.mk H
                            clear H
                            have hcz24_0 : wr.cell? ⟨gb354, 0, none⟩ = some (.slice (some ad357) l0_0.length c0_0) := (blk_cell BK354.out 0).trans rfl
                            have hcz24_1 : wr.cell? ⟨gb354, 1, none⟩ = some (.slice A0_1 l0_1.length c0_1) := (blk_cell BK354.out 1).trans rfl
                            have hcz24_2 : wr.cell? ⟨gb354, 2, none⟩ = some (.slice A0_2 l0_2.length c0_2) := (blk_cell BK354.out 2).trans rfl
                            have hcz24_3 : wr.cell? ⟨gb354, 3, none⟩ = some (.slice A0_3 l0_3.length c0_3) := (blk_cell BK354.out 3).trans rfl
                            have hfz24_0 := blk_frozen BK354.out 0
                            have hfz24_1 := blk_frozen BK354.out 1
                            have hfz24_2 := blk_frozen BK354.out 2
                            have hfz24_3 := blk_frozen BK354.out 3
                            go_wp2
                            go_meet
                            case rel => exact ⟨_, (false), (by first | rfl | (simp; done) | (simp [*]; done)), H', ⟨by have := HK1.out; have := HJ9.out; have := HK3.out; first | omega | exact Nat.le_refl _⟩, ⟨by (with_reducible repeat (first | apply Kd.R_alloc | apply Kd.R_drewN | apply Kd.R_drew)); exact HO_4.out⟩, ⟨by (with_reducible repeat (first | refine blk_drewN ?_ _ | refine blk_drew ?_ | refine blk_alloc ?_ _)); exact BK354.out⟩, ⟨by repeat (first | (with_reducible first | exact HB.out | apply below_alloc | apply pw_below_drewN | apply below_drew1 | refine below_set ?_ GE354.out) | exact HB.out)⟩⟩
                        case rest =>
                          clear HC21
                          try clear c1
                          try clear c2
                          try clear p2
                          try clear c3
                          try clear p3
                          try clear q3
                          try clear hx3
                          try clear c6
                          try clear p6
                          try clear c11
                          try clear c11b0
                          try clear c14
                          try clear c15
                          try clear c15b0
                          try clear c16
                          try clear c16b0
                          try clear c18
                          try clear c18b0
                          try clear c18b1
                          try clear c21
                          try clear c22
                          try clear c22b0
                          try clear hcz12_0
                          try clear hcz12_1
                          try clear hcz12_2
                          try clear hcz12_3
                          try clear hcz13_0
                          try clear hcz13_1
                          try clear hcz13_2
                          try clear hcz13_3
                          try clear hcz19_0
                          try clear hcz19_1
                          try clear hcz19_2
                          try clear hcz19_3
                          try clear hcz23_0
                          try clear hcz23_1
                          try clear hcz23_2
                          try clear hcz23_3
                          try clear hcz24_0
                          try clear hcz24_1
                          try clear hcz24_2
                          try clear hcz24_3
                          try clear hcz5_0
                          try clear hcz5_1
                          try clear hcz5_2
                          try clear hcz5_3
                          try clear hcz8_0
                          try clear hcz8_1
                          try clear hcz8_2
                          try clear hcz8_3
                          try clear hfz12_0
                          try clear hfz12_1
                          try clear hfz12_2
                          try clear hfz12_3
                          try clear hfz13_0
                          try clear hfz13_1
                          try clear hfz13_2
                          try clear hfz13_3
                          try clear hfz19_0
                          try clear hfz19_1
                          try clear hfz19_2
                          try clear hfz19_3
                          try clear hfz23_0
                          try clear hfz23_1
                          try clear hfz23_2
                          try clear hfz23_3
                          try clear hfz24_0
                          try clear hfz24_1
                          try clear hfz24_2
                          try clear hfz24_3
                          try clear hfz5_0
                          try clear hfz5_1
                          try clear hfz5_2
                          try clear hfz5_3
                          try clear hfz8_0
                          try clear hfz8_1
                          try clear hfz8_2
                          try clear hfz8_3
                          try clear hx357_0
                          try clear p2
                          try clear p3
                          try clear p357
                          try clear p6
                          try clear q3
                          try clear q357
                          obtain ⟨kq, x51_20, rfl, HA, HJ20, HO_4, BK354, HB⟩ := hcut
                          cases kq with
                          | zero => exact absurd HA.out (by simp [thresherlaw8_EvalFuel.j3])
                          | succ kj20 =>
                            have H := HA.out
                            clear HA
                            simp only [thresherlaw8_EvalFuel.j3] at H
                            by_cases c25 : x51_20 = true
                            · subst c25
                              have H1 : (if 0 ≤ x6_3 then (if x6_3 < (l0_2.length : Int) then ((eval_Run.f kj20 t358 ((rd_T50 l0_2 x6_3).f0.f0) ((rd_T50 l0_2 x6_3).f0.f1) ((rd_T50 l0_2 x6_3).f1) 2000).bind fun bt363 => ((thresherlaw8_num.f bt363.2.2).bind fun t368 => (if t368 = 0 then ((thresherref0_Num.f bt363.2.1 2000).bind fun t369 => (if t369 = true then ((eval_Run.f kj20 t358 ((rd_T50 l0_2 x6_3).f0.f0) ((rd_T50 l0_2 x6_3).f0.f1) ((rd_T50 l0_2 x6_3).f1) (wrap64 (2000 - bt363.2.1))).bind fun bt371 => ((thresherlaw8_num.f bt371.2.2).bind fun t376 => (if t376 = 0 then (if bt371.2.1 = 0 then ((thresherref0_EqRecs.f kj20 bt371.1 bt363.1).bind fun t377 => (thresherlaw8_EvalFuel.j4 kj20 x3_1 t358 x6_3 (wrap64 (2000 - bt363.2.1)) (!t377) l0_0 l0_1 l0_2 l0_3)) else (thresherlaw8_EvalFuel.j4 kj20 x3_1 t358 x6_3 (wrap64 (2000 - bt363.2.1)) true l0_0 l0_1 l0_2 l0_3)) else (thresherlaw8_EvalFuel.j4 kj20 x3_1 t358 x6_3 (wrap64 (2000 - bt363.2.1)) true l0_0 l0_1 l0_2 l0_3)))) else (some false))) else (thresherlaw8_EvalFuel.l1 kj20 x3_1 t358 (wrap64 (x6_3 + 1)) l0_0 l0_1 l0_2 l0_3)))) else (none)) else (none)) = some r := by rw [if_pos rfl] at H; exact H
                              clear H
                              have H := H1
                              clear H1
                              by_cases c26 : 0 ≤ x6_3
                              · rw [if_pos c26] at H
                                have c26b0 : decide (0 ≤ x6_3) = true := decide_eq_true c26
                                clear c26
                                by_cases c27 : x6_3 < (l0_2.length : Int)
                                · rw [if_pos c27] at H
                                  have c27b0 : decide (x6_3 < (l0_2.length : Int)) = true := decide_eq_true c27
                                  clear c27
                                  replace H := Option.bind_eq_some_iff.mp H
                                  obtain ⟨⟨t363, t366, t367⟩, A280, H⟩ := H
                                  replace H : ((thresherlaw8_num.f t367).bind fun t368 => (if t368 = 0 then ((thresherref0_Num.f t366 2000).bind fun t369 => (if t369 = true then ((eval_Run.f kj20 t358 ((rd_T50 l0_2 x6_3).f0.f0) ((rd_T50 l0_2 x6_3).f0.f1) ((rd_T50 l0_2 x6_3).f1) (wrap64 (2000 - t366))).bind fun bt371 => ((thresherlaw8_num.f bt371.2.2).bind fun t376 => (if t376 = 0 then (if bt371.2.1 = 0 then ((thresherref0_EqRecs.f kj20 bt371.1 t363).bind fun t377 => (thresherlaw8_EvalFuel.j4 kj20 x3_1 t358 x6_3 (wrap64 (2000 - t366)) (!t377) l0_0 l0_1 l0_2 l0_3)) else (thresherlaw8_EvalFuel.j4 kj20 x3_1 t358 x6_3 (wrap64 (2000 - t366)) true l0_0 l0_1 l0_2 l0_3)) else (thresherlaw8_EvalFuel.j4 kj20 x3_1 t358 x6_3 (wrap64 (2000 - t366)) true l0_0 l0_1 l0_2 l0_3)))) else (some false))) else (thresherlaw8_EvalFuel.l1 kj20 x3_1 t358 (wrap64 (x6_3 + 1)) l0_0 l0_1 l0_2 l0_3))) = some r := H
                                  have A28 := Aside0.mk A280
                                  clear A280
                                  replace H := Option.bind_eq_some_iff.mp H
                                  obtain ⟨t368, A290, H⟩ := H
                                  replace H : (if t368 = 0 then ((thresherref0_Num.f t366 2000).bind fun t369 => (if t369 = true then ((eval_Run.f kj20 t358 ((rd_T50 l0_2 x6_3).f0.f0) ((rd_T50 l0_2 x6_3).f0.f1) ((rd_T50 l0_2 x6_3).f1) (wrap64 (2000 - t366))).bind fun bt371 => ((thresherlaw8_num.f bt371.2.2).bind fun t376 => (if t376 = 0 then (if bt371.2.1 = 0 then ((thresherref0_EqRecs.f kj20 bt371.1 t363).bind fun t377 => (thresherlaw8_EvalFuel.j4 kj20 x3_1 t358 x6_3 (wrap64 (2000 - t366)) (!t377) l0_0 l0_1 l0_2 l0_3)) else (thresherlaw8_EvalFuel.j4 kj20 x3_1 t358 x6_3 (wrap64 (2000 - t366)) true l0_0 l0_1 l0_2 l0_3)) else (thresherlaw8_EvalFuel.j4 kj20 x3_1 t358 x6_3 (wrap64 (2000 - t366)) true l0_0 l0_1 l0_2 l0_3)))) else (some false))) else (thresherlaw8_EvalFuel.l1 kj20 x3_1 t358 (wrap64 (x6_3 + 1)) l0_0 l0_1 l0_2 l0_3)) = some r := H
                                  have A29 := Aside0.mk A290
                                  clear A290
                                  by_cases c30 : t368 = 0
                                  · rw [if_pos c30] at H
                                    have c30b0 : (t368 == 0) = true := beq_iff_eq.mpr c30
                                    have c30b1 : (t368 != 0) = false := bne_eq_false_iff_eq.mpr c30
                                    clear c30
                                    replace H := Option.bind_eq_some_iff.mp H
                                    obtain ⟨t369, A310, H⟩ := H
                                    replace H : (if t369 = true then ((eval_Run.f kj20 t358 ((rd_T50 l0_2 x6_3).f0.f0) ((rd_T50 l0_2 x6_3).f0.f1) ((rd_T50 l0_2 x6_3).f1) (wrap64 (2000 - t366))).bind fun bt371 => ((thresherlaw8_num.f bt371.2.2).bind fun t376 => (if t376 = 0 then (if bt371.2.1 = 0 then ((thresherref0_EqRecs.f kj20 bt371.1 t363).bind fun t377 => (thresherlaw8_EvalFuel.j4 kj20 x3_1 t358 x6_3 (wrap64 (2000 - t366)) (!t377) l0_0 l0_1 l0_2 l0_3)) else (thresherlaw8_EvalFuel.j4 kj20 x3_1 t358 x6_3 (wrap64 (2000 - t366)) true l0_0 l0_1 l0_2 l0_3)) else (thresherlaw8_EvalFuel.j4 kj20 x3_1 t358 x6_3 (wrap64 (2000 - t366)) true l0_0 l0_1 l0_2 l0_3)))) else (some false)) = some r := H
                                    have A31 := Aside0.mk A310
                                    clear A310
                                    by_cases c32 : t369 = true
                                    · subst c32
                                      have H1 : ((eval_Run.f kj20 t358 ((rd_T50 l0_2 x6_3).f0.f0) ((rd_T50 l0_2 x6_3).f0.f1) ((rd_T50 l0_2 x6_3).f1) (wrap64 (2000 - t366))).bind fun bt371 => ((thresherlaw8_num.f bt371.2.2).bind fun t376 => (if t376 = 0 then (if bt371.2.1 = 0 then ((thresherref0_EqRecs.f kj20 bt371.1 t363).bind fun t377 => (thresherlaw8_EvalFuel.j4 kj20 x3_1 t358 x6_3 (wrap64 (2000 - t366)) (!t377) l0_0 l0_1 l0_2 l0_3)) else (thresherlaw8_EvalFuel.j4 kj20 x3_1 t358 x6_3 (wrap64 (2000 - t366)) true l0_0 l0_1 l0_2 l0_3)) else (thresherlaw8_EvalFuel.j4 kj20 x3_1 t358 x6_3 (wrap64 (2000 - t366)) true l0_0 l0_1 l0_2 l0_3)))) = some r := by rw [if_pos rfl] at H; exact H
                                      clear H
                                      have H := H1
                                      clear H1
                                      replace H := Option.bind_eq_some_iff.mp H
                                      obtain ⟨⟨t371, t374, t375⟩, A330, H⟩ := H
                                      replace H : ((thresherlaw8_num.f t375).bind fun t376 => (if t376 = 0 then (if t374 = 0 then ((thresherref0_EqRecs.f kj20 t371 t363).bind fun t377 => (thresherlaw8_EvalFuel.j4 kj20 x3_1 t358 x6_3 (wrap64 (2000 - t366)) (!t377) l0_0 l0_1 l0_2 l0_3)) else (thresherlaw8_EvalFuel.j4 kj20 x3_1 t358 x6_3 (wrap64 (2000 - t366)) true l0_0 l0_1 l0_2 l0_3)) else (thresherlaw8_EvalFuel.j4 kj20 x3_1 t358 x6_3 (wrap64 (2000 - t366)) true l0_0 l0_1 l0_2 l0_3))) = some r := H
                                      have A33 := Aside0.mk A330
                                      clear A330
                                      have HC34 := Aside0.mk H
                                      clear H
                                      have hcz35_0 : wc.cell? ⟨gb354, 0, none⟩ = some (.slice (some ad357) l0_0.length c0_0) := (blk_cell BK354.out 0).trans rfl
                                      have hcz35_1 : wc.cell? ⟨gb354, 1, none⟩ = some (.slice A0_1 l0_1.length c0_1) := (blk_cell BK354.out 1).trans rfl
                                      have hcz35_2 : wc.cell? ⟨gb354, 2, none⟩ = some (.slice A0_2 l0_2.length c0_2) := (blk_cell BK354.out 2).trans rfl
                                      have hcz35_3 : wc.cell? ⟨gb354, 3, none⟩ = some (.slice A0_3 l0_3.length c0_3) := (blk_cell BK354.out 3).trans rfl
                                      have hfz35_0 := blk_frozen BK354.out 0
                                      have hfz35_1 := blk_frozen BK354.out 1
                                      have hfz35_2 := blk_frozen BK354.out 2
                                      have hfz35_3 := blk_frozen BK354.out 3
                                      have p362 : 0 ≤ (x6_3 : Int) := of_decide_eq_true (by first | (with_reducible assumption) | assumption)
                                      have q362 : x6_3 < (l0_2.length : Int) := of_decide_eq_true (by first | (with_reducible assumption) | assumption)
                                      obtain ⟨ad362, e362, hx362_0, hx362_1, hx362_2⟩ := at_T50 HR0_2.out x6_3 p362 q362
                                      cases e362
                                      replace hx362_0 := (HB.out.cell (World.block_lt_of_cell? w _ hx362_0)).trans hx362_0
                                      replace hx362_1 := (HB.out.cell (World.block_lt_of_cell? w _ hx362_1)).trans hx362_1
                                      replace hx362_2 := (HB.out.cell (World.block_lt_of_cell? w _ hx362_2)).trans hx362_2
                                      replace p362 := eq_true p362
                                      replace q362 := eq_true q362
                                      obtain ⟨Ao36, co36, eo36⟩ := Kd.R_slice HO_4.out
                                      subst eo36
                                      go_upto_region 17 with (first | ((with_reducible refine gate_callee (f := 25) rfl ?_); refine goesL_ (some 61) rfl rfl Try.func25 (by kernel_rfl) rfl #[.slice Ao36 t358.length co36, .agg #[.int .i64 ((rd_T50 l0_2 x6_3).f0.f0), .string ((rd_T50 l0_2 x6_3).f0.f1), .int .i64 ((rd_T50 l0_2 x6_3).f1)], .int .i64 2000] rfl (by (try simp only [List.map_toArray, List.map_cons, List.map_nil]); first | done | rfl | (simp only [List.length_drop, List.length_take]; rfl)) ?_; (with_reducible refine (eval_Run.calls kj20 _ _ t358 ((rd_T50 l0_2 x6_3).f0.f0) ((rd_T50 l0_2 x6_3).f0.f1) ((rd_T50 l0_2 x6_3).f1) 2000 t363 t366 t367 _ ?side1 ?side2 A28.out).mono ?_); (case side1 => repeat (first | exact (Kd.R_reads' HO_4.out).2.2 | (with_reducible refine Kd.C_alloc ?_ _) | (with_reducible refine Kd.C_drewN ?_ _) | (with_reducible refine Kd.C_drew ?_))); (case side2 => exact (Kd.R_reads' HO_4.out).2.1); rintro e w37 ⟨v364, rfl, ho0, hb⟩; refine ⟨_, rfl, ?_⟩; have n0_ := Aside0.mk (Kd.R_below (by (with_reducible repeat (first | apply Kd.R_alloc | apply Kd.R_drewN | apply Kd.R_drew)); exact HO_4.out) hb); have n1_ := Aside0.mk (Kd.R_lower ho0 (below_size (by repeat (first | (with_reducible first | exact HB.out | apply below_alloc | apply pw_below_drewN | apply below_drew1 | refine below_set ?_ GE354.out) | exact HB.out)))); have n2_ := Aside0.mk (blk_below (g := gb354) (o := .cells #[.slice (some ad357) l0_0.length c0_0, .slice A0_1 l0_1.length c0_1, .slice (some ad362) l0_2.length c0_2, .slice A0_3 l0_3.length c0_3] 44 (0, 0)) (by (with_reducible repeat (first | refine blk_drewN ?_ _ | refine blk_drew ?_ | refine blk_alloc ?_ _)); exact BK354.out) hb); have n3_ := Aside0.mk (below_step (by repeat (first | (with_reducible first | exact HB.out | apply below_alloc | apply pw_below_drewN | apply below_drew1 | refine below_set ?_ GE354.out) | exact HB.out)) hb); clear HO_4; clear BK354; clear HB; have HO_4 := n0_; have HO365 := n1_; have BK354 := n2_; have HB := n3_; clear n0_ n1_ n2_ n3_; (try clear hb); (try clear hb2); (try clear hk); (try clear hi); (try clear ho0)) | ((with_reducible refine gate_callee (f := 26) rfl ?_); refine goesL_ (some 66) rfl rfl Try.func26 (by kernel_rfl) rfl #[.int .i64 t367] rfl (by (try simp only [List.map_toArray, List.map_cons, List.map_nil]); first | done | rfl | (simp only [List.length_drop, List.length_take]; rfl)) ?_; (with_reducible refine (thresherlaw8_num.calls t367 t368 _ A29.out).mono ?_); rintro e w' ⟨rfl, ⟨nd, rfl⟩⟩; refine ⟨_, rfl, ?_⟩) | ((with_reducible refine gate_callee (f := 27) rfl ?_); refine goesL_ (some 69) rfl rfl Try.func27 (by kernel_rfl) rfl #[.int .i64 t366, .int .i64 2000] rfl (by (try simp only [List.map_toArray, List.map_cons, List.map_nil]); first | done | rfl | (simp only [List.length_drop, List.length_take]; rfl)) ?_; (with_reducible refine (thresherref0_Num.calls t366 2000 true _ A31.out).mono ?_); rintro e w' ⟨rfl, ⟨nd, rfl⟩⟩; refine ⟨_, rfl, ?_⟩; have hcz38_0 : w37.cell? ⟨gb354, 0, none⟩ = some (.slice (some ad357) l0_0.length c0_0) := (blk_cell BK354.out 0).trans rfl; have hcz38_1 : w37.cell? ⟨gb354, 1, none⟩ = some (.slice A0_1 l0_1.length c0_1) := (blk_cell BK354.out 1).trans rfl; have hcz38_2 : w37.cell? ⟨gb354, 2, none⟩ = some (.slice (some ad362) l0_2.length c0_2) := (blk_cell BK354.out 2).trans rfl; have hcz38_3 : w37.cell? ⟨gb354, 3, none⟩ = some (.slice A0_3 l0_3.length c0_3) := (blk_cell BK354.out 3).trans rfl; have hfz38_0 := blk_frozen BK354.out 0; have hfz38_1 := blk_frozen BK354.out 1; have hfz38_2 := blk_frozen BK354.out 2; have hfz38_3 := blk_frozen BK354.out 3; have p370 : 0 ≤ (x6_3 : Int) := of_decide_eq_true (by first | (with_reducible assumption) | assumption); have q370 : x6_3 < (l0_2.length : Int) := of_decide_eq_true (by first | (with_reducible assumption) | assumption); obtain ⟨ad370, e370, hx370_0, hx370_1, hx370_2⟩ := at_T50 HR0_2.out x6_3 p370 q370; obtain rfl : ad362 = ad370 := (by injection e370); replace hx370_0 := (HB.out.cell (World.block_lt_of_cell? w _ hx370_0)).trans hx370_0; replace hx370_1 := (HB.out.cell (World.block_lt_of_cell? w _ hx370_1)).trans hx370_1; replace hx370_2 := (HB.out.cell (World.block_lt_of_cell? w _ hx370_2)).trans hx370_2; replace p370 := eq_true p370; replace q370 := eq_true q370) | ((with_reducible refine gate_callee (f := 25) rfl ?_); refine goesL_ (some 81) rfl rfl Try.func25 (by kernel_rfl) rfl #[.slice Ao36 t358.length co36, .agg #[.int .i64 ((rd_T50 l0_2 x6_3).f0.f0), .string ((rd_T50 l0_2 x6_3).f0.f1), .int .i64 ((rd_T50 l0_2 x6_3).f1)], .int .i64 (wrap64 (2000 - t366))] rfl (by (try simp only [List.map_toArray, List.map_cons, List.map_nil]); first | done | rfl | (simp only [List.length_drop, List.length_take]; rfl)) ?_; (with_reducible refine (eval_Run.calls kj20 _ _ t358 ((rd_T50 l0_2 x6_3).f0.f0) ((rd_T50 l0_2 x6_3).f0.f1) ((rd_T50 l0_2 x6_3).f1) (wrap64 (2000 - t366)) t371 t374 t375 _ ?side1 ?side2 A33.out).mono ?_); (case side1 => repeat (first | exact (Kd.R_reads' HO_4.out).2.2 | (with_reducible refine Kd.C_alloc ?_ _) | (with_reducible refine Kd.C_drewN ?_ _) | (with_reducible refine Kd.C_drew ?_))); (case side2 => exact (Kd.R_reads' HO_4.out).2.1); rintro e w39 ⟨v372, rfl, ho0, hb⟩; refine ⟨_, rfl, ?_⟩; have n0_ := Aside0.mk (Kd.R_below (by (with_reducible repeat (first | apply Kd.R_alloc | apply Kd.R_drewN | apply Kd.R_drew)); exact HO_4.out) hb); have n1_ := Aside0.mk (Kd.R_elder' (by (with_reducible repeat (first | apply Kd.R_alloc | apply Kd.R_drewN | apply Kd.R_drew)); exact HO365.out) (Kd.R_base ho0) hb); have n2_ := Aside0.mk (Kd.R_lower (Kd.R_new' ho0 (Kd.R_lt (by (with_reducible repeat (first | apply Kd.R_alloc | apply Kd.R_drewN | apply Kd.R_drew)); exact HO365.out))) (below_size (by repeat (first | (with_reducible first | exact HB.out | apply below_alloc | apply pw_below_drewN | apply below_drew1 | refine below_set ?_ GE354.out) | exact HB.out)))); have n3_ := Aside0.mk (blk_below (g := gb354) (o := .cells #[.slice (some ad357) l0_0.length c0_0, .slice A0_1 l0_1.length c0_1, .slice (some ad362) l0_2.length c0_2, .slice A0_3 l0_3.length c0_3] 44 (0, 0)) (by (with_reducible repeat (first | refine blk_drewN ?_ _ | refine blk_drew ?_ | refine blk_alloc ?_ _)); exact BK354.out) hb); have n4_ := Aside0.mk (below_step (by repeat (first | (with_reducible first | exact HB.out | apply below_alloc | apply pw_below_drewN | apply below_drew1 | refine below_set ?_ GE354.out) | exact HB.out)) hb); clear HO_4; clear HO365; clear BK354; clear HB; have HO_4 := n0_; have HO365 := n1_; have HO373 := n2_; have BK354 := n3_; have HB := n4_; clear n0_ n1_ n2_ n3_ n4_; (try clear hb); (try clear hb2); (try clear hk); (try clear hi); (try clear ho0)))
                                      (try simp only [Act.put, List.setIfInBounds_toArray, List.set_cons_zero, List.set_cons_succ])
                                      go_cut [97] (fun v97 wc => ∃ (kq : Nat) (x97_33 : Bool), v97 = .bool x97_33 ∧ Aside0 (thresherlaw8_EvalFuel.j4 kq x3_1 t358 x6_3 (wrap64 (2000 - t366)) x97_33 l0_0 l0_1 l0_2 l0_3 = some r) ∧ Aside0 (kq ≤ kj20) ∧ Aside0 (Kd.R k34 34 wc w.heap.size (fun _ => True) (.slice Ao36 t358.length co36) t358) ∧ Aside0 (wc.heap[gb354]? = some (.cells #[(.slice (some ad357) l0_0.length c0_0), (.slice A0_1 l0_1.length c0_1), (.slice (some ad362) l0_2.length c0_2), (.slice A0_3 l0_3.length c0_3)] 44 (0, 0))) ∧ Aside0 (Below w.heap.size w wc))
                                      case first =>
                                        have H := HC34.out
                                        clear HC34
                                        replace H := Option.bind_eq_some_iff.mp H
                                        obtain ⟨t376, A400, H⟩ := H
                                        replace H : (if t376 = 0 then (if t374 = 0 then ((thresherref0_EqRecs.f kj20 t371 t363).bind fun t377 => (thresherlaw8_EvalFuel.j4 kj20 x3_1 t358 x6_3 (wrap64 (2000 - t366)) (!t377) l0_0 l0_1 l0_2 l0_3)) else (thresherlaw8_EvalFuel.j4 kj20 x3_1 t358 x6_3 (wrap64 (2000 - t366)) true l0_0 l0_1 l0_2 l0_3)) else (thresherlaw8_EvalFuel.j4 kj20 x3_1 t358 x6_3 (wrap64 (2000 - t366)) true l0_0 l0_1 l0_2 l0_3)) = some r := H
                                        have A40 := Aside0.mk A400
                                        clear A400
                                        by_cases c41 : t376 = 0
                                        · rw [if_pos c41] at H
                                          have c41b0 : (t376 == 0) = true := beq_iff_eq.mpr c41
                                          have c41b1 : (t376 != 0) = false := bne_eq_false_iff_eq.mpr c41
                                          clear c41
                                          (first | rw [c41b0] | (simp only [i64_w, i32_w]; rw [c41b0]) | skip)
                                          by_cases c42 : t374 = 0
                                          · rw [if_pos c42] at H
                                            have c42b0 : (t374 == 0) = true := beq_iff_eq.mpr c42
                                            have c42b1 : (t374 != 0) = false := bne_eq_false_iff_eq.mpr c42
                                            clear c42
                                            replace H := Option.bind_eq_some_iff.mp H
                                            obtain ⟨t377, A430, H⟩ := H
                                            replace H : (thresherlaw8_EvalFuel.j4 kj20 x3_1 t358 x6_3 (wrap64 (2000 - t366)) (!t377) l0_0 l0_1 l0_2 l0_3) = some r := H
                                            have A43 := Aside0.mk A430
                                            clear A430
                                            have H' := Aside0.mk H
                                            clear H
                                            go_wp2_with (first | ((with_reducible refine gate_callee (f := 26) rfl ?_); refine goesL_ (some 86) rfl rfl Try.func26 (by kernel_rfl) rfl #[.int .i64 t375] rfl (by (try simp only [List.map_toArray, List.map_cons, List.map_nil]); first | done | rfl | (simp only [List.length_drop, List.length_take]; rfl)) ?_; (with_reducible refine (thresherlaw8_num.calls t375 t376 _ A40.out).mono ?_); rintro e w' ⟨rfl, ⟨nd, rfl⟩⟩; refine ⟨_, rfl, ?_⟩; obtain ⟨Ao44, co44, eo44⟩ := Kd.R_slice HO373.out; subst eo44; obtain ⟨Ao45, co45, eo45⟩ := Kd.R_slice HO365.out; subst eo45) | (go_at_call 28; (with_reducible refine (thresherref0_EqRecs.calls kj20 _ _ t371 _ _ t363 t377 _ ?side1 ?side2 ?side3 ?side4 A43.out).mono ?_); (case side1 => repeat (first | exact (Kd.R_reads' HO373.out).2.2 | (with_reducible refine Kd.C_alloc ?_ _) | (with_reducible refine Kd.C_drewN ?_ _) | (with_reducible refine Kd.C_drew ?_))); (case side2 => exact (Kd.R_reads' HO373.out).2.1); (case side3 => repeat (first | exact (Kd.R_reads' HO365.out).2.2 | (with_reducible refine Kd.C_alloc ?_ _) | (with_reducible refine Kd.C_drewN ?_ _) | (with_reducible refine Kd.C_drew ?_))); (case side4 => exact (Kd.R_reads' HO365.out).2.1); rintro e w' ⟨rfl, ⟨nd, rfl⟩⟩))
                                            go_meet
                                            case rel => exact ⟨_, (!t377), (by first | rfl | (simp; done) | (simp [*]; done)), H', ⟨by have := HK1.out; have := HJ9.out; have := HK3.out; have := HJ20.out; first | omega | exact Nat.le_refl _⟩, ⟨by (with_reducible repeat (first | apply Kd.R_alloc | apply Kd.R_drewN | apply Kd.R_drew)); exact HO_4.out⟩, ⟨by (with_reducible repeat (first | refine blk_drewN ?_ _ | refine blk_drew ?_ | refine blk_alloc ?_ _)); exact BK354.out⟩, ⟨by repeat (first | (with_reducible first | exact HB.out | apply below_alloc | apply pw_below_drewN | apply below_drew1 | refine below_set ?_ GE354.out) | exact HB.out)⟩⟩
                                          · rw [if_neg c42] at H
                                            have c42b0 : (t374 == 0) = false := beq_eq_false_iff_ne.mpr c42
                                            have c42b1 : (t374 != 0) = true := bne_iff_ne.mpr c42
                                            have H' := Aside0.mk H
                                            clear H
                                            go_wp2_with (first | ((with_reducible refine gate_callee (f := 26) rfl ?_); refine goesL_ (some 86) rfl rfl Try.func26 (by kernel_rfl) rfl #[.int .i64 t375] rfl (by (try simp only [List.map_toArray, List.map_cons, List.map_nil]); first | done | rfl | (simp only [List.length_drop, List.length_take]; rfl)) ?_; (with_reducible refine (thresherlaw8_num.calls t375 t376 _ A40.out).mono ?_); rintro e w' ⟨rfl, ⟨nd, rfl⟩⟩; refine ⟨_, rfl, ?_⟩))
                                            go_meet
                                            case rel => exact ⟨_, (true), (by first | rfl | (simp; done) | (simp [*]; done)), H', ⟨by have := HK1.out; have := HJ9.out; have := HK3.out; have := HJ20.out; first | omega | exact Nat.le_refl _⟩, ⟨by (with_reducible repeat (first | apply Kd.R_alloc | apply Kd.R_drewN | apply Kd.R_drew)); exact HO_4.out⟩, ⟨by (with_reducible repeat (first | refine blk_drewN ?_ _ | refine blk_drew ?_ | refine blk_alloc ?_ _)); exact BK354.out⟩, ⟨by repeat (first | (with_reducible first | exact HB.out | apply below_alloc | apply pw_below_drewN | apply below_drew1 | refine below_set ?_ GE354.out) | exact HB.out)⟩⟩
                                        · rw [if_neg c41] at H
                                          have c41b0 : (t376 == 0) = false := beq_eq_false_iff_ne.mpr c41
                                          have c41b1 : (t376 != 0) = true := bne_iff_ne.mpr c41
                                          (first | rw [c41b0] | (simp only [i64_w, i32_w]; rw [c41b0]) | skip)
                                          have H' := Aside0.mk H
                                          clear H
                                          go_wp2_with (first | ((with_reducible refine gate_callee (f := 26) rfl ?_); refine goesL_ (some 86) rfl rfl Try.func26 (by kernel_rfl) rfl #[.int .i64 t375] rfl (by (try simp only [List.map_toArray, List.map_cons, List.map_nil]); first | done | rfl | (simp only [List.length_drop, List.length_take]; rfl)) ?_; (with_reducible refine (thresherlaw8_num.calls t375 t376 _ A40.out).mono ?_); rintro e w' ⟨rfl, ⟨nd, rfl⟩⟩; refine ⟨_, rfl, ?_⟩))
                                          go_meet
                                          case rel => exact ⟨_, (true), (by first | rfl | (simp; done) | (simp [*]; done)), H', ⟨by have := HK1.out; have := HJ9.out; have := HK3.out; have := HJ20.out; first | omega | exact Nat.le_refl _⟩, ⟨by (with_reducible repeat (first | apply Kd.R_alloc | apply Kd.R_drewN | apply Kd.R_drew)); exact HO_4.out⟩, ⟨by (with_reducible repeat (first | refine blk_drewN ?_ _ | refine blk_drew ?_ | refine blk_alloc ?_ _)); exact BK354.out⟩, ⟨by repeat (first | (with_reducible first | exact HB.out | apply below_alloc | apply pw_below_drewN | apply below_drew1 | refine below_set ?_ GE354.out) | exact HB.out)⟩⟩
                                      case rest =>
                                        clear HC34
                                        try clear c1
                                        try clear c2
                                        try clear p2
                                        try clear c3
                                        try clear p3
                                        try clear q3
                                        try clear hx3
                                        try clear c4
                                        try clear c6
                                        try clear p6
                                        try clear c11
                                        try clear c11b0
                                        try clear c14
                                        try clear c15
                                        try clear c15b0
                                        try clear c16
                                        try clear c16b0
                                        try clear c18
                                        try clear c18b0
                                        try clear c18b1
                                        try clear c21
                                        try clear c22
                                        try clear c22b0
                                        try clear c25
                                        try clear c26
                                        try clear c26b0
                                        try clear c27
                                        try clear c27b0
                                        try clear c30
                                        try clear c30b0
                                        try clear c30b1
                                        try clear c32
                                        try clear p35
                                        try clear q35
                                        try clear hx35
                                        try clear p36
                                        try clear q36
                                        try clear hx36
                                        try clear p37
                                        try clear q37
                                        try clear hx37
                                        try clear c41
                                        try clear c41b0
                                        try clear c41b1
                                        try clear c42
                                        try clear c42b0
                                        try clear c42b1
                                        try clear hcz12_0
                                        try clear hcz12_1
                                        try clear hcz12_2
                                        try clear hcz12_3
                                        try clear hcz13_0
                                        try clear hcz13_1
                                        try clear hcz13_2
                                        try clear hcz13_3
                                        try clear hcz19_0
                                        try clear hcz19_1
                                        try clear hcz19_2
                                        try clear hcz19_3
                                        try clear hcz23_0
                                        try clear hcz23_1
                                        try clear hcz23_2
                                        try clear hcz23_3
                                        try clear hcz24_0
                                        try clear hcz24_1
                                        try clear hcz24_2
                                        try clear hcz24_3
                                        try clear hcz35_0
                                        try clear hcz35_1
                                        try clear hcz35_2
                                        try clear hcz35_3
                                        try clear hcz38_0
                                        try clear hcz38_1
                                        try clear hcz38_2
                                        try clear hcz38_3
                                        try clear hcz5_0
                                        try clear hcz5_1
                                        try clear hcz5_2
                                        try clear hcz5_3
                                        try clear hcz8_0
                                        try clear hcz8_1
                                        try clear hcz8_2
                                        try clear hcz8_3
                                        try clear hfz12_0
                                        try clear hfz12_1
                                        try clear hfz12_2
                                        try clear hfz12_3
                                        try clear hfz13_0
                                        try clear hfz13_1
                                        try clear hfz13_2
                                        try clear hfz13_3
                                        try clear hfz19_0
                                        try clear hfz19_1
                                        try clear hfz19_2
                                        try clear hfz19_3
                                        try clear hfz23_0
                                        try clear hfz23_1
                                        try clear hfz23_2
                                        try clear hfz23_3
                                        try clear hfz24_0
                                        try clear hfz24_1
                                        try clear hfz24_2
                                        try clear hfz24_3
                                        try clear hfz35_0
                                        try clear hfz35_1
                                        try clear hfz35_2
                                        try clear hfz35_3
                                        try clear hfz38_0
                                        try clear hfz38_1
                                        try clear hfz38_2
                                        try clear hfz38_3
                                        try clear hfz5_0
                                        try clear hfz5_1
                                        try clear hfz5_2
                                        try clear hfz5_3
                                        try clear hfz8_0
                                        try clear hfz8_1
                                        try clear hfz8_2
                                        try clear hfz8_3
                                        try clear hx357_0
                                        try clear hx362_0
                                        try clear hx362_1
                                        try clear hx362_2
                                        try clear hx370_0
                                        try clear hx370_1
                                        try clear hx370_2
                                        try clear p2
                                        try clear p3
                                        try clear p357
                                        try clear p362
                                        try clear p370
                                        try clear p6
                                        try clear q3
                                        try clear q357
                                        try clear q362
                                        try clear q370
                                        obtain ⟨kq, x97_33, rfl, HA, HJ33, HO_4, BK354, HB⟩ := hcut
                                        cases kq with
                                        | zero => exact absurd HA.out (by simp [thresherlaw8_EvalFuel.j4])
                                        | succ kj33 =>
                                          have H := HA.out
                                          clear HA
                                          simp only [thresherlaw8_EvalFuel.j4] at H
                                          by_cases c46 : x97_33 = true
                                          · subst c46
                                            have H1 : (some false) = some r := by rw [if_pos rfl] at H; exact H
                                            clear H
                                            have H := H1
                                            clear H1
                                            obtain rfl := Option.some.inj H
                                            go_wp2
                                            go_ret
                                            exact ⟨by first | rfl | (simp [errW_none, errW_some] <;> rfl) | (simp [*, errW_none, errW_some] <;> rfl), by repeat (first | (with_reducible first | exact HB.out | apply below_alloc | apply pw_below_drewN | apply below_drew1 | refine below_set ?_ GE354.out) | exact HB.out)⟩
                                          · replace c46 := Bool.eq_false_iff.mpr c46
                                            subst c46
                                            have H1 : (if (wrap64 (2000 - t366)) > 0 then (if 0 ≤ x6_3 then (if x6_3 < (l0_2.length : Int) then ((eval_Run.f kj33 t358 ((rd_T50 l0_2 x6_3).f0.f0) ((rd_T50 l0_2 x6_3).f0.f1) ((rd_T50 l0_2 x6_3).f1) (wrap64 ((wrap64 (2000 - t366)) - 1))).bind fun bt379 => ((thresherlaw8_num.f bt379.2.2).bind fun t384 => (if t384 = 10 then (if bt379.2.1 = 0 then (if (bt379.1.length : Int) > 0 then (some false) else (thresherlaw8_EvalFuel.l1 kj33 x3_1 t358 (wrap64 (x6_3 + 1)) l0_0 l0_1 l0_2 l0_3)) else (some false)) else (some false)))) else (none)) else (none)) else (thresherlaw8_EvalFuel.l1 kj33 x3_1 t358 (wrap64 (x6_3 + 1)) l0_0 l0_1 l0_2 l0_3)) = some r := by rw [if_neg (show ¬ (false = true) by decide)] at H; exact H
                                            clear H
                                            have H := H1
                                            clear H1
                                            by_cases c47 : (wrap64 (2000 - t366)) > 0
                                            · rw [if_pos c47] at H
                                              have c47b0 : decide (0 < (wrap64 (2000 - t366))) = true := decide_eq_true c47
                                              clear c47
                                              by_cases c48 : 0 ≤ x6_3
                                              · rw [if_pos c48] at H
                                                have c48b0 : decide (0 ≤ x6_3) = true := decide_eq_true c48
                                                clear c48
                                                by_cases c49 : x6_3 < (l0_2.length : Int)
                                                · rw [if_pos c49] at H
                                                  have c49b0 : decide (x6_3 < (l0_2.length : Int)) = true := decide_eq_true c49
                                                  clear c49
                                                  replace H := Option.bind_eq_some_iff.mp H
                                                  obtain ⟨⟨t379, t382, t383⟩, A500, H⟩ := H
                                                  replace H : ((thresherlaw8_num.f t383).bind fun t384 => (if t384 = 10 then (if t382 = 0 then (if (t379.length : Int) > 0 then (some false) else (thresherlaw8_EvalFuel.l1 kj33 x3_1 t358 (wrap64 (x6_3 + 1)) l0_0 l0_1 l0_2 l0_3)) else (some false)) else (some false))) = some r := H
                                                  have A50 := Aside0.mk A500
                                                  clear A500
                                                  replace H := Option.bind_eq_some_iff.mp H
                                                  obtain ⟨t384, A510, H⟩ := H
                                                  replace H : (if t384 = 10 then (if t382 = 0 then (if (t379.length : Int) > 0 then (some false) else (thresherlaw8_EvalFuel.l1 kj33 x3_1 t358 (wrap64 (x6_3 + 1)) l0_0 l0_1 l0_2 l0_3)) else (some false)) else (some false)) = some r := H
                                                  have A51 := Aside0.mk A510
                                                  clear A510
                                                  by_cases c52 : t384 = 10
                                                  · rw [if_pos c52] at H
                                                    have c52b0 : (t384 == 10) = true := beq_iff_eq.mpr c52
                                                    have c52b1 : (t384 != 10) = false := bne_eq_false_iff_eq.mpr c52
                                                    clear c52
                                                    by_cases c53 : t382 = 0
                                                    · rw [if_pos c53] at H
                                                      have c53b0 : (t382 == 0) = true := beq_iff_eq.mpr c53
                                                      have c53b1 : (t382 != 0) = false := bne_eq_false_iff_eq.mpr c53
                                                      clear c53
                                                      by_cases c54 : (t379.length : Int) > 0
                                                      · rw [if_pos c54] at H
                                                        have c54b0 : decide (0 < (t379.length : Int)) = true := decide_eq_true c54
                                                        have c54b1 : decide (0 < t379.length) = true := decide_eq_true (by omega)
                                                        clear c54
                                                        obtain rfl := Option.some.inj H
                                                        have hcz55_0 : wc.cell? ⟨gb354, 0, none⟩ = some (.slice (some ad357) l0_0.length c0_0) := (blk_cell BK354.out 0).trans rfl
                                                        have hcz55_1 : wc.cell? ⟨gb354, 1, none⟩ = some (.slice A0_1 l0_1.length c0_1) := (blk_cell BK354.out 1).trans rfl
                                                        have hcz55_2 : wc.cell? ⟨gb354, 2, none⟩ = some (.slice (some ad362) l0_2.length c0_2) := (blk_cell BK354.out 2).trans rfl
                                                        have hcz55_3 : wc.cell? ⟨gb354, 3, none⟩ = some (.slice A0_3 l0_3.length c0_3) := (blk_cell BK354.out 3).trans rfl
                                                        have hfz55_0 := blk_frozen BK354.out 0
                                                        have hfz55_1 := blk_frozen BK354.out 1
                                                        have hfz55_2 := blk_frozen BK354.out 2
                                                        have hfz55_3 := blk_frozen BK354.out 3
                                                        have p378 : 0 ≤ (x6_3 : Int) := of_decide_eq_true (by first | (with_reducible assumption) | assumption)
                                                        have q378 : x6_3 < (l0_2.length : Int) := of_decide_eq_true (by first | (with_reducible assumption) | assumption)
                                                        obtain ⟨ad378, e378, hx378_0, hx378_1, hx378_2⟩ := at_T50 HR0_2.out x6_3 p378 q378
                                                        obtain rfl : ad362 = ad378 := (by injection e378)
                                                        replace hx378_0 := (HB.out.cell (World.block_lt_of_cell? w _ hx378_0)).trans hx378_0
                                                        replace hx378_1 := (HB.out.cell (World.block_lt_of_cell? w _ hx378_1)).trans hx378_1
                                                        replace hx378_2 := (HB.out.cell (World.block_lt_of_cell? w _ hx378_2)).trans hx378_2
                                                        replace p378 := eq_true p378
                                                        replace q378 := eq_true q378
                                                        go_wp2_with (first | ((with_reducible refine gate_callee (f := 25) rfl ?_); refine goesL_ (some 109) rfl rfl Try.func25 (by kernel_rfl) rfl #[.slice Ao36 t358.length co36, .agg #[.int .i64 ((rd_T50 l0_2 x6_3).f0.f0), .string ((rd_T50 l0_2 x6_3).f0.f1), .int .i64 ((rd_T50 l0_2 x6_3).f1)], .int .i64 (wrap64 ((wrap64 (2000 - t366)) - 1))] rfl (by (try simp only [List.map_toArray, List.map_cons, List.map_nil]); first | done | rfl | (simp only [List.length_drop, List.length_take]; rfl)) ?_; (with_reducible refine (eval_Run.calls kj33 _ _ t358 ((rd_T50 l0_2 x6_3).f0.f0) ((rd_T50 l0_2 x6_3).f0.f1) ((rd_T50 l0_2 x6_3).f1) (wrap64 ((wrap64 (2000 - t366)) - 1)) t379 t382 t383 _ ?side1 ?side2 A50.out).mono ?_); (case side1 => repeat (first | exact (Kd.R_reads' HO_4.out).2.2 | (with_reducible refine Kd.C_alloc ?_ _) | (with_reducible refine Kd.C_drewN ?_ _) | (with_reducible refine Kd.C_drew ?_))); (case side2 => exact (Kd.R_reads' HO_4.out).2.1); rintro e w56 ⟨v380, rfl, ho0, hb⟩; refine ⟨_, rfl, ?_⟩; have n0_ := Aside0.mk (Kd.R_below (by (with_reducible repeat (first | apply Kd.R_alloc | apply Kd.R_drewN | apply Kd.R_drew)); exact HO_4.out) hb); have n1_ := Aside0.mk (Kd.R_lower ho0 (below_size (by repeat (first | (with_reducible first | exact HB.out | apply below_alloc | apply pw_below_drewN | apply below_drew1 | refine below_set ?_ GE354.out) | exact HB.out)))); have n2_ := Aside0.mk (blk_below (g := gb354) (o := .cells #[.slice (some ad357) l0_0.length c0_0, .slice A0_1 l0_1.length c0_1, .slice (some ad362) l0_2.length c0_2, .slice A0_3 l0_3.length c0_3] 44 (0, 0)) (by (with_reducible repeat (first | refine blk_drewN ?_ _ | refine blk_drew ?_ | refine blk_alloc ?_ _)); exact BK354.out) hb); have n3_ := Aside0.mk (below_step (by repeat (first | (with_reducible first | exact HB.out | apply below_alloc | apply pw_below_drewN | apply below_drew1 | refine below_set ?_ GE354.out) | exact HB.out)) hb); clear HO_4; clear BK354; clear HB; have HO_4 := n0_; have HO381 := n1_; have BK354 := n2_; have HB := n3_; clear n0_ n1_ n2_ n3_; (try clear hb); (try clear hb2); (try clear hk); (try clear hi); (try clear ho0)) | ((with_reducible refine gate_callee (f := 26) rfl ?_); refine goesL_ (some 114) rfl rfl Try.func26 (by kernel_rfl) rfl #[.int .i64 t383] rfl (by (try simp only [List.map_toArray, List.map_cons, List.map_nil]); first | done | rfl | (simp only [List.length_drop, List.length_take]; rfl)) ?_; (with_reducible refine (thresherlaw8_num.calls t383 t384 _ A51.out).mono ?_); rintro e w' ⟨rfl, ⟨nd, rfl⟩⟩; refine ⟨_, rfl, ?_⟩; obtain ⟨Ao57, co57, eo57⟩ := Kd.R_slice HO381.out; subst eo57))
                                                        go_ret
                                                        exact ⟨by first | rfl | (simp [errW_none, errW_some] <;> rfl) | (simp [*, errW_none, errW_some] <;> rfl), by repeat (first | (with_reducible first | exact HB.out | apply below_alloc | apply pw_below_drewN | apply below_drew1 | refine below_set ?_ GE354.out) | exact HB.out)⟩
                                                      · rw [if_neg c54] at H
                                                        have c54b0 : decide (0 < (t379.length : Int)) = false := decide_eq_false c54
                                                        have c54b1 : decide (0 < t379.length) = false := decide_eq_false (by omega)
                                                        clear c54
                                                        have H' := Aside0.mk H
                                                        clear H
                                                        have hcz58_0 : wc.cell? ⟨gb354, 0, none⟩ = some (.slice (some ad357) l0_0.length c0_0) := (blk_cell BK354.out 0).trans rfl
                                                        have hcz58_1 : wc.cell? ⟨gb354, 1, none⟩ = some (.slice A0_1 l0_1.length c0_1) := (blk_cell BK354.out 1).trans rfl
                                                        have hcz58_2 : wc.cell? ⟨gb354, 2, none⟩ = some (.slice (some ad362) l0_2.length c0_2) := (blk_cell BK354.out 2).trans rfl
                                                        have hcz58_3 : wc.cell? ⟨gb354, 3, none⟩ = some (.slice A0_3 l0_3.length c0_3) := (blk_cell BK354.out 3).trans rfl
                                                        have hfz58_0 := blk_frozen BK354.out 0
                                                        have hfz58_1 := blk_frozen BK354.out 1
                                                        have hfz58_2 := blk_frozen BK354.out 2
                                                        have hfz58_3 := blk_frozen BK354.out 3
                                                        have p378 : 0 ≤ (x6_3 : Int) := of_decide_eq_true (by first | (with_reducible assumption) | assumption)
                                                        have q378 : x6_3 < (l0_2.length : Int) := of_decide_eq_true (by first | (with_reducible assumption) | assumption)
                                                        obtain ⟨ad378, e378, hx378_0, hx378_1, hx378_2⟩ := at_T50 HR0_2.out x6_3 p378 q378
                                                        obtain rfl : ad362 = ad378 := (by injection e378)
                                                        replace hx378_0 := (HB.out.cell (World.block_lt_of_cell? w _ hx378_0)).trans hx378_0
                                                        replace hx378_1 := (HB.out.cell (World.block_lt_of_cell? w _ hx378_1)).trans hx378_1
                                                        replace hx378_2 := (HB.out.cell (World.block_lt_of_cell? w _ hx378_2)).trans hx378_2
                                                        replace p378 := eq_true p378
                                                        replace q378 := eq_true q378
                                                        go_wp2_with (first | ((with_reducible refine gate_callee (f := 25) rfl ?_); refine goesL_ (some 109) rfl rfl Try.func25 (by kernel_rfl) rfl #[.slice Ao36 t358.length co36, .agg #[.int .i64 ((rd_T50 l0_2 x6_3).f0.f0), .string ((rd_T50 l0_2 x6_3).f0.f1), .int .i64 ((rd_T50 l0_2 x6_3).f1)], .int .i64 (wrap64 ((wrap64 (2000 - t366)) - 1))] rfl (by (try simp only [List.map_toArray, List.map_cons, List.map_nil]); first | done | rfl | (simp only [List.length_drop, List.length_take]; rfl)) ?_; (with_reducible refine (eval_Run.calls kj33 _ _ t358 ((rd_T50 l0_2 x6_3).f0.f0) ((rd_T50 l0_2 x6_3).f0.f1) ((rd_T50 l0_2 x6_3).f1) (wrap64 ((wrap64 (2000 - t366)) - 1)) t379 t382 t383 _ ?side1 ?side2 A50.out).mono ?_); (case side1 => repeat (first | exact (Kd.R_reads' HO_4.out).2.2 | (with_reducible refine Kd.C_alloc ?_ _) | (with_reducible refine Kd.C_drewN ?_ _) | (with_reducible refine Kd.C_drew ?_))); (case side2 => exact (Kd.R_reads' HO_4.out).2.1); rintro e w59 ⟨v380, rfl, ho0, hb⟩; refine ⟨_, rfl, ?_⟩; have n0_ := Aside0.mk (Kd.R_below (by (with_reducible repeat (first | apply Kd.R_alloc | apply Kd.R_drewN | apply Kd.R_drew)); exact HO_4.out) hb); have n1_ := Aside0.mk (Kd.R_lower ho0 (below_size (by repeat (first | (with_reducible first | exact HB.out | apply below_alloc | apply pw_below_drewN | apply below_drew1 | refine below_set ?_ GE354.out) | exact HB.out)))); have n2_ := Aside0.mk (blk_below (g := gb354) (o := .cells #[.slice (some ad357) l0_0.length c0_0, .slice A0_1 l0_1.length c0_1, .slice (some ad362) l0_2.length c0_2, .slice A0_3 l0_3.length c0_3] 44 (0, 0)) (by (with_reducible repeat (first | refine blk_drewN ?_ _ | refine blk_drew ?_ | refine blk_alloc ?_ _)); exact BK354.out) hb); have n3_ := Aside0.mk (below_step (by repeat (first | (with_reducible first | exact HB.out | apply below_alloc | apply pw_below_drewN | apply below_drew1 | refine below_set ?_ GE354.out) | exact HB.out)) hb); clear HO_4; clear BK354; clear HB; have HO_4 := n0_; have HO381 := n1_; have BK354 := n2_; have HB := n3_; clear n0_ n1_ n2_ n3_; (try clear hb); (try clear hb2); (try clear hk); (try clear hi); (try clear ho0)) | ((with_reducible refine gate_callee (f := 26) rfl ?_); refine goesL_ (some 114) rfl rfl Try.func26 (by kernel_rfl) rfl #[.int .i64 t383] rfl (by (try simp only [List.map_toArray, List.map_cons, List.map_nil]); first | done | rfl | (simp only [List.length_drop, List.length_take]; rfl)) ?_; (with_reducible refine (thresherlaw8_num.calls t383 t384 _ A51.out).mono ?_); rintro e w' ⟨rfl, ⟨nd, rfl⟩⟩; refine ⟨_, rfl, ?_⟩; obtain ⟨Ao60, co60, eo60⟩ := Kd.R_slice HO381.out; subst eo60))
                                                        go_roundg kj33
                                                        case measure => have := HK1.out; have := HJ9.out; have := HK3.out; have := HJ20.out; have := HJ33.out; omega
                                                        case rel => exact ⟨(wrap64 (x6_3 + 1)), (by first | rfl | (simp; done) | (simp [*]; done)), H', ⟨by have := HK1.out; have := HJ9.out; have := HK3.out; have := HJ20.out; have := HJ33.out; omega⟩, ⟨by (with_reducible repeat (first | apply Kd.R_alloc | apply Kd.R_drewN | apply Kd.R_drew)); exact HO_4.out⟩, ⟨by (with_reducible repeat (first | refine blk_drewN ?_ _ | refine blk_drew ?_ | refine blk_alloc ?_ _)); exact BK354.out⟩, ⟨by repeat (first | (with_reducible first | exact HB.out | apply below_alloc | apply pw_below_drewN | apply below_drew1 | refine below_set ?_ GE354.out) | exact HB.out)⟩⟩
                                                    · rw [if_neg c53] at H
                                                      have c53b0 : (t382 == 0) = false := beq_eq_false_iff_ne.mpr c53
                                                      have c53b1 : (t382 != 0) = true := bne_iff_ne.mpr c53
                                                      obtain rfl := Option.some.inj H
                                                      have hcz61_0 : wc.cell? ⟨gb354, 0, none⟩ = some (.slice (some ad357) l0_0.length c0_0) := (blk_cell BK354.out 0).trans rfl
                                                      have hcz61_1 : wc.cell? ⟨gb354, 1, none⟩ = some (.slice A0_1 l0_1.length c0_1) := (blk_cell BK354.out 1).trans rfl
                                                      have hcz61_2 : wc.cell? ⟨gb354, 2, none⟩ = some (.slice (some ad362) l0_2.length c0_2) := (blk_cell BK354.out 2).trans rfl
                                                      have hcz61_3 : wc.cell? ⟨gb354, 3, none⟩ = some (.slice A0_3 l0_3.length c0_3) := (blk_cell BK354.out 3).trans rfl
                                                      have hfz61_0 := blk_frozen BK354.out 0
                                                      have hfz61_1 := blk_frozen BK354.out 1
                                                      have hfz61_2 := blk_frozen BK354.out 2
                                                      have hfz61_3 := blk_frozen BK354.out 3
                                                      have p378 : 0 ≤ (x6_3 : Int) := of_decide_eq_true (by first | (with_reducible assumption) | assumption)
                                                      have q378 : x6_3 < (l0_2.length : Int) := of_decide_eq_true (by first | (with_reducible assumption) | assumption)
                                                      obtain ⟨ad378, e378, hx378_0, hx378_1, hx378_2⟩ := at_T50 HR0_2.out x6_3 p378 q378
                                                      obtain rfl : ad362 = ad378 := (by injection e378)
                                                      replace hx378_0 := (HB.out.cell (World.block_lt_of_cell? w _ hx378_0)).trans hx378_0
                                                      replace hx378_1 := (HB.out.cell (World.block_lt_of_cell? w _ hx378_1)).trans hx378_1
                                                      replace hx378_2 := (HB.out.cell (World.block_lt_of_cell? w _ hx378_2)).trans hx378_2
                                                      replace p378 := eq_true p378
                                                      replace q378 := eq_true q378
                                                      go_wp2_with (first | ((with_reducible refine gate_callee (f := 25) rfl ?_); refine goesL_ (some 109) rfl rfl Try.func25 (by kernel_rfl) rfl #[.slice Ao36 t358.length co36, .agg #[.int .i64 ((rd_T50 l0_2 x6_3).f0.f0), .string ((rd_T50 l0_2 x6_3).f0.f1), .int .i64 ((rd_T50 l0_2 x6_3).f1)], .int .i64 (wrap64 ((wrap64 (2000 - t366)) - 1))] rfl (by (try simp only [List.map_toArray, List.map_cons, List.map_nil]); first | done | rfl | (simp only [List.length_drop, List.length_take]; rfl)) ?_; (with_reducible refine (eval_Run.calls kj33 _ _ t358 ((rd_T50 l0_2 x6_3).f0.f0) ((rd_T50 l0_2 x6_3).f0.f1) ((rd_T50 l0_2 x6_3).f1) (wrap64 ((wrap64 (2000 - t366)) - 1)) t379 t382 t383 _ ?side1 ?side2 A50.out).mono ?_); (case side1 => repeat (first | exact (Kd.R_reads' HO_4.out).2.2 | (with_reducible refine Kd.C_alloc ?_ _) | (with_reducible refine Kd.C_drewN ?_ _) | (with_reducible refine Kd.C_drew ?_))); (case side2 => exact (Kd.R_reads' HO_4.out).2.1); rintro e w62 ⟨v380, rfl, ho0, hb⟩; refine ⟨_, rfl, ?_⟩; have n0_ := Aside0.mk (Kd.R_below (by (with_reducible repeat (first | apply Kd.R_alloc | apply Kd.R_drewN | apply Kd.R_drew)); exact HO_4.out) hb); have n1_ := Aside0.mk (Kd.R_lower ho0 (below_size (by repeat (first | (with_reducible first | exact HB.out | apply below_alloc | apply pw_below_drewN | apply below_drew1 | refine below_set ?_ GE354.out) | exact HB.out)))); have n2_ := Aside0.mk (blk_below (g := gb354) (o := .cells #[.slice (some ad357) l0_0.length c0_0, .slice A0_1 l0_1.length c0_1, .slice (some ad362) l0_2.length c0_2, .slice A0_3 l0_3.length c0_3] 44 (0, 0)) (by (with_reducible repeat (first | refine blk_drewN ?_ _ | refine blk_drew ?_ | refine blk_alloc ?_ _)); exact BK354.out) hb); have n3_ := Aside0.mk (below_step (by repeat (first | (with_reducible first | exact HB.out | apply below_alloc | apply pw_below_drewN | apply below_drew1 | refine below_set ?_ GE354.out) | exact HB.out)) hb); clear HO_4; clear BK354; clear HB; have HO_4 := n0_; have HO381 := n1_; have BK354 := n2_; have HB := n3_; clear n0_ n1_ n2_ n3_; (try clear hb); (try clear hb2); (try clear hk); (try clear hi); (try clear ho0)) | ((with_reducible refine gate_callee (f := 26) rfl ?_); refine goesL_ (some 114) rfl rfl Try.func26 (by kernel_rfl) rfl #[.int .i64 t383] rfl (by (try simp only [List.map_toArray, List.map_cons, List.map_nil]); first | done | rfl | (simp only [List.length_drop, List.length_take]; rfl)) ?_; (with_reducible refine (thresherlaw8_num.calls t383 t384 _ A51.out).mono ?_); rintro e w' ⟨rfl, ⟨nd, rfl⟩⟩; refine ⟨_, rfl, ?_⟩))
                                                      go_ret
                                                      exact ⟨by first | rfl | (simp [errW_none, errW_some] <;> rfl) | (simp [*, errW_none, errW_some] <;> rfl), by repeat (first | (with_reducible first | exact HB.out | apply below_alloc | apply pw_below_drewN | apply below_drew1 | refine below_set ?_ GE354.out) | exact HB.out)⟩
                                                  · rw [if_neg c52] at H
                                                    have c52b0 : (t384 == 10) = false := beq_eq_false_iff_ne.mpr c52
                                                    have c52b1 : (t384 != 10) = true := bne_iff_ne.mpr c52
                                                    obtain rfl := Option.some.inj H
                                                    have hcz63_0 : wc.cell? ⟨gb354, 0, none⟩ = some (.slice (some ad357) l0_0.length c0_0) := (blk_cell BK354.out 0).trans rfl
                                                    have hcz63_1 : wc.cell? ⟨gb354, 1, none⟩ = some (.slice A0_1 l0_1.length c0_1) := (blk_cell BK354.out 1).trans rfl
                                                    have hcz63_2 : wc.cell? ⟨gb354, 2, none⟩ = some (.slice (some ad362) l0_2.length c0_2) := (blk_cell BK354.out 2).trans rfl
                                                    have hcz63_3 : wc.cell? ⟨gb354, 3, none⟩ = some (.slice A0_3 l0_3.length c0_3) := (blk_cell BK354.out 3).trans rfl
                                                    have hfz63_0 := blk_frozen BK354.out 0
                                                    have hfz63_1 := blk_frozen BK354.out 1
                                                    have hfz63_2 := blk_frozen BK354.out 2
                                                    have hfz63_3 := blk_frozen BK354.out 3
                                                    have p378 : 0 ≤ (x6_3 : Int) := of_decide_eq_true (by first | (with_reducible assumption) | assumption)
                                                    have q378 : x6_3 < (l0_2.length : Int) := of_decide_eq_true (by first | (with_reducible assumption) | assumption)
                                                    obtain ⟨ad378, e378, hx378_0, hx378_1, hx378_2⟩ := at_T50 HR0_2.out x6_3 p378 q378
                                                    obtain rfl : ad362 = ad378 := (by injection e378)
                                                    replace hx378_0 := (HB.out.cell (World.block_lt_of_cell? w _ hx378_0)).trans hx378_0
                                                    replace hx378_1 := (HB.out.cell (World.block_lt_of_cell? w _ hx378_1)).trans hx378_1
                                                    replace hx378_2 := (HB.out.cell (World.block_lt_of_cell? w _ hx378_2)).trans hx378_2
                                                    replace p378 := eq_true p378
                                                    replace q378 := eq_true q378
                                                    go_wp2_with (first | ((with_reducible refine gate_callee (f := 25) rfl ?_); refine goesL_ (some 109) rfl rfl Try.func25 (by kernel_rfl) rfl #[.slice Ao36 t358.length co36, .agg #[.int .i64 ((rd_T50 l0_2 x6_3).f0.f0), .string ((rd_T50 l0_2 x6_3).f0.f1), .int .i64 ((rd_T50 l0_2 x6_3).f1)], .int .i64 (wrap64 ((wrap64 (2000 - t366)) - 1))] rfl (by (try simp only [List.map_toArray, List.map_cons, List.map_nil]); first | done | rfl | (simp only [List.length_drop, List.length_take]; rfl)) ?_; (with_reducible refine (eval_Run.calls kj33 _ _ t358 ((rd_T50 l0_2 x6_3).f0.f0) ((rd_T50 l0_2 x6_3).f0.f1) ((rd_T50 l0_2 x6_3).f1) (wrap64 ((wrap64 (2000 - t366)) - 1)) t379 t382 t383 _ ?side1 ?side2 A50.out).mono ?_); (case side1 => repeat (first | exact (Kd.R_reads' HO_4.out).2.2 | (with_reducible refine Kd.C_alloc ?_ _) | (with_reducible refine Kd.C_drewN ?_ _) | (with_reducible refine Kd.C_drew ?_))); (case side2 => exact (Kd.R_reads' HO_4.out).2.1); rintro e w64 ⟨v380, rfl, ho0, hb⟩; refine ⟨_, rfl, ?_⟩; have n0_ := Aside0.mk (Kd.R_below (by (with_reducible repeat (first | apply Kd.R_alloc | apply Kd.R_drewN | apply Kd.R_drew)); exact HO_4.out) hb); have n1_ := Aside0.mk (Kd.R_lower ho0 (below_size (by repeat (first | (with_reducible first | exact HB.out | apply below_alloc | apply pw_below_drewN | apply below_drew1 | refine below_set ?_ GE354.out) | exact HB.out)))); have n2_ := Aside0.mk (blk_below (g := gb354) (o := .cells #[.slice (some ad357) l0_0.length c0_0, .slice A0_1 l0_1.length c0_1, .slice (some ad362) l0_2.length c0_2, .slice A0_3 l0_3.length c0_3] 44 (0, 0)) (by (with_reducible repeat (first | refine blk_drewN ?_ _ | refine blk_drew ?_ | refine blk_alloc ?_ _)); exact BK354.out) hb); have n3_ := Aside0.mk (below_step (by repeat (first | (with_reducible first | exact HB.out | apply below_alloc | apply pw_below_drewN | apply below_drew1 | refine below_set ?_ GE354.out) | exact HB.out)) hb); clear HO_4; clear BK354; clear HB; have HO_4 := n0_; have HO381 := n1_; have BK354 := n2_; have HB := n3_; clear n0_ n1_ n2_ n3_; (try clear hb); (try clear hb2); (try clear hk); (try clear hi); (try clear ho0)) | ((with_reducible refine gate_callee (f := 26) rfl ?_); refine goesL_ (some 114) rfl rfl Try.func26 (by kernel_rfl) rfl #[.int .i64 t383] rfl (by (try simp only [List.map_toArray, List.map_cons, List.map_nil]); first | done | rfl | (simp only [List.length_drop, List.length_take]; rfl)) ?_; (with_reducible refine (thresherlaw8_num.calls t383 t384 _ A51.out).mono ?_); rintro e w' ⟨rfl, ⟨nd, rfl⟩⟩; refine ⟨_, rfl, ?_⟩))
                                                    go_ret
                                                    exact ⟨by first | rfl | (simp [errW_none, errW_some] <;> rfl) | (simp [*, errW_none, errW_some] <;> rfl), by repeat (first | (with_reducible first | exact HB.out | apply below_alloc | apply pw_below_drewN | apply below_drew1 | refine below_set ?_ GE354.out) | exact HB.out)⟩
                                                · rw [if_neg c49] at H
                                                  exact absurd H (by simp)
                                              · rw [if_neg c48] at H
                                                exact absurd H (by simp)
                                            · rw [if_neg c47] at H
                                              have c47b0 : decide (0 < (wrap64 (2000 - t366))) = false := decide_eq_false c47
                                              clear c47
                                              have H' := Aside0.mk H
                                              clear H
                                              go_wp2
                                              go_roundg kj33
                                              case measure => have := HK1.out; have := HJ9.out; have := HK3.out; have := HJ20.out; have := HJ33.out; omega
                                              case rel => exact ⟨(wrap64 (x6_3 + 1)), (by first | rfl | (simp; done) | (simp [*]; done)), H', ⟨by have := HK1.out; have := HJ9.out; have := HK3.out; have := HJ20.out; have := HJ33.out; omega⟩, ⟨by (with_reducible repeat (first | apply Kd.R_alloc | apply Kd.R_drewN | apply Kd.R_drew)); exact HO_4.out⟩, ⟨by (with_reducible repeat (first | refine blk_drewN ?_ _ | refine blk_drew ?_ | refine blk_alloc ?_ _)); exact BK354.out⟩, ⟨by repeat (first | (with_reducible first | exact HB.out | apply below_alloc | apply pw_below_drewN | apply below_drew1 | refine below_set ?_ GE354.out) | exact HB.out)⟩⟩
                                    · replace c32 := Bool.eq_false_iff.mpr c32
                                      subst c32
                                      have H1 : (some false) = some r := by rw [if_neg (show ¬ (false = true) by decide)] at H; exact H
                                      clear H
                                      have H := H1
                                      clear H1
                                      obtain rfl := Option.some.inj H
                                      have hcz65_0 : wc.cell? ⟨gb354, 0, none⟩ = some (.slice (some ad357) l0_0.length c0_0) := (blk_cell BK354.out 0).trans rfl
                                      have hcz65_1 : wc.cell? ⟨gb354, 1, none⟩ = some (.slice A0_1 l0_1.length c0_1) := (blk_cell BK354.out 1).trans rfl
                                      have hcz65_2 : wc.cell? ⟨gb354, 2, none⟩ = some (.slice A0_2 l0_2.length c0_2) := (blk_cell BK354.out 2).trans rfl
                                      have hcz65_3 : wc.cell? ⟨gb354, 3, none⟩ = some (.slice A0_3 l0_3.length c0_3) := (blk_cell BK354.out 3).trans rfl
                                      have hfz65_0 := blk_frozen BK354.out 0
                                      have hfz65_1 := blk_frozen BK354.out 1
                                      have hfz65_2 := blk_frozen BK354.out 2
                                      have hfz65_3 := blk_frozen BK354.out 3
                                      have p362 : 0 ≤ (x6_3 : Int) := of_decide_eq_true (by first | (with_reducible assumption) | assumption)
                                      have q362 : x6_3 < (l0_2.length : Int) := of_decide_eq_true (by first | (with_reducible assumption) | assumption)
                                      obtain ⟨ad362, e362, hx362_0, hx362_1, hx362_2⟩ := at_T50 HR0_2.out x6_3 p362 q362
                                      cases e362
                                      replace hx362_0 := (HB.out.cell (World.block_lt_of_cell? w _ hx362_0)).trans hx362_0
                                      replace hx362_1 := (HB.out.cell (World.block_lt_of_cell? w _ hx362_1)).trans hx362_1
                                      replace hx362_2 := (HB.out.cell (World.block_lt_of_cell? w _ hx362_2)).trans hx362_2
                                      replace p362 := eq_true p362
                                      replace q362 := eq_true q362
                                      obtain ⟨Ao66, co66, eo66⟩ := Kd.R_slice HO_4.out
                                      subst eo66
                                      go_wp2_with (first | ((with_reducible refine gate_callee (f := 25) rfl ?_); refine goesL_ (some 61) rfl rfl Try.func25 (by kernel_rfl) rfl #[.slice Ao66 t358.length co66, .agg #[.int .i64 ((rd_T50 l0_2 x6_3).f0.f0), .string ((rd_T50 l0_2 x6_3).f0.f1), .int .i64 ((rd_T50 l0_2 x6_3).f1)], .int .i64 2000] rfl (by (try simp only [List.map_toArray, List.map_cons, List.map_nil]); first | done | rfl | (simp only [List.length_drop, List.length_take]; rfl)) ?_; (with_reducible refine (eval_Run.calls kj20 _ _ t358 ((rd_T50 l0_2 x6_3).f0.f0) ((rd_T50 l0_2 x6_3).f0.f1) ((rd_T50 l0_2 x6_3).f1) 2000 t363 t366 t367 _ ?side1 ?side2 A28.out).mono ?_); (case side1 => repeat (first | exact (Kd.R_reads' HO_4.out).2.2 | (with_reducible refine Kd.C_alloc ?_ _) | (with_reducible refine Kd.C_drewN ?_ _) | (with_reducible refine Kd.C_drew ?_))); (case side2 => exact (Kd.R_reads' HO_4.out).2.1); rintro e w67 ⟨v364, rfl, ho0, hb⟩; refine ⟨_, rfl, ?_⟩; have n0_ := Aside0.mk (Kd.R_below (by (with_reducible repeat (first | apply Kd.R_alloc | apply Kd.R_drewN | apply Kd.R_drew)); exact HO_4.out) hb); have n1_ := Aside0.mk (Kd.R_lower ho0 (below_size (by repeat (first | (with_reducible first | exact HB.out | apply below_alloc | apply pw_below_drewN | apply below_drew1 | refine below_set ?_ GE354.out) | exact HB.out)))); have n2_ := Aside0.mk (blk_below (g := gb354) (o := .cells #[.slice (some ad357) l0_0.length c0_0, .slice A0_1 l0_1.length c0_1, .slice (some ad362) l0_2.length c0_2, .slice A0_3 l0_3.length c0_3] 44 (0, 0)) (by (with_reducible repeat (first | refine blk_drewN ?_ _ | refine blk_drew ?_ | refine blk_alloc ?_ _)); exact BK354.out) hb); have n3_ := Aside0.mk (below_step (by repeat (first | (with_reducible first | exact HB.out | apply below_alloc | apply pw_below_drewN | apply below_drew1 | refine below_set ?_ GE354.out) | exact HB.out)) hb); clear HO_4; clear BK354; clear HB; have HO_4 := n0_; have HO365 := n1_; have BK354 := n2_; have HB := n3_; clear n0_ n1_ n2_ n3_; (try clear hb); (try clear hb2); (try clear hk); (try clear hi); (try clear ho0)) | ((with_reducible refine gate_callee (f := 26) rfl ?_); refine goesL_ (some 66) rfl rfl Try.func26 (by kernel_rfl) rfl #[.int .i64 t367] rfl (by (try simp only [List.map_toArray, List.map_cons, List.map_nil]); first | done | rfl | (simp only [List.length_drop, List.length_take]; rfl)) ?_; (with_reducible refine (thresherlaw8_num.calls t367 t368 _ A29.out).mono ?_); rintro e w' ⟨rfl, ⟨nd, rfl⟩⟩; refine ⟨_, rfl, ?_⟩) | ((with_reducible refine gate_callee (f := 27) rfl ?_); refine goesL_ (some 69) rfl rfl Try.func27 (by kernel_rfl) rfl #[.int .i64 t366, .int .i64 2000] rfl (by (try simp only [List.map_toArray, List.map_cons, List.map_nil]); first | done | rfl | (simp only [List.length_drop, List.length_take]; rfl)) ?_; (with_reducible refine (thresherref0_Num.calls t366 2000 false _ A31.out).mono ?_); rintro e w' ⟨rfl, ⟨nd, rfl⟩⟩; refine ⟨_, rfl, ?_⟩))
                                      go_ret
                                      exact ⟨by first | rfl | (simp [errW_none, errW_some] <;> rfl) | (simp [*, errW_none, errW_some] <;> rfl), by repeat (first | (with_reducible first | exact HB.out | apply below_alloc | apply pw_below_drewN | apply below_drew1 | refine below_set ?_ GE354.out) | exact HB.out)⟩
                                  · rw [if_neg c30] at H
                                    have c30b0 : (t368 == 0) = false := beq_eq_false_iff_ne.mpr c30
                                    have c30b1 : (t368 != 0) = true := bne_iff_ne.mpr c30
                                    have H' := Aside0.mk H
                                    clear H
                                    have hcz68_0 : wc.cell? ⟨gb354, 0, none⟩ = some (.slice (some ad357) l0_0.length c0_0) := (blk_cell BK354.out 0).trans rfl
                                    have hcz68_1 : wc.cell? ⟨gb354, 1, none⟩ = some (.slice A0_1 l0_1.length c0_1) := (blk_cell BK354.out 1).trans rfl
                                    have hcz68_2 : wc.cell? ⟨gb354, 2, none⟩ = some (.slice A0_2 l0_2.length c0_2) := (blk_cell BK354.out 2).trans rfl
                                    have hcz68_3 : wc.cell? ⟨gb354, 3, none⟩ = some (.slice A0_3 l0_3.length c0_3) := (blk_cell BK354.out 3).trans rfl
                                    have hfz68_0 := blk_frozen BK354.out 0
                                    have hfz68_1 := blk_frozen BK354.out 1
                                    have hfz68_2 := blk_frozen BK354.out 2
                                    have hfz68_3 := blk_frozen BK354.out 3
                                    have p362 : 0 ≤ (x6_3 : Int) := of_decide_eq_true (by first | (with_reducible assumption) | assumption)
                                    have q362 : x6_3 < (l0_2.length : Int) := of_decide_eq_true (by first | (with_reducible assumption) | assumption)
                                    obtain ⟨ad362, e362, hx362_0, hx362_1, hx362_2⟩ := at_T50 HR0_2.out x6_3 p362 q362
                                    cases e362
                                    replace hx362_0 := (HB.out.cell (World.block_lt_of_cell? w _ hx362_0)).trans hx362_0
                                    replace hx362_1 := (HB.out.cell (World.block_lt_of_cell? w _ hx362_1)).trans hx362_1
                                    replace hx362_2 := (HB.out.cell (World.block_lt_of_cell? w _ hx362_2)).trans hx362_2
                                    replace p362 := eq_true p362
                                    replace q362 := eq_true q362
                                    obtain ⟨Ao69, co69, eo69⟩ := Kd.R_slice HO_4.out
                                    subst eo69
                                    go_wp2_with (first | ((with_reducible refine gate_callee (f := 25) rfl ?_); refine goesL_ (some 61) rfl rfl Try.func25 (by kernel_rfl) rfl #[.slice Ao69 t358.length co69, .agg #[.int .i64 ((rd_T50 l0_2 x6_3).f0.f0), .string ((rd_T50 l0_2 x6_3).f0.f1), .int .i64 ((rd_T50 l0_2 x6_3).f1)], .int .i64 2000] rfl (by (try simp only [List.map_toArray, List.map_cons, List.map_nil]); first | done | rfl | (simp only [List.length_drop, List.length_take]; rfl)) ?_; (with_reducible refine (eval_Run.calls kj20 _ _ t358 ((rd_T50 l0_2 x6_3).f0.f0) ((rd_T50 l0_2 x6_3).f0.f1) ((rd_T50 l0_2 x6_3).f1) 2000 t363 t366 t367 _ ?side1 ?side2 A28.out).mono ?_); (case side1 => repeat (first | exact (Kd.R_reads' HO_4.out).2.2 | (with_reducible refine Kd.C_alloc ?_ _) | (with_reducible refine Kd.C_drewN ?_ _) | (with_reducible refine Kd.C_drew ?_))); (case side2 => exact (Kd.R_reads' HO_4.out).2.1); rintro e w70 ⟨v364, rfl, ho0, hb⟩; refine ⟨_, rfl, ?_⟩; have n0_ := Aside0.mk (Kd.R_below (by (with_reducible repeat (first | apply Kd.R_alloc | apply Kd.R_drewN | apply Kd.R_drew)); exact HO_4.out) hb); have n1_ := Aside0.mk (Kd.R_lower ho0 (below_size (by repeat (first | (with_reducible first | exact HB.out | apply below_alloc | apply pw_below_drewN | apply below_drew1 | refine below_set ?_ GE354.out) | exact HB.out)))); have n2_ := Aside0.mk (blk_below (g := gb354) (o := .cells #[.slice (some ad357) l0_0.length c0_0, .slice A0_1 l0_1.length c0_1, .slice (some ad362) l0_2.length c0_2, .slice A0_3 l0_3.length c0_3] 44 (0, 0)) (by (with_reducible repeat (first | refine blk_drewN ?_ _ | refine blk_drew ?_ | refine blk_alloc ?_ _)); exact BK354.out) hb); have n3_ := Aside0.mk (below_step (by repeat (first | (with_reducible first | exact HB.out | apply below_alloc | apply pw_below_drewN | apply below_drew1 | refine below_set ?_ GE354.out) | exact HB.out)) hb); clear HO_4; clear BK354; clear HB; have HO_4 := n0_; have HO365 := n1_; have BK354 := n2_; have HB := n3_; clear n0_ n1_ n2_ n3_; (try clear hb); (try clear hb2); (try clear hk); (try clear hi); (try clear ho0)) | ((with_reducible refine gate_callee (f := 26) rfl ?_); refine goesL_ (some 66) rfl rfl Try.func26 (by kernel_rfl) rfl #[.int .i64 t367] rfl (by (try simp only [List.map_toArray, List.map_cons, List.map_nil]); first | done | rfl | (simp only [List.length_drop, List.length_take]; rfl)) ?_; (with_reducible refine (thresherlaw8_num.calls t367 t368 _ A29.out).mono ?_); rintro e w' ⟨rfl, ⟨nd, rfl⟩⟩; refine ⟨_, rfl, ?_⟩))
                                    go_roundg kj20
                                    case measure => have := HK1.out; have := HJ9.out; have := HK3.out; have := HJ20.out; omega
                                    case rel => exact ⟨(wrap64 (x6_3 + 1)), (by first | rfl | (simp; done) | (simp [*]; done)), H', ⟨by have := HK1.out; have := HJ9.out; have := HK3.out; have := HJ20.out; omega⟩, ⟨by (with_reducible repeat (first | apply Kd.R_alloc | apply Kd.R_drewN | apply Kd.R_drew)); exact HO_4.out⟩, ⟨by (with_reducible repeat (first | refine blk_drewN ?_ _ | refine blk_drew ?_ | refine blk_alloc ?_ _)); exact BK354.out⟩, ⟨by repeat (first | (with_reducible first | exact HB.out | apply below_alloc | apply pw_below_drewN | apply below_drew1 | refine below_set ?_ GE354.out) | exact HB.out)⟩⟩
                                · rw [if_neg c27] at H
                                  exact absurd H (by simp)
                              · rw [if_neg c26] at H
                                exact absurd H (by simp)
                            · replace c25 := Bool.eq_false_iff.mpr c25
                              subst c25
                              have H1 : (thresherlaw8_EvalFuel.l0 kj20 (wrap64 (x3_1 + 1)) l0_0 l0_1 l0_2 l0_3) = some r := by rw [if_neg (show ¬ (false = true) by decide)] at H; exact H
                              clear H
                              have H := H1
                              clear H1
                              have H' := Aside0.mk H
                              clear H
                              go_wp2
                              go_roundg kj20
                              case measure => have := HK1.out; have := HJ9.out; have := HK3.out; have := HJ20.out; omega
                              case rel => exact ⟨(wrap64 (x3_1 + 1)), (by first | rfl | (simp; done) | (simp [*]; done)), H', ⟨by have := HK1.out; have := HJ9.out; have := HK3.out; have := HJ20.out; omega⟩, ⟨by (with_reducible repeat (first | refine blk_drewN ?_ _ | refine blk_drew ?_ | refine blk_alloc ?_ _)); exact BK354.out⟩, ⟨by repeat (first | (with_reducible first | exact HB.out | apply below_alloc | apply pw_below_drewN | apply below_drew1 | refine below_set ?_ GE354.out) | exact HB.out)⟩⟩
                  · rw [if_neg c18] at H
                    have c18b0 : (t359 == 0) = false := beq_eq_false_iff_ne.mpr c18
                    have c18b1 : (t359 != 0) = true := bne_iff_ne.mpr c18
                    have H' := Aside0.mk H
                    clear H
                    have hcz71_0 : wc.cell? ⟨gb354, 0, none⟩ = some (.slice A0_0 l0_0.length c0_0) := (blk_cell BK354.out 0).trans rfl
                    have hcz71_1 : wc.cell? ⟨gb354, 1, none⟩ = some (.slice A0_1 l0_1.length c0_1) := (blk_cell BK354.out 1).trans rfl
                    have hcz71_2 : wc.cell? ⟨gb354, 2, none⟩ = some (.slice A0_2 l0_2.length c0_2) := (blk_cell BK354.out 2).trans rfl
                    have hcz71_3 : wc.cell? ⟨gb354, 3, none⟩ = some (.slice A0_3 l0_3.length c0_3) := (blk_cell BK354.out 3).trans rfl
                    have hfz71_0 := blk_frozen BK354.out 0
                    have hfz71_1 := blk_frozen BK354.out 1
                    have hfz71_2 := blk_frozen BK354.out 2
                    have hfz71_3 := blk_frozen BK354.out 3
                    have p357 : 0 ≤ (x3_1 : Int) := of_decide_eq_true (by first | (with_reducible assumption) | assumption)
                    have q357 : x3_1 < (l0_0.length : Int) := of_decide_eq_true (by first | (with_reducible assumption) | assumption)
                    obtain ⟨ad357, e357, hx357_0⟩ := Kd.at_string HR0_0.out x3_1 p357 q357
                    cases e357
                    replace hx357_0 := (HB.out.cell (World.block_lt_of_cell? w _ hx357_0)).trans hx357_0
                    replace p357 := eq_true p357
                    replace q357 := eq_true q357
                    go_wp2_with (first | ((with_reducible refine gate_callee (f := 21) rfl ?_); refine goesL_ (some 38) rfl rfl Try.func21 (by kernel_rfl) rfl #[.string (rdOf ByteArray.empty l0_0 x3_1)] rfl (by (try simp only [List.map_toArray, List.map_cons, List.map_nil]); first | done | rfl | (simp only [List.length_drop, List.length_take]; rfl)) ?_; (with_reducible refine (thresherref6_Parse.calls kj9 (rdOf ByteArray.empty l0_0 x3_1) t358 t359 _ A17.out).mono ?_); rintro e w72 ⟨v360, rfl, ho0, hb⟩; refine ⟨_, rfl, ?_⟩; have n0_ := Aside0.mk (Kd.R_lower ho0 (below_size (by repeat (first | (with_reducible first | exact HB.out | apply below_alloc | apply pw_below_drewN | apply below_drew1 | refine below_set ?_ GE354.out) | exact HB.out)))); have n1_ := Aside0.mk (blk_below (g := gb354) (o := .cells #[.slice (some ad357) l0_0.length c0_0, .slice A0_1 l0_1.length c0_1, .slice A0_2 l0_2.length c0_2, .slice A0_3 l0_3.length c0_3] 44 (0, 0)) (by (with_reducible repeat (first | refine blk_drewN ?_ _ | refine blk_drew ?_ | refine blk_alloc ?_ _)); exact BK354.out) hb); have n2_ := Aside0.mk (below_step (by repeat (first | (with_reducible first | exact HB.out | apply below_alloc | apply pw_below_drewN | apply below_drew1 | refine below_set ?_ GE354.out) | exact HB.out)) hb); clear BK354; clear HB; have HO361 := n0_; have BK354 := n1_; have HB := n2_; clear n0_ n1_ n2_; (try clear hb); (try clear hb2); (try clear hk); (try clear hi); (try clear ho0)))
                    go_roundg kj9
                    case measure => have := HK1.out; have := HJ9.out; omega
                    case rel => exact ⟨(wrap64 (x3_1 + 1)), (by first | rfl | (simp; done) | (simp [*]; done)), H', ⟨by have := HK1.out; have := HJ9.out; omega⟩, ⟨by (with_reducible repeat (first | refine blk_drewN ?_ _ | refine blk_drew ?_ | refine blk_alloc ?_ _)); exact BK354.out⟩, ⟨by repeat (first | (with_reducible first | exact HB.out | apply below_alloc | apply pw_below_drewN | apply below_drew1 | refine below_set ?_ GE354.out) | exact HB.out)⟩⟩
                · rw [if_neg c16] at H
                  exact absurd H (by simp)
              · rw [if_neg c15] at H
                exact absurd H (by simp)
            · replace c14 := Bool.eq_false_iff.mpr c14
              subst c14
              have H1 : ((thresherlaw8_wakes.f kj9).bind fun t356 => (some t356)) = some r := by rw [if_neg (show ¬ (false = true) by decide)] at H; exact H
              clear H
              have H := H1
              clear H1
              replace H := Option.bind_eq_some_iff.mp H
              obtain ⟨t356, A730, H⟩ := H
              replace H : (some t356) = some r := H
              have A73 := Aside0.mk A730
              clear A730
              obtain rfl := Option.some.inj H
              go_wp2_with (first | ((with_reducible refine gate_callee (f := 24) rfl ?_); refine goesL_ (some 125) rfl rfl Try.func24 (by kernel_rfl) rfl #[] rfl (by (try simp only [List.map_toArray, List.map_cons, List.map_nil]); first | done | rfl | (simp only [List.length_drop, List.length_take]; rfl)) ?_; (with_reducible refine (thresherlaw8_wakes.calls kj9  t356 _ A73.out).mono ?_); rintro e w74 ⟨rfl, hb⟩; refine ⟨_, rfl, ?_⟩; have n0_ := Aside0.mk (blk_below (g := gb354) (o := .cells #[.slice A0_0 l0_0.length c0_0, .slice A0_1 l0_1.length c0_1, .slice A0_2 l0_2.length c0_2, .slice A0_3 l0_3.length c0_3] 44 (0, 0)) (by (with_reducible repeat (first | refine blk_drewN ?_ _ | refine blk_drew ?_ | refine blk_alloc ?_ _)); exact BK354.out) hb); have n1_ := Aside0.mk (below_step (by repeat (first | (with_reducible first | exact HB.out | apply below_alloc | apply pw_below_drewN | apply below_drew1 | refine below_set ?_ GE354.out) | exact HB.out)) hb); clear BK354; clear HB; have BK354 := n0_; have HB := n1_; clear n0_ n1_; (try clear hb); (try clear hb2); (try clear hk); (try clear hi)))
              go_ret
              exact ⟨by first | rfl | (simp [errW_none, errW_some] <;> rfl) | (simp [*, errW_none, errW_some] <;> rfl), by repeat (first | (with_reducible first | exact HB.out | apply below_alloc | apply pw_below_drewN | apply below_drew1 | refine below_set ?_ GE354.out) | exact HB.out)⟩

end Go.Proofs.Ytchgjkfnmifgkaa.QE
