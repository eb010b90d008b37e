-- Printed for this claim by a turned copy of the kit's print (wip/patch_print.py): a text of this session.
import Derived.Test.YtchgjkfnmifgkaaQEx0
import Derived.Test.YtchgjkfnmifgkaaQEx7
import Derived.Test.YtchgjkfnmifgkaaQEx13
import Derived.Test.YtchgjkfnmifgkaaQEx16
import Derived.Test.YtchgjkfnmifgkaaQEx18
import Derived.Test.YtchgjkfnmifgkaaEvRef
import Derived.Test.YtchgjkfnmifgkaaEvRun
namespace Go.Proofs.Ytchgjkfnmifgkaa.QE
open Go.RowKit Go.Proofs.YtchgjkfnmifgkaaW.PrintWords Go.Proofs.YtchgjkfnmifgkaaW.PrintLast Go.Proofs.YtchgjkfnmifgkaaW.PrintMore
attribute [local go_sem] max2_int min2_int max_two min_two max_three min_three max_four min_four   -- for this text's walks alone
set_option linter.unusedVariables false
set_option linter.unusedSimpArgs false

/-! ### thresherlaw8_run: function 23 -/
mutual
def thresherlaw8_run.j0 : Nat → List (S34) → Int → List (S50) → Int → Int → List (S50) → Int → Int → Bool → Int → ByteArray → Int → Option (Bool)
 | 0, _, _, _, _, _, _, _, _, _, _, _, _ => none
 | k + 1, x0, x2, x7, x8, x9, x10, x11, x12, x30, x450000, x450001, x450002 => if x30 = true then (thresherlaw8_run.j1 k x0 x2 x7 x8 x9 x10 x11 1 x450000 x450001 x450002) else (thresherlaw8_run.j1 k x0 x2 x7 x8 x9 x10 x11 x12 x450000 x450001 x450002)
def thresherlaw8_run.j1 : Nat → List (S34) → Int → List (S50) → Int → Int → List (S50) → Int → Int → Int → ByteArray → Int → Option (Bool)
 | 0, _, _, _, _, _, _, _, _, _, _, _ => none
 | k + 1, x0, x2, x7, x8, x9, x10, x11, x12, x450000, x450001, x450002 => if x12 = 0 then ((thresherref6_Run.f k x0 x450000 x450001 x450002 x2).bind fun bt457 => ((thresherlaw8_num.f x9).bind fun t462 => (if t462 = bt457.2.2 then (if x8 = bt457.2.1 then ((thresherref0_EqRecs.f k x7 bt457.1).bind fun t463 => (some t463)) else (some false)) else (some false)))) else ((thresherlaw8_num.f x9).bind fun t464 => (if t464 = x12 then (if x8 = x11 then ((thresherref0_EqRecs.f k x7 x10).bind fun t465 => (some t465)) else (some false)) else (some false)))
end
def thresherlaw8_run.f (k : Nat) (l0 : List (S34)) (a1_0 : Int) (a1_1 : ByteArray) (a1_2 : Int) (a2 : Int) : Option (Bool) := (eval_Run.f k l0 a1_0 a1_1 a1_2 a2).bind fun bt450 => ((thresherref6_Check.f k l0).bind fun t455 => (if t455 = 0 then ((thresherref6_MayRun.f a1_0 a1_1 a1_2 a2).bind fun t456 => (thresherlaw8_run.j0 k l0 a2 bt450.1 bt450.2.1 bt450.2.2 ([] : List (S50)) 0 t455 (!t456) a1_0 a1_1 a1_2)) else (thresherlaw8_run.j0 k l0 a2 bt450.1 bt450.2.1 bt450.2.2 ([] : List (S50)) 0 t455 false a1_0 a1_1 a1_2)))
theorem thresherlaw8_run.mono_l : ∀ k, (∀ y0 y1 y2 y3 y4 y5 y6 y7 y8 y9 y10 y11, LeO (thresherlaw8_run.j0 k y0 y1 y2 y3 y4 y5 y6 y7 y8 y9 y10 y11) (thresherlaw8_run.j0 (k + 1) y0 y1 y2 y3 y4 y5 y6 y7 y8 y9 y10 y11)) ∧ (∀ y0 y1 y2 y3 y4 y5 y6 y7 y8 y9 y10, LeO (thresherlaw8_run.j1 k y0 y1 y2 y3 y4 y5 y6 y7 y8 y9 y10) (thresherlaw8_run.j1 (k + 1) y0 y1 y2 y3 y4 y5 y6 y7 y8 y9 y10))
 | 0 => ⟨fun _ _ _ _ _ _ _ _ _ _ _ _ r h => by simp [thresherlaw8_run.j0] at h, fun _ _ _ _ _ _ _ _ _ _ _ r h => by simp [thresherlaw8_run.j1] at h⟩
 | k + 1 => by
  obtain ⟨ih0, ih1⟩ := thresherlaw8_run.mono_l k
  refine ⟨?_, ?_⟩
  ·
   intro y0 y1 y2 y3 y4 y5 y6 y7 y8 y9 y10 y11
   unfold thresherlaw8_run.j0
   repeat' first
   | (with_reducible exact ih0 _ _ _ _ _ _ _ _ _ _ _ _)
   | (with_reducible exact ih1 _ _ _ _ _ _ _ _ _ _ _)
   | (with_reducible exact eval_Run.mono _ _ _ _ _ _)
   | (with_reducible exact thresherref0_EqRecs.mono _ _ _)
   | (with_reducible exact thresherref6_Check.mono _ _)
   | (with_reducible exact thresherref6_Run.mono _ _ _ _ _ _)
   | (with_reducible exact LeO.refl _)
   | (with_reducible exact LeO.none _)
   | (with_reducible refine LeO.ite ?_ ?_)
   | (with_reducible refine LeO.bind ?_ (fun _ => ?_))
   | exact ih0 _ _ _ _ _ _ _ _ _ _ _ _
   | exact ih1 _ _ _ _ _ _ _ _ _ _ _
   | exact eval_Run.mono _ _ _ _ _ _
   | exact thresherref0_EqRecs.mono _ _ _
   | exact thresherref6_Check.mono _ _
   | exact thresherref6_Run.mono _ _ _ _ _ _
   | exact LeO.none _
   | refine LeO.ite ?_ ?_
   | refine LeO.bind ?_ (fun _ => ?_)
  ·
   intro y0 y1 y2 y3 y4 y5 y6 y7 y8 y9 y10
   unfold thresherlaw8_run.j1
   repeat' first
   | (with_reducible exact ih0 _ _ _ _ _ _ _ _ _ _ _ _)
   | (with_reducible exact ih1 _ _ _ _ _ _ _ _ _ _ _)
   | (with_reducible exact eval_Run.mono _ _ _ _ _ _)
   | (with_reducible exact thresherref0_EqRecs.mono _ _ _)
   | (with_reducible exact thresherref6_Check.mono _ _)
   | (with_reducible exact thresherref6_Run.mono _ _ _ _ _ _)
   | (with_reducible exact LeO.refl _)
   | (with_reducible exact LeO.none _)
   | (with_reducible refine LeO.ite ?_ ?_)
   | (with_reducible refine LeO.bind ?_ (fun _ => ?_))
   | exact ih0 _ _ _ _ _ _ _ _ _ _ _ _
   | exact ih1 _ _ _ _ _ _ _ _ _ _ _
   | exact eval_Run.mono _ _ _ _ _ _
   | exact thresherref0_EqRecs.mono _ _ _
   | exact thresherref6_Check.mono _ _
   | exact thresherref6_Run.mono _ _ _ _ _ _
   | exact LeO.none _
   | refine LeO.ite ?_ ?_
   | refine LeO.bind ?_ (fun _ => ?_)
theorem thresherlaw8_run.mono : ∀ a0 a1 a2 a3 a4 k, LeO (thresherlaw8_run.f k a0 a1 a2 a3 a4) (thresherlaw8_run.f (k + 1) a0 a1 a2 a3 a4) := by
 intro a0 a1 a2 a3 a4 k
 obtain ⟨ih0, ih1⟩ := thresherlaw8_run.mono_l k
 unfold thresherlaw8_run.f
 repeat' first
   | (with_reducible exact ih0 _ _ _ _ _ _ _ _ _ _ _ _)
   | (with_reducible exact ih1 _ _ _ _ _ _ _ _ _ _ _)
   | (with_reducible exact eval_Run.mono _ _ _ _ _ _)
   | (with_reducible exact thresherref0_EqRecs.mono _ _ _)
   | (with_reducible exact thresherref6_Check.mono _ _)
   | (with_reducible exact thresherref6_Run.mono _ _ _ _ _ _)
   | (with_reducible exact LeO.refl _)
   | (with_reducible exact LeO.none _)
   | (with_reducible refine LeO.ite ?_ ?_)
   | (with_reducible refine LeO.bind ?_ (fun _ => ?_))
   | exact ih0 _ _ _ _ _ _ _ _ _ _ _ _
   | exact ih1 _ _ _ _ _ _ _ _ _ _ _
   | exact eval_Run.mono _ _ _ _ _ _
   | exact thresherref0_EqRecs.mono _ _ _
   | exact thresherref6_Check.mono _ _
   | exact thresherref6_Run.mono _ _ _ _ _ _
   | exact LeO.none _
   | refine LeO.ite ?_ ?_
   | refine LeO.bind ?_ (fun _ => ?_)
set_option maxHeartbeats 8000000 in
set_option maxRecDepth 100000 in
theorem thresherlaw8_run.calls (k : Nat) (A0 : Option Addr) (c0 : Nat) (l0 : List (S34)) (a1_0 : Int) (a1_1 : ByteArray) (a1_2 : Int) (a2 : Int) (r : Bool) (w : World) (hr0 : Kd.C k34 w A0 l0.length l0) (hc0 : l0.length ≤ c0) (h : thresherlaw8_run.f k l0 a1_0 a1_1 a1_2 a2 = some r) :
  Calls Try.prog 23 #[.slice A0 l0.length c0, .agg #[.int .i64 a1_0, .string a1_1, .int .i64 a1_2], .int .i64 a2] w fun e w' => e = .returned (.bool r) ∧ Below w.heap.size w w' := by
 have hu50 := Try.underlying50
 have HR0 := Aside0.mk hr0
 have HC0 := Aside0.mk hc0
 clear hr0 hc0
 have HB := Aside0.mk (Below.refl w.heap.size w)
 have H : ((eval_Run.f k l0 a1_0 a1_1 a1_2 a2).bind fun bt450 => ((thresherref6_Check.f k l0).bind fun t455 => (if t455 = 0 then ((thresherref6_MayRun.f a1_0 a1_1 a1_2 a2).bind fun t456 => (thresherlaw8_run.j0 k l0 a2 bt450.1 bt450.2.1 bt450.2.2 ([] : List (S50)) 0 t455 (!t456) a1_0 a1_1 a1_2)) else (thresherlaw8_run.j0 k l0 a2 bt450.1 bt450.2.1 bt450.2.2 ([] : List (S50)) 0 t455 false a1_0 a1_1 a1_2)))) = some r := h
 clear h
 replace H := Option.bind_eq_some_iff.mp H
 obtain ⟨⟨t450, t453, t454⟩, A40, H⟩ := H
 replace H : ((thresherref6_Check.f k l0).bind fun t455 => (if t455 = 0 then ((thresherref6_MayRun.f a1_0 a1_1 a1_2 a2).bind fun t456 => (thresherlaw8_run.j0 k l0 a2 t450 t453 t454 ([] : List (S50)) 0 t455 (!t456) a1_0 a1_1 a1_2)) else (thresherlaw8_run.j0 k l0 a2 t450 t453 t454 ([] : List (S50)) 0 t455 false a1_0 a1_1 a1_2))) = some r := H
 have A4 := Aside0.mk A40
 clear A40
 replace H := Option.bind_eq_some_iff.mp H
 obtain ⟨t455, A50, H⟩ := H
 replace H : (if t455 = 0 then ((thresherref6_MayRun.f a1_0 a1_1 a1_2 a2).bind fun t456 => (thresherlaw8_run.j0 k l0 a2 t450 t453 t454 ([] : List (S50)) 0 t455 (!t456) a1_0 a1_1 a1_2)) else (thresherlaw8_run.j0 k l0 a2 t450 t453 t454 ([] : List (S50)) 0 t455 false a1_0 a1_1 a1_2)) = some r := H
 have A5 := Aside0.mk A50
 clear A50
 have HC6 := Aside0.mk H
 clear H
 go_enter Try.func23, Try.ntmps23
 go_upto_region 4 with (first | ((with_reducible refine gate_dst (N := 4) rfl ?_); refine box_event ?hg (N := 4) ?hd (cs := #[.int .i64 a1_0, .string a1_1, .int .i64 a1_2]) (t := 50) ?hr ?_; (case hd => rfl); (case hg => rfl); (case hr => first | (go_simp; done) | (go_simp; rfl)); intro gb449 hg w7 hbox hb; have n0_ := Aside0.mk (below_step (by repeat (first | (with_reducible first | exact HB.out | apply below_alloc | apply pw_below_drewN | apply below_drew1) | exact HB.out)) hb); have n1_ := Aside0.mk (hbox); have n2_ := Aside0.mk ((by rw [hg]; exact (below_size (by repeat (first | (with_reducible first | exact HB.out | apply below_alloc | apply pw_below_drewN | apply below_drew1) | exact HB.out))) : w.heap.size ≤ gb449)); have n3_ := Aside0.mk ((by rw [hg]; exact (below_size (by repeat (first | (with_reducible first | exact HB.out | apply below_alloc | apply pw_below_drewN | apply below_drew1) | exact HB.out))) : w.heap.size ≤ gb449)); clear HB; have HB := n0_; have BK449 := n1_; have GW449 := n2_; have GE449 := n3_; clear n0_ n1_ n2_ n3_; clear hb hbox hg; have hcz8_0 : w7.cell? ⟨gb449, 0, none⟩ = some (.int .i64 a1_0) := (blk_cell BK449.out 0).trans rfl; have hcz8_1 : w7.cell? ⟨gb449, 1, none⟩ = some (.string a1_1) := (blk_cell BK449.out 1).trans rfl; have hcz8_2 : w7.cell? ⟨gb449, 2, none⟩ = some (.int .i64 a1_2) := (blk_cell BK449.out 2).trans rfl; have hfz8_0 := blk_frozen BK449.out 0; have hfz8_1 := blk_frozen BK449.out 1; have hfz8_2 := blk_frozen BK449.out 2) | ((with_reducible refine gate_callee (f := 25) rfl ?_); refine goesL_ (some 17) rfl rfl Try.func25 (by kernel_rfl) rfl #[.slice A0 l0.length c0, .agg #[.int .i64 a1_0, .string a1_1, .int .i64 a1_2], .int .i64 a2] rfl (by (try simp only [List.map_toArray, List.map_cons, List.map_nil]); first | done | rfl | (simp only [List.length_drop, List.length_take]; rfl)) ?_; (with_reducible refine (eval_Run.calls k _ _ l0 a1_0 a1_1 a1_2 a2 t450 t453 t454 _ ?side1 ?side2 A4.out).mono ?_); (case side1 => repeat (first | exact (Kd.C_below HR0.out HB.out) | (with_reducible refine Kd.C_alloc ?_ _) | (with_reducible refine Kd.C_drewN ?_ _) | (with_reducible refine Kd.C_drew ?_))); (case side2 => exact HC0.out); rintro e w9 ⟨v451, rfl, ho0, hb⟩; refine ⟨_, rfl, ?_⟩; have n0_ := Aside0.mk (Kd.R_lower (Kd.R_newB ho0 (g := gb449) (o := .cells #[.int .i64 a1_0, .string a1_1, .int .i64 a1_2] 50 (0, 0)) (by (with_reducible repeat (first | refine blk_drewN ?_ _ | refine blk_drew ?_ | refine blk_alloc ?_ _)); exact BK449.out)) (below_size (by repeat (first | (with_reducible first | exact HB.out | apply below_alloc | apply pw_below_drewN | apply below_drew1 | refine below_set ?_ GE449.out) | exact HB.out)))); have n1_ := Aside0.mk (blk_below (g := gb449) (o := .cells #[.int .i64 a1_0, .string a1_1, .int .i64 a1_2] 50 (0, 0)) (by (with_reducible repeat (first | refine blk_drewN ?_ _ | refine blk_drew ?_ | refine blk_alloc ?_ _)); exact BK449.out) hb); have n2_ := Aside0.mk (below_step (by repeat (first | (with_reducible first | exact HB.out | apply below_alloc | apply pw_below_drewN | apply below_drew1 | refine below_set ?_ GE449.out) | exact HB.out)) hb); clear BK449; clear HB; have HO452 := n0_; have BK449 := n1_; have HB := n2_; clear n0_ n1_ n2_; (try clear hb); (try clear hb2); (try clear hk); (try clear hi); (try clear ho0)) | ((with_reducible refine gate_callee (f := 37) rfl ?_); refine goesL_ (some 22) rfl rfl Try.func37 (by kernel_rfl) rfl #[.slice A0 l0.length c0] rfl (by (try simp only [List.map_toArray, List.map_cons, List.map_nil]); first | done | rfl | (simp only [List.length_drop, List.length_take]; rfl)) ?_; (with_reducible refine (thresherref6_Check.calls k _ _ l0 t455 _ ?side1 ?side2 A5.out).mono ?_); (case side1 => repeat (first | exact (Kd.C_below HR0.out HB.out) | (with_reducible refine Kd.C_alloc ?_ _) | (with_reducible refine Kd.C_drewN ?_ _) | (with_reducible refine Kd.C_drew ?_))); (case side2 => exact HC0.out); rintro e w10 ⟨rfl, hb⟩; refine ⟨_, rfl, ?_⟩; have n0_ := Aside0.mk (Kd.R_below (by (with_reducible repeat (first | apply Kd.R_alloc | apply Kd.R_drewN | apply Kd.R_drew)); exact HO452.out) hb); have n1_ := Aside0.mk (blk_below (g := gb449) (o := .cells #[.int .i64 a1_0, .string a1_1, .int .i64 a1_2] 50 (0, 0)) (by (with_reducible repeat (first | refine blk_drewN ?_ _ | refine blk_drew ?_ | refine blk_alloc ?_ _)); exact BK449.out) hb); have n2_ := Aside0.mk (below_step (by repeat (first | (with_reducible first | exact HB.out | apply below_alloc | apply pw_below_drewN | apply below_drew1 | refine below_set ?_ GE449.out) | exact HB.out)) hb); clear HO452; clear BK449; clear HB; have HO452 := n0_; have BK449 := n1_; have HB := n2_; clear n0_ n1_ n2_; (try clear hb); (try clear hb2); (try clear hk); (try clear hi)))
 (try simp only [Act.put, List.setIfInBounds_toArray, List.set_cons_zero, List.set_cons_succ])
 go_cut [30] (fun v30 wc => ∃ (kq : Nat) (x30_5 : Bool), v30 = .bool x30_5 ∧ Aside0 (thresherlaw8_run.j0 kq l0 a2 t450 t453 t454 ([] : List (S50)) 0 t455 x30_5 a1_0 a1_1 a1_2 = some r) ∧ Aside0 (kq ≤ k) ∧ Aside0 (Kd.R k50 50 wc w.heap.size (fun k_ => some k_ ≠ ((.slice none 0 0) : Value).ownBlock ∧ k_ ≠ gb449) v451 t450) ∧ Aside0 (Kd.R k50 50 wc w.heap.size (fun k_ => some k_ ≠ (v451 : Value).ownBlock ∧ k_ ≠ gb449) (.slice none 0 0) ([] : List (S50))) ∧ Aside0 (wc.heap[gb449]? = some (.cells #[.int .i64 a1_0, .string a1_1, .int .i64 a1_2] 50 (0, 0))) ∧ Aside0 (Below w.heap.size w wc))
 case first =>
  have H := HC6.out
  clear HC6
  by_cases c11 : t455 = 0
  ·
   rw [if_pos c11] at H
   have c11b0 : (t455 == 0) = true := beq_iff_eq.mpr c11
   have c11b1 : (t455 != 0) = false := bne_eq_false_iff_eq.mpr c11
   clear c11
   (first | rw [c11b0] | (simp only [i64_w, i32_w]; rw [c11b0]) | skip)
   replace H := Option.bind_eq_some_iff.mp H
   obtain ⟨t456, A120, H⟩ := H
   replace H : (thresherlaw8_run.j0 k l0 a2 t450 t453 t454 ([] : List (S50)) 0 t455 (!t456) a1_0 a1_1 a1_2) = some r := H
   have A12 := Aside0.mk A120
   clear A120
   have H' := Aside0.mk H
   clear H
   have hcz13_0 : w10.cell? ⟨gb449, 0, none⟩ = some (.int .i64 a1_0) := (blk_cell BK449.out 0).trans rfl
   have hcz13_1 : w10.cell? ⟨gb449, 1, none⟩ = some (.string a1_1) := (blk_cell BK449.out 1).trans rfl
   have hcz13_2 : w10.cell? ⟨gb449, 2, none⟩ = some (.int .i64 a1_2) := (blk_cell BK449.out 2).trans rfl
   have hfz13_0 := blk_frozen BK449.out 0
   have hfz13_1 := blk_frozen BK449.out 1
   have hfz13_2 := blk_frozen BK449.out 2
   go_wp2_with (first | (go_at_call 41; (with_reducible refine (thresherref6_MayRun.calls a1_0 a1_1 a1_2 a2 t456 _ A12.out).mono ?_); rintro e w14 ⟨rfl, hb⟩; have n0_ := Aside0.mk (Kd.R_below (by (with_reducible repeat (first | apply Kd.R_alloc | apply Kd.R_drewN | apply Kd.R_drew)); exact HO452.out) hb); have n1_ := Aside0.mk (blk_below (g := gb449) (o := .cells #[.int .i64 a1_0, .string a1_1, .int .i64 a1_2] 50 (0, 0)) (by (with_reducible repeat (first | refine blk_drewN ?_ _ | refine blk_drew ?_ | refine blk_alloc ?_ _)); exact BK449.out) hb); have n2_ := Aside0.mk (below_step (by repeat (first | (with_reducible first | exact HB.out | apply below_alloc | apply pw_below_drewN | apply below_drew1 | refine below_set ?_ GE449.out) | exact HB.out)) hb); clear HO452; clear BK449; clear HB; have HO452 := n0_; have BK449 := n1_; have HB := n2_; clear n0_ n1_ n2_; (try clear hb); (try clear hb2); (try clear hk); (try clear hi)))
   go_meet
   case rel => exact ⟨_, (!t456), (by first | rfl | (simp; done) | (simp [*]; done)), H', ⟨by first | omega | exact Nat.le_refl _⟩, ⟨by (with_reducible repeat (first | apply Kd.R_alloc | apply Kd.R_drewN | apply Kd.R_drew)); exact Kd.R_mono HO452.out (fun _ hk => ⟨(by simp [Value.ownBlock]), hk.2⟩)⟩, ⟨by first | exact Kd.R_nil _ _ _ _ _ | exact Kd.N_nil _ _ _ _ _ | exact Kd.V_nil _ _ _ _ _ | exact Kd.Q_nil _ _ _ _ _ | exact Kd.S_nil _ _ _ _ _⟩, ⟨by (with_reducible repeat (first | refine blk_drewN ?_ _ | refine blk_drew ?_ | refine blk_alloc ?_ _)); exact BK449.out⟩, ⟨by repeat (first | (with_reducible first | exact HB.out | apply below_alloc | apply pw_below_drewN | apply below_drew1 | refine below_set ?_ GE449.out) | exact HB.out)⟩⟩
  ·
   rw [if_neg c11] at H
   have c11b0 : (t455 == 0) = false := beq_eq_false_iff_ne.mpr c11
   have c11b1 : (t455 != 0) = true := bne_iff_ne.mpr c11
   (first | rw [c11b0] | (simp only [i64_w, i32_w]; rw [c11b0]) | skip)
   have H' := Aside0.mk H
   clear H
   go_wp2
   go_meet
   case rel => exact ⟨_, (false), (by first | rfl | (simp; done) | (simp [*]; done)), H', ⟨by first | omega | exact Nat.le_refl _⟩, ⟨by (with_reducible repeat (first | apply Kd.R_alloc | apply Kd.R_drewN | apply Kd.R_drew)); exact Kd.R_mono HO452.out (fun _ hk => ⟨(by simp [Value.ownBlock]), hk.2⟩)⟩, ⟨by first | exact Kd.R_nil _ _ _ _ _ | exact Kd.N_nil _ _ _ _ _ | exact Kd.V_nil _ _ _ _ _ | exact Kd.Q_nil _ _ _ _ _ | exact Kd.S_nil _ _ _ _ _⟩, ⟨by (with_reducible repeat (first | refine blk_drewN ?_ _ | refine blk_drew ?_ | refine blk_alloc ?_ _)); exact BK449.out⟩, ⟨by repeat (first | (with_reducible first | exact HB.out | apply below_alloc | apply pw_below_drewN | apply below_drew1 | refine below_set ?_ GE449.out) | exact HB.out)⟩⟩
 case rest =>
  clear HC6
  (try clear c1); (try clear c2); (try clear p2); (try clear c3); (try clear c11); (try clear c11b0); (try clear c11b1); (try clear hcz13_0); (try clear hcz13_1); (try clear hcz13_2); (try clear hcz8_0); (try clear hcz8_1)
  (try clear hcz8_2); (try clear hfz13_0); (try clear hfz13_1); (try clear hfz13_2); (try clear hfz8_0); (try clear hfz8_1); (try clear hfz8_2)
  obtain ⟨kq, x30_5, rfl, HA, HJ5, HO_7, HO_10, BK449, HB⟩ := hcut
  cases kq with
  | zero => exact absurd HA.out (by simp [thresherlaw8_run.j0])
  | succ kj5 =>
   have H := HA.out
   clear HA
   simp only [thresherlaw8_run.j0] at H
   have HC15 := Aside0.mk H
   clear H
   go_upto_if 30 with (fail)
   go_cut [12] (fun v12 wc => ∃ (kq : Nat) (x12_14 : Int), v12 = .int .i64 x12_14 ∧ Aside0 (thresherlaw8_run.j1 kq l0 a2 t450 t453 t454 ([] : List (S50)) 0 x12_14 a1_0 a1_1 a1_2 = some r) ∧ Aside0 (kq ≤ kj5) ∧ Aside0 (Kd.R k50 50 wc w.heap.size (fun k_ => some k_ ≠ ((.slice none 0 0) : Value).ownBlock ∧ k_ ≠ gb449) v451 t450) ∧ Aside0 (Kd.R k50 50 wc w.heap.size (fun k_ => some k_ ≠ (v451 : Value).ownBlock ∧ k_ ≠ gb449) (.slice none 0 0) ([] : List (S50))) ∧ Aside0 (wc.heap[gb449]? = some (.cells #[.int .i64 a1_0, .string a1_1, .int .i64 a1_2] 50 (0, 0))) ∧ Aside0 (Below w.heap.size w wc))
   case first =>
    have H := HC15.out
    clear HC15
    by_cases c16 : x30_5 = true
    ·
     subst c16
     have H1 : (thresherlaw8_run.j1 kj5 l0 a2 t450 t453 t454 ([] : List (S50)) 0 1 a1_0 a1_1 a1_2) = some r := by rw [if_pos rfl] at H; exact H
     clear H
     have H := H1
     clear H1
     have H' := Aside0.mk H
     clear H
     go_wp2
     go_meet
     case rel => exact ⟨_, (1), (by first | rfl | (simp; done) | (simp [*]; done)), H', ⟨by have := HJ5.out; first | omega | exact Nat.le_refl _⟩, ⟨by (with_reducible repeat (first | apply Kd.R_alloc | apply Kd.R_drewN | apply Kd.R_drew)); exact HO_7.out⟩, ⟨by (with_reducible repeat (first | apply Kd.R_alloc | apply Kd.R_drewN | apply Kd.R_drew)); exact HO_10.out⟩, ⟨by (with_reducible repeat (first | refine blk_drewN ?_ _ | refine blk_drew ?_ | refine blk_alloc ?_ _)); exact BK449.out⟩, ⟨by repeat (first | (with_reducible first | exact HB.out | apply below_alloc | apply pw_below_drewN | apply below_drew1 | refine below_set ?_ GE449.out) | exact HB.out)⟩⟩
    ·
     replace c16 := Bool.eq_false_iff.mpr c16
     subst c16
     have H1 : (thresherlaw8_run.j1 kj5 l0 a2 t450 t453 t454 ([] : List (S50)) 0 t455 a1_0 a1_1 a1_2) = some r := by rw [if_neg (show ¬ (false = true) by decide)] at H; exact H
     clear H
     have H := H1
     clear H1
     have H' := Aside0.mk H
     clear H
     go_wp2
     go_meet
     case rel => exact ⟨_, (t455), (by first | rfl | (simp; done) | (simp [*]; done)), H', ⟨by have := HJ5.out; first | omega | exact Nat.le_refl _⟩, ⟨by (with_reducible repeat (first | apply Kd.R_alloc | apply Kd.R_drewN | apply Kd.R_drew)); exact HO_7.out⟩, ⟨by (with_reducible repeat (first | apply Kd.R_alloc | apply Kd.R_drewN | apply Kd.R_drew)); exact HO_10.out⟩, ⟨by (with_reducible repeat (first | refine blk_drewN ?_ _ | refine blk_drew ?_ | refine blk_alloc ?_ _)); exact BK449.out⟩, ⟨by repeat (first | (with_reducible first | exact HB.out | apply below_alloc | apply pw_below_drewN | apply below_drew1 | refine below_set ?_ GE449.out) | exact HB.out)⟩⟩
   case rest =>
    clear HC15
    (try clear c1); (try clear c2); (try clear p2); (try clear c3); (try clear c11); (try clear c11b0); (try clear c11b1); (try clear c16); (try clear hcz13_0); (try clear hcz13_1); (try clear hcz13_2); (try clear hcz8_0)
    (try clear hcz8_1); (try clear hcz8_2); (try clear hfz13_0); (try clear hfz13_1); (try clear hfz13_2); (try clear hfz8_0); (try clear hfz8_1); (try clear hfz8_2); (try clear p2)
    obtain ⟨kq, x12_14, rfl, HA, HJ14, HO_7, HO_10, BK449, HB⟩ := hcut
    cases kq with
    | zero => exact absurd HA.out (by simp [thresherlaw8_run.j1])
    | succ kj14 =>
     have H := HA.out
     clear HA
     simp only [thresherlaw8_run.j1] at H
     by_cases c17 : x12_14 = 0
     ·
      rw [if_pos c17] at H
      have c17b0 : (x12_14 == 0) = true := beq_iff_eq.mpr c17
      have c17b1 : (x12_14 != 0) = false := bne_eq_false_iff_eq.mpr c17
      clear c17
      replace H := Option.bind_eq_some_iff.mp H
      obtain ⟨⟨t457, t460, t461⟩, A180, H⟩ := H
      replace H : ((thresherlaw8_num.f t454).bind fun t462 => (if t462 = t461 then (if t453 = t460 then ((thresherref0_EqRecs.f kj14 t450 t457).bind fun t463 => (some t463)) else (some false)) else (some false))) = some r := H
      have A18 := Aside0.mk A180
      clear A180
      replace H := Option.bind_eq_some_iff.mp H
      obtain ⟨t462, A190, H⟩ := H
      replace H : (if t462 = t461 then (if t453 = t460 then ((thresherref0_EqRecs.f kj14 t450 t457).bind fun t463 => (some t463)) else (some false)) else (some false)) = some r := H
      have A19 := Aside0.mk A190
      clear A190
      by_cases c20 : t462 = t461
      ·
       rw [if_pos c20] at H
       have c20b0 : (t462 == t461) = true := beq_iff_eq.mpr c20
       have c20b1 : (t462 != t461) = false := bne_eq_false_iff_eq.mpr c20
       clear c20
       by_cases c21 : t453 = t460
       ·
        rw [if_pos c21] at H
        have c21b0 : (t453 == t460) = true := beq_iff_eq.mpr c21
        have c21b1 : (t453 != t460) = false := bne_eq_false_iff_eq.mpr c21
        clear c21
        replace H := Option.bind_eq_some_iff.mp H
        obtain ⟨t463, A220, H⟩ := H
        replace H : (some t463) = some r := H
        have A22 := Aside0.mk A220
        clear A220
        obtain rfl := Option.some.inj H
        have hcz23_0 : wc.cell? ⟨gb449, 0, none⟩ = some (.int .i64 a1_0) := (blk_cell BK449.out 0).trans rfl
        have hcz23_1 : wc.cell? ⟨gb449, 1, none⟩ = some (.string a1_1) := (blk_cell BK449.out 1).trans rfl
        have hcz23_2 : wc.cell? ⟨gb449, 2, none⟩ = some (.int .i64 a1_2) := (blk_cell BK449.out 2).trans rfl
        have hfz23_0 := blk_frozen BK449.out 0
        have hfz23_1 := blk_frozen BK449.out 1
        have hfz23_2 := blk_frozen BK449.out 2
        go_wp2_with (first | ((with_reducible refine gate_callee (f := 42) rfl ?_); refine goesL_ (some 37) rfl rfl Try.func42 (by kernel_rfl) rfl #[.slice A0 l0.length c0, .agg #[.int .i64 a1_0, .string a1_1, .int .i64 a1_2], .int .i64 a2] rfl (by (try simp only [List.map_toArray, List.map_cons, List.map_nil]); first | done | rfl | (simp only [List.length_drop, List.length_take]; rfl)) ?_; (with_reducible refine (thresherref6_Run.calls kj14 _ _ l0 a1_0 a1_1 a1_2 a2 t457 t460 t461 _ ?side1 ?side2 A18.out).mono ?_); (case side1 => repeat (first | exact (Kd.C_below HR0.out HB.out) | (with_reducible refine Kd.C_alloc ?_ _) | (with_reducible refine Kd.C_drewN ?_ _) | (with_reducible refine Kd.C_drew ?_))); (case side2 => exact HC0.out); rintro e w24 ⟨v458, rfl, ho0, hb⟩; refine ⟨_, rfl, ?_⟩; have n0_ := Aside0.mk (Kd.R_elder' (by (with_reducible repeat (first | apply Kd.R_alloc | apply Kd.R_drewN | apply Kd.R_drew)); exact HO_7.out) (Kd.R_base ho0) hb); have n1_ := Aside0.mk (Kd.R_elder' (by (with_reducible repeat (first | apply Kd.R_alloc | apply Kd.R_drewN | apply Kd.R_drew)); exact HO_10.out) (Kd.R_base ho0) hb); have n2_ := Aside0.mk (Kd.R_lower (Kd.R_newB (Kd.R_new' (Kd.R_new' ho0 (Kd.R_lt (by (with_reducible repeat (first | apply Kd.R_alloc | apply Kd.R_drewN | apply Kd.R_drew)); exact HO_7.out))) (Kd.R_lt (by (with_reducible repeat (first | apply Kd.R_alloc | apply Kd.R_drewN | apply Kd.R_drew)); exact HO_10.out))) (g := gb449) (o := .cells #[.int .i64 a1_0, .string a1_1, .int .i64 a1_2] 50 (0, 0)) (by (with_reducible repeat (first | refine blk_drewN ?_ _ | refine blk_drew ?_ | refine blk_alloc ?_ _)); exact BK449.out)) (below_size (by repeat (first | (with_reducible first | exact HB.out | apply below_alloc | apply pw_below_drewN | apply below_drew1 | refine below_set ?_ GE449.out) | exact HB.out)))); have n3_ := Aside0.mk (blk_below (g := gb449) (o := .cells #[.int .i64 a1_0, .string a1_1, .int .i64 a1_2] 50 (0, 0)) (by (with_reducible repeat (first | refine blk_drewN ?_ _ | refine blk_drew ?_ | refine blk_alloc ?_ _)); exact BK449.out) hb); have n4_ := Aside0.mk (below_step (by repeat (first | (with_reducible first | exact HB.out | apply below_alloc | apply pw_below_drewN | apply below_drew1 | refine below_set ?_ GE449.out) | exact HB.out)) hb); clear HO_7; clear HO_10; clear BK449; clear HB; have HO_7 := n0_; have HO_10 := n1_; have HO459 := n2_; have BK449 := n3_; have HB := n4_; clear n0_ n1_ n2_ n3_ n4_; (try clear hb); (try clear hb2); (try clear hk); (try clear hi); (try clear ho0)) | ((with_reducible refine gate_callee (f := 26) rfl ?_); refine goesL_ (some 42) rfl rfl Try.func26 (by kernel_rfl) rfl #[.int .i64 t454] rfl (by (try simp only [List.map_toArray, List.map_cons, List.map_nil]); first | done | rfl | (simp only [List.length_drop, List.length_take]; rfl)) ?_; (with_reducible refine (thresherlaw8_num.calls t454 t462 _ A19.out).mono ?_); rintro e w' ⟨rfl, ⟨nd, rfl⟩⟩; refine ⟨_, rfl, ?_⟩; obtain ⟨Ao25, co25, eo25⟩ := Kd.R_slice HO_7.out; subst eo25; obtain ⟨Ao26, co26, eo26⟩ := Kd.R_slice HO459.out; subst eo26) | (go_at_call 28; (with_reducible refine (thresherref0_EqRecs.calls kj14 _ _ t450 _ _ t457 t463 _ ?side1 ?side2 ?side3 ?side4 A22.out).mono ?_); (case side1 => repeat (first | exact (Kd.R_reads' HO_7.out).2.2 | (with_reducible refine Kd.C_alloc ?_ _) | (with_reducible refine Kd.C_drewN ?_ _) | (with_reducible refine Kd.C_drew ?_))); (case side2 => exact (Kd.R_reads' HO_7.out).2.1); (case side3 => repeat (first | exact (Kd.R_reads' HO459.out).2.2 | (with_reducible refine Kd.C_alloc ?_ _) | (with_reducible refine Kd.C_drewN ?_ _) | (with_reducible refine Kd.C_drew ?_))); (case side4 => exact (Kd.R_reads' HO459.out).2.1); rintro e w' ⟨rfl, ⟨nd, rfl⟩⟩))
        go_ret
        exact ⟨by first | rfl | (simp [errW_none, errW_some] <;> rfl) | (simp [*, errW_none, errW_some] <;> rfl), by repeat (first | (with_reducible first | exact HB.out | apply below_alloc | apply pw_below_drewN | apply below_drew1 | refine below_set ?_ GE449.out) | exact HB.out)⟩
       ·
        rw [if_neg c21] at H
        have c21b0 : (t453 == t460) = false := beq_eq_false_iff_ne.mpr c21
        have c21b1 : (t453 != t460) = true := bne_iff_ne.mpr c21
        obtain rfl := Option.some.inj H
        have hcz27_0 : wc.cell? ⟨gb449, 0, none⟩ = some (.int .i64 a1_0) := (blk_cell BK449.out 0).trans rfl
        have hcz27_1 : wc.cell? ⟨gb449, 1, none⟩ = some (.string a1_1) := (blk_cell BK449.out 1).trans rfl
        have hcz27_2 : wc.cell? ⟨gb449, 2, none⟩ = some (.int .i64 a1_2) := (blk_cell BK449.out 2).trans rfl
        have hfz27_0 := blk_frozen BK449.out 0
        have hfz27_1 := blk_frozen BK449.out 1
        have hfz27_2 := blk_frozen BK449.out 2
        go_wp2_with (first | ((with_reducible refine gate_callee (f := 42) rfl ?_); refine goesL_ (some 37) rfl rfl Try.func42 (by kernel_rfl) rfl #[.slice A0 l0.length c0, .agg #[.int .i64 a1_0, .string a1_1, .int .i64 a1_2], .int .i64 a2] rfl (by (try simp only [List.map_toArray, List.map_cons, List.map_nil]); first | done | rfl | (simp only [List.length_drop, List.length_take]; rfl)) ?_; (with_reducible refine (thresherref6_Run.calls kj14 _ _ l0 a1_0 a1_1 a1_2 a2 t457 t460 t461 _ ?side1 ?side2 A18.out).mono ?_); (case side1 => repeat (first | exact (Kd.C_below HR0.out HB.out) | (with_reducible refine Kd.C_alloc ?_ _) | (with_reducible refine Kd.C_drewN ?_ _) | (with_reducible refine Kd.C_drew ?_))); (case side2 => exact HC0.out); rintro e w28 ⟨v458, rfl, ho0, hb⟩; refine ⟨_, rfl, ?_⟩; have n0_ := Aside0.mk (Kd.R_elder' (by (with_reducible repeat (first | apply Kd.R_alloc | apply Kd.R_drewN | apply Kd.R_drew)); exact HO_7.out) (Kd.R_base ho0) hb); have n1_ := Aside0.mk (Kd.R_elder' (by (with_reducible repeat (first | apply Kd.R_alloc | apply Kd.R_drewN | apply Kd.R_drew)); exact HO_10.out) (Kd.R_base ho0) hb); have n2_ := Aside0.mk (Kd.R_lower (Kd.R_newB (Kd.R_new' (Kd.R_new' ho0 (Kd.R_lt (by (with_reducible repeat (first | apply Kd.R_alloc | apply Kd.R_drewN | apply Kd.R_drew)); exact HO_7.out))) (Kd.R_lt (by (with_reducible repeat (first | apply Kd.R_alloc | apply Kd.R_drewN | apply Kd.R_drew)); exact HO_10.out))) (g := gb449) (o := .cells #[.int .i64 a1_0, .string a1_1, .int .i64 a1_2] 50 (0, 0)) (by (with_reducible repeat (first | refine blk_drewN ?_ _ | refine blk_drew ?_ | refine blk_alloc ?_ _)); exact BK449.out)) (below_size (by repeat (first | (with_reducible first | exact HB.out | apply below_alloc | apply pw_below_drewN | apply below_drew1 | refine below_set ?_ GE449.out) | exact HB.out)))); have n3_ := Aside0.mk (blk_below (g := gb449) (o := .cells #[.int .i64 a1_0, .string a1_1, .int .i64 a1_2] 50 (0, 0)) (by (with_reducible repeat (first | refine blk_drewN ?_ _ | refine blk_drew ?_ | refine blk_alloc ?_ _)); exact BK449.out) hb); have n4_ := Aside0.mk (below_step (by repeat (first | (with_reducible first | exact HB.out | apply below_alloc | apply pw_below_drewN | apply below_drew1 | refine below_set ?_ GE449.out) | exact HB.out)) hb); clear HO_7; clear HO_10; clear BK449; clear HB; have HO_7 := n0_; have HO_10 := n1_; have HO459 := n2_; have BK449 := n3_; have HB := n4_; clear n0_ n1_ n2_ n3_ n4_; (try clear hb); (try clear hb2); (try clear hk); (try clear hi); (try clear ho0)) | ((with_reducible refine gate_callee (f := 26) rfl ?_); refine goesL_ (some 42) rfl rfl Try.func26 (by kernel_rfl) rfl #[.int .i64 t454] rfl (by (try simp only [List.map_toArray, List.map_cons, List.map_nil]); first | done | rfl | (simp only [List.length_drop, List.length_take]; rfl)) ?_; (with_reducible refine (thresherlaw8_num.calls t454 t462 _ A19.out).mono ?_); rintro e w' ⟨rfl, ⟨nd, rfl⟩⟩; refine ⟨_, rfl, ?_⟩))
        go_ret
        exact ⟨by first | rfl | (simp [errW_none, errW_some] <;> rfl) | (simp [*, errW_none, errW_some] <;> rfl), by repeat (first | (with_reducible first | exact HB.out | apply below_alloc | apply pw_below_drewN | apply below_drew1 | refine below_set ?_ GE449.out) | exact HB.out)⟩
      ·
       rw [if_neg c20] at H
       have c20b0 : (t462 == t461) = false := beq_eq_false_iff_ne.mpr c20
       have c20b1 : (t462 != t461) = true := bne_iff_ne.mpr c20
       obtain rfl := Option.some.inj H
       have hcz29_0 : wc.cell? ⟨gb449, 0, none⟩ = some (.int .i64 a1_0) := (blk_cell BK449.out 0).trans rfl
       have hcz29_1 : wc.cell? ⟨gb449, 1, none⟩ = some (.string a1_1) := (blk_cell BK449.out 1).trans rfl
       have hcz29_2 : wc.cell? ⟨gb449, 2, none⟩ = some (.int .i64 a1_2) := (blk_cell BK449.out 2).trans rfl
       have hfz29_0 := blk_frozen BK449.out 0
       have hfz29_1 := blk_frozen BK449.out 1
       have hfz29_2 := blk_frozen BK449.out 2
       go_wp2_with (first | ((with_reducible refine gate_callee (f := 42) rfl ?_); refine goesL_ (some 37) rfl rfl Try.func42 (by kernel_rfl) rfl #[.slice A0 l0.length c0, .agg #[.int .i64 a1_0, .string a1_1, .int .i64 a1_2], .int .i64 a2] rfl (by (try simp only [List.map_toArray, List.map_cons, List.map_nil]); first | done | rfl | (simp only [List.length_drop, List.length_take]; rfl)) ?_; (with_reducible refine (thresherref6_Run.calls kj14 _ _ l0 a1_0 a1_1 a1_2 a2 t457 t460 t461 _ ?side1 ?side2 A18.out).mono ?_); (case side1 => repeat (first | exact (Kd.C_below HR0.out HB.out) | (with_reducible refine Kd.C_alloc ?_ _) | (with_reducible refine Kd.C_drewN ?_ _) | (with_reducible refine Kd.C_drew ?_))); (case side2 => exact HC0.out); rintro e w30 ⟨v458, rfl, ho0, hb⟩; refine ⟨_, rfl, ?_⟩; have n0_ := Aside0.mk (Kd.R_elder' (by (with_reducible repeat (first | apply Kd.R_alloc | apply Kd.R_drewN | apply Kd.R_drew)); exact HO_7.out) (Kd.R_base ho0) hb); have n1_ := Aside0.mk (Kd.R_elder' (by (with_reducible repeat (first | apply Kd.R_alloc | apply Kd.R_drewN | apply Kd.R_drew)); exact HO_10.out) (Kd.R_base ho0) hb); have n2_ := Aside0.mk (Kd.R_lower (Kd.R_newB (Kd.R_new' (Kd.R_new' ho0 (Kd.R_lt (by (with_reducible repeat (first | apply Kd.R_alloc | apply Kd.R_drewN | apply Kd.R_drew)); exact HO_7.out))) (Kd.R_lt (by (with_reducible repeat (first | apply Kd.R_alloc | apply Kd.R_drewN | apply Kd.R_drew)); exact HO_10.out))) (g := gb449) (o := .cells #[.int .i64 a1_0, .string a1_1, .int .i64 a1_2] 50 (0, 0)) (by (with_reducible repeat (first | refine blk_drewN ?_ _ | refine blk_drew ?_ | refine blk_alloc ?_ _)); exact BK449.out)) (below_size (by repeat (first | (with_reducible first | exact HB.out | apply below_alloc | apply pw_below_drewN | apply below_drew1 | refine below_set ?_ GE449.out) | exact HB.out)))); have n3_ := Aside0.mk (blk_below (g := gb449) (o := .cells #[.int .i64 a1_0, .string a1_1, .int .i64 a1_2] 50 (0, 0)) (by (with_reducible repeat (first | refine blk_drewN ?_ _ | refine blk_drew ?_ | refine blk_alloc ?_ _)); exact BK449.out) hb); have n4_ := Aside0.mk (below_step (by repeat (first | (with_reducible first | exact HB.out | apply below_alloc | apply pw_below_drewN | apply below_drew1 | refine below_set ?_ GE449.out) | exact HB.out)) hb); clear HO_7; clear HO_10; clear BK449; clear HB; have HO_7 := n0_; have HO_10 := n1_; have HO459 := n2_; have BK449 := n3_; have HB := n4_; clear n0_ n1_ n2_ n3_ n4_; (try clear hb); (try clear hb2); (try clear hk); (try clear hi); (try clear ho0)) | ((with_reducible refine gate_callee (f := 26) rfl ?_); refine goesL_ (some 42) rfl rfl Try.func26 (by kernel_rfl) rfl #[.int .i64 t454] rfl (by (try simp only [List.map_toArray, List.map_cons, List.map_nil]); first | done | rfl | (simp only [List.length_drop, List.length_take]; rfl)) ?_; (with_reducible refine (thresherlaw8_num.calls t454 t462 _ A19.out).mono ?_); rintro e w' ⟨rfl, ⟨nd, rfl⟩⟩; refine ⟨_, rfl, ?_⟩))
       go_ret
       exact ⟨by first | rfl | (simp [errW_none, errW_some] <;> rfl) | (simp [*, errW_none, errW_some] <;> rfl), by repeat (first | (with_reducible first | exact HB.out | apply below_alloc | apply pw_below_drewN | apply below_drew1 | refine below_set ?_ GE449.out) | exact HB.out)⟩
     ·
      rw [if_neg c17] at H
      have c17b0 : (x12_14 == 0) = false := beq_eq_false_iff_ne.mpr c17
      have c17b1 : (x12_14 != 0) = true := bne_iff_ne.mpr c17
      replace H := Option.bind_eq_some_iff.mp H
      obtain ⟨t464, A310, H⟩ := H
      replace H : (if t464 = x12_14 then (if t453 = 0 then ((thresherref0_EqRecs.f kj14 t450 ([] : List (S50))).bind fun t465 => (some t465)) else (some false)) else (some false)) = some r := H
      have A31 := Aside0.mk A310
      clear A310
      by_cases c32 : t464 = x12_14
      ·
       rw [if_pos c32] at H
       have c32b0 : (t464 == x12_14) = true := beq_iff_eq.mpr c32
       have c32b1 : (t464 != x12_14) = false := bne_eq_false_iff_eq.mpr c32
       clear c32
       by_cases c33 : t453 = 0
       ·
        rw [if_pos c33] at H
        have c33b0 : (t453 == 0) = true := beq_iff_eq.mpr c33
        have c33b1 : (t453 != 0) = false := bne_eq_false_iff_eq.mpr c33
        clear c33
        replace H := Option.bind_eq_some_iff.mp H
        obtain ⟨t465, A340, H⟩ := H
        replace H : (some t465) = some r := H
        have A34 := Aside0.mk A340
        clear A340
        obtain rfl := Option.some.inj H
        go_wp2_with (first | ((with_reducible refine gate_callee (f := 26) rfl ?_); refine goesL_ (some 42) rfl rfl Try.func26 (by kernel_rfl) rfl #[.int .i64 t454] rfl (by (try simp only [List.map_toArray, List.map_cons, List.map_nil]); first | done | rfl | (simp only [List.length_drop, List.length_take]; rfl)) ?_; (with_reducible refine (thresherlaw8_num.calls t454 t464 _ A31.out).mono ?_); rintro e w' ⟨rfl, ⟨nd, rfl⟩⟩; refine ⟨_, rfl, ?_⟩; obtain ⟨Ao35, co35, eo35⟩ := Kd.R_slice HO_7.out; subst eo35) | (go_at_call 28; refine calls_of_args (args' := #[.slice Ao35 t450.length co35, .slice none ([] : List (S50)).length 0]) (by first | (rw [show ([] : List (S50)).length = 0 from (Kd.R_reads' HO_10.out).1.symm] <;> rfl) | rfl) ?_; (with_reducible refine (thresherref0_EqRecs.calls kj14 _ _ t450 _ _ ([] : List (S50)) t465 _ ?side1 ?side2 ?side3 ?side4 A34.out).mono ?_); (case side1 => repeat (first | exact (Kd.R_reads' HO_7.out).2.2 | (with_reducible refine Kd.C_alloc ?_ _) | (with_reducible refine Kd.C_drewN ?_ _) | (with_reducible refine Kd.C_drew ?_))); (case side2 => exact (Kd.R_reads' HO_7.out).2.1); (case side3 => repeat (first | exact (Kd.R_reads' HO_10.out).2.2 | (with_reducible refine Kd.C_alloc ?_ _) | (with_reducible refine Kd.C_drewN ?_ _) | (with_reducible refine Kd.C_drew ?_))); (case side4 => rw [show ([] : List (S50)).length = 0 from (Kd.R_reads' HO_10.out).1.symm]; exact (Kd.R_reads' HO_10.out).2.1); rintro e w' ⟨rfl, ⟨nd, rfl⟩⟩))
        go_ret
        exact ⟨by first | rfl | (simp [errW_none, errW_some] <;> rfl) | (simp [*, errW_none, errW_some] <;> rfl), by repeat (first | (with_reducible first | exact HB.out | apply below_alloc | apply pw_below_drewN | apply below_drew1 | refine below_set ?_ GE449.out) | exact HB.out)⟩
       ·
        rw [if_neg c33] at H
        have c33b0 : (t453 == 0) = false := beq_eq_false_iff_ne.mpr c33
        have c33b1 : (t453 != 0) = true := bne_iff_ne.mpr c33
        obtain rfl := Option.some.inj H
        go_wp2_with (first | ((with_reducible refine gate_callee (f := 26) rfl ?_); refine goesL_ (some 42) rfl rfl Try.func26 (by kernel_rfl) rfl #[.int .i64 t454] rfl (by (try simp only [List.map_toArray, List.map_cons, List.map_nil]); first | done | rfl | (simp only [List.length_drop, List.length_take]; rfl)) ?_; (with_reducible refine (thresherlaw8_num.calls t454 t464 _ A31.out).mono ?_); rintro e w' ⟨rfl, ⟨nd, rfl⟩⟩; refine ⟨_, rfl, ?_⟩))
        go_ret
        exact ⟨by first | rfl | (simp [errW_none, errW_some] <;> rfl) | (simp [*, errW_none, errW_some] <;> rfl), by repeat (first | (with_reducible first | exact HB.out | apply below_alloc | apply pw_below_drewN | apply below_drew1 | refine below_set ?_ GE449.out) | exact HB.out)⟩
      ·
       rw [if_neg c32] at H
       have c32b0 : (t464 == x12_14) = false := beq_eq_false_iff_ne.mpr c32
       have c32b1 : (t464 != x12_14) = true := bne_iff_ne.mpr c32
       obtain rfl := Option.some.inj H
       go_wp2_with (first | ((with_reducible refine gate_callee (f := 26) rfl ?_); refine goesL_ (some 42) rfl rfl Try.func26 (by kernel_rfl) rfl #[.int .i64 t454] rfl (by (try simp only [List.map_toArray, List.map_cons, List.map_nil]); first | done | rfl | (simp only [List.length_drop, List.length_take]; rfl)) ?_; (with_reducible refine (thresherlaw8_num.calls t454 t464 _ A31.out).mono ?_); rintro e w' ⟨rfl, ⟨nd, rfl⟩⟩; refine ⟨_, rfl, ?_⟩))
       go_ret
       exact ⟨by first | rfl | (simp [errW_none, errW_some] <;> rfl) | (simp [*, errW_none, errW_some] <;> rfl), by repeat (first | (with_reducible first | exact HB.out | apply below_alloc | apply pw_below_drewN | apply below_drew1 | refine below_set ?_ GE449.out) | exact HB.out)⟩

-- NOT PRINTED: function 5 (thresherlaw8_EvalRuns)

end Go.Proofs.Ytchgjkfnmifgkaa.QE
