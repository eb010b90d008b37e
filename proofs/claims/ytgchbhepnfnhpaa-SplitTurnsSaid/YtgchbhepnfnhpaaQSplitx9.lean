-- Printed for this claim by a turned copy of the kit's print (wip/patch_print.py): a text of this session.
import Derived.Test.YtgchbhepnfnhpaaQSplitx0
import Derived.Test.YtgchbhepnfnhpaaQSplitx1
import Derived.Test.YtgchbhepnfnhpaaQSplitx2
import Derived.Test.YtgchbhepnfnhpaaQSplitx4
import Derived.Test.YtgchbhepnfnhpaaQSplitx8
namespace Go.Proofs.Ytgchbhepnfnhpaa.QSplit
open Go.RowKit Go.Proofs.YtgchbhepnfnhpaaW.PrintWords Go.Proofs.YtgchbhepnfnhpaaW.PrintLast Go.Proofs.YtgchbhepnfnhpaaW.PrintMore
attribute [local go_sem] max2_int min2_int max_two min_two max_three min_three max_four min_four   -- for this text's walks alone
set_option linter.unusedVariables false
set_option linter.unusedSimpArgs false
theorem q1_9 {α : Type} (l : List α) (i : Nat) (a : α) : l.toArray.setIfInBounds i a = (l.set i a).toArray := List.setIfInBounds_toArray l i a
theorem q2_9 {α : Type} (a b : α) (l : List α) : (a :: l).set 0 b = b :: l := rfl
theorem q3_9 {α : Type} (a b : α) (l : List α) (n : Nat) : (a :: l).set (n + 1) b = a :: l.set n b := rfl


attribute [local go_sem high] eqA32
/-! ### thresherlaw12_SplitTurns: function 6 -/
mutual
def thresherlaw12_SplitTurns.j0 : Nat → Bool → Int → List (S61) → Int → Int → List Int → Option (Bool)
  | 0, _, _, _, _, _, _ => none
  | k + 1, x17, x242000, x242001, x242002, x242003, x242004 => if x17 = true then (some true) else (thresherlaw12_SplitTurns.l0 k 0 x242000 x242001 x242002 x242003 x242004)
def thresherlaw12_SplitTurns.l0 : Nat → Int → Int → List (S61) → Int → Int → List Int → Option (Bool)
  | 0, _, _, _, _, _, _ => none
  | k + 1, x3, x242000, x242001, x242002, x242003, x242004 => if x3 < (x242001.length : Int) then (if 0 ≤ x3 then (thresherlaw12_SplitTurns.l1 k x3 0 0 x242000 x242001 x242002 x242003 x242004 ((rd_T61 x242001 x3).f0) ((rd_T61 x242001 x3).f1) ((rd_T61 x242001 x3).f2)) else (none)) else ((thresherlaw12_wakes.f k).bind fun t244 => (some t244))
def thresherlaw12_SplitTurns.l1 : Nat → Int → Int → Int → Int → List (S61) → Int → Int → List Int → Int → ByteArray → List Int → Option (Bool)
  | 0, _, _, _, _, _, _, _, _, _, _, _ => none
  | k + 1, x3, x5, x6, x242000, x242001, x242002, x242003, x242004, x247000, x247001, x247002 => if x6 < 3 then (thresherlaw12_SplitTurns.l2 k x3 x5 x6 0 x242000 x242001 x242002 x242003 x242004 x247000 x247001 x247002) else (thresherlaw12_SplitTurns.l0 k (wrap64 (x3 + 1)) x242000 x242001 x242002 x242003 x242004)
def thresherlaw12_SplitTurns.l2 : Nat → Int → Int → Int → Int → Int → List (S61) → Int → Int → List Int → Int → ByteArray → List Int → Option (Bool)
  | 0, _, _, _, _, _, _, _, _, _, _, _, _ => none
  | k + 1, x3, x5, x6, x7, x242000, x242001, x242002, x242003, x242004, x247000, x247001, x247002 => if x7 < (x247002.length : Int) then ((split_Next.f k x242000 x242001 x242002 x242003 x247000 x5).bind fun bt247 => ((thresherlaw12_num.f bt247.2).bind fun t249 => (if t249 = 0 then (if 0 ≤ x7 then (if bt247.1 = (rd x247002 x7) then (thresherlaw12_SplitTurns.l2 k x3 bt247.1 x6 (wrap64 (x7 + 1)) x242000 x242001 x242002 x242003 x242004 x247000 x247001 x247002) else (some false)) else (none)) else (some false)))) else (thresherlaw12_SplitTurns.l1 k x3 x5 (wrap64 (x6 + 1)) x242000 x242001 x242002 x242003 x242004 x247000 x247001 x247002)
end
def thresherlaw12_SplitTurns.f (k : Nat) (a0_0 : Int) (l0_1 : List (S61)) (a0_2 : Int) (a0_3 : Int) (l0_4 : List Int) : Option (Bool) := (thresherlaw12_Heavy.f k a0_0 l0_1 a0_2 a0_3 l0_4).bind fun t242 => (if t242 = true then (thresherlaw12_SplitTurns.j0 k true a0_0 l0_1 a0_2 a0_3 l0_4) else ((thresherref11_Config.f k a0_0 l0_1 a0_2 a0_3).bind fun t243 => (thresherlaw12_SplitTurns.j0 k (!t243) a0_0 l0_1 a0_2 a0_3 l0_4)))
theorem thresherlaw12_SplitTurns.mono_l : ∀ k, (∀ y0 y1 y2 y3 y4 y5, LeO (thresherlaw12_SplitTurns.j0 k y0 y1 y2 y3 y4 y5) (thresherlaw12_SplitTurns.j0 (k + 1) y0 y1 y2 y3 y4 y5)) ∧ (∀ y0 y1 y2 y3 y4 y5, LeO (thresherlaw12_SplitTurns.l0 k y0 y1 y2 y3 y4 y5) (thresherlaw12_SplitTurns.l0 (k + 1) y0 y1 y2 y3 y4 y5)) ∧ (∀ y0 y1 y2 y3 y4 y5 y6 y7 y8 y9 y10, LeO (thresherlaw12_SplitTurns.l1 k y0 y1 y2 y3 y4 y5 y6 y7 y8 y9 y10) (thresherlaw12_SplitTurns.l1 (k + 1) y0 y1 y2 y3 y4 y5 y6 y7 y8 y9 y10)) ∧ (∀ y0 y1 y2 y3 y4 y5 y6 y7 y8 y9 y10 y11, LeO (thresherlaw12_SplitTurns.l2 k y0 y1 y2 y3 y4 y5 y6 y7 y8 y9 y10 y11) (thresherlaw12_SplitTurns.l2 (k + 1) y0 y1 y2 y3 y4 y5 y6 y7 y8 y9 y10 y11))
  | 0 => ⟨fun _ _ _ _ _ _ r h => by simp [thresherlaw12_SplitTurns.j0] at h, fun _ _ _ _ _ _ r h => by simp [thresherlaw12_SplitTurns.l0] at h, fun _ _ _ _ _ _ _ _ _ _ _ r h => by simp [thresherlaw12_SplitTurns.l1] at h, fun _ _ _ _ _ _ _ _ _ _ _ _ r h => by simp [thresherlaw12_SplitTurns.l2] at h⟩
  | k + 1 => by
    obtain ⟨ih0, ih1, ih2, ih3⟩ := thresherlaw12_SplitTurns.mono_l k
    refine ⟨?_, ?_, ?_, ?_⟩
    · intro y0 y1 y2 y3 y4 y5
      unfold thresherlaw12_SplitTurns.j0
      repeat' first
      | (with_reducible exact ih0 _ _ _ _ _ _)
      | (with_reducible exact ih1 _ _ _ _ _ _)
      | (with_reducible exact ih2 _ _ _ _ _ _ _ _ _ _ _)
      | (with_reducible exact ih3 _ _ _ _ _ _ _ _ _ _ _ _)
      | (with_reducible exact split_Next.mono _ _ _ _ _ _ _)
      | (with_reducible exact thresherlaw12_Heavy.mono _ _ _ _ _ _)
      | (with_reducible exact thresherlaw12_wakes.mono _)
      | (with_reducible exact thresherref11_Config.mono _ _ _ _ _)
      | (with_reducible exact LeO.refl _)
      | (with_reducible exact LeO.none _)
      | (with_reducible refine LeO.ite ?_ ?_)
      | (with_reducible refine LeO.bind ?_ (fun _ => ?_))
      | exact ih0 _ _ _ _ _ _
      | exact ih1 _ _ _ _ _ _
      | exact ih2 _ _ _ _ _ _ _ _ _ _ _
      | exact ih3 _ _ _ _ _ _ _ _ _ _ _ _
      | exact split_Next.mono _ _ _ _ _ _ _
      | exact thresherlaw12_Heavy.mono _ _ _ _ _ _
      | exact thresherlaw12_wakes.mono _
      | exact thresherref11_Config.mono _ _ _ _ _
      | exact LeO.none _
      | refine LeO.ite ?_ ?_
      | refine LeO.bind ?_ (fun _ => ?_)
    · intro y0 y1 y2 y3 y4 y5
      unfold thresherlaw12_SplitTurns.l0
      repeat' first
      | (with_reducible exact ih0 _ _ _ _ _ _)
      | (with_reducible exact ih1 _ _ _ _ _ _)
      | (with_reducible exact ih2 _ _ _ _ _ _ _ _ _ _ _)
      | (with_reducible exact ih3 _ _ _ _ _ _ _ _ _ _ _ _)
      | (with_reducible exact split_Next.mono _ _ _ _ _ _ _)
      | (with_reducible exact thresherlaw12_Heavy.mono _ _ _ _ _ _)
      | (with_reducible exact thresherlaw12_wakes.mono _)
      | (with_reducible exact thresherref11_Config.mono _ _ _ _ _)
      | (with_reducible exact LeO.refl _)
      | (with_reducible exact LeO.none _)
      | (with_reducible refine LeO.ite ?_ ?_)
      | (with_reducible refine LeO.bind ?_ (fun _ => ?_))
      | exact ih0 _ _ _ _ _ _
      | exact ih1 _ _ _ _ _ _
      | exact ih2 _ _ _ _ _ _ _ _ _ _ _
      | exact ih3 _ _ _ _ _ _ _ _ _ _ _ _
      | exact split_Next.mono _ _ _ _ _ _ _
      | exact thresherlaw12_Heavy.mono _ _ _ _ _ _
      | exact thresherlaw12_wakes.mono _
      | exact thresherref11_Config.mono _ _ _ _ _
      | exact LeO.none _
      | refine LeO.ite ?_ ?_
      | refine LeO.bind ?_ (fun _ => ?_)
    · intro y0 y1 y2 y3 y4 y5 y6 y7 y8 y9 y10
      unfold thresherlaw12_SplitTurns.l1
      repeat' first
      | (with_reducible exact ih0 _ _ _ _ _ _)
      | (with_reducible exact ih1 _ _ _ _ _ _)
      | (with_reducible exact ih2 _ _ _ _ _ _ _ _ _ _ _)
      | (with_reducible exact ih3 _ _ _ _ _ _ _ _ _ _ _ _)
      | (with_reducible exact split_Next.mono _ _ _ _ _ _ _)
      | (with_reducible exact thresherlaw12_Heavy.mono _ _ _ _ _ _)
      | (with_reducible exact thresherlaw12_wakes.mono _)
      | (with_reducible exact thresherref11_Config.mono _ _ _ _ _)
      | (with_reducible exact LeO.refl _)
      | (with_reducible exact LeO.none _)
      | (with_reducible refine LeO.ite ?_ ?_)
      | (with_reducible refine LeO.bind ?_ (fun _ => ?_))
      | exact ih0 _ _ _ _ _ _
      | exact ih1 _ _ _ _ _ _
      | exact ih2 _ _ _ _ _ _ _ _ _ _ _
      | exact ih3 _ _ _ _ _ _ _ _ _ _ _ _
      | exact split_Next.mono _ _ _ _ _ _ _
      | exact thresherlaw12_Heavy.mono _ _ _ _ _ _
      | exact thresherlaw12_wakes.mono _
      | exact thresherref11_Config.mono _ _ _ _ _
      | exact LeO.none _
      | refine LeO.ite ?_ ?_
      | refine LeO.bind ?_ (fun _ => ?_)
    · intro y0 y1 y2 y3 y4 y5 y6 y7 y8 y9 y10 y11
      unfold thresherlaw12_SplitTurns.l2
      repeat' first
      | (with_reducible exact ih0 _ _ _ _ _ _)
      | (with_reducible exact ih1 _ _ _ _ _ _)
      | (with_reducible exact ih2 _ _ _ _ _ _ _ _ _ _ _)
      | (with_reducible exact ih3 _ _ _ _ _ _ _ _ _ _ _ _)
      | (with_reducible exact split_Next.mono _ _ _ _ _ _ _)
      | (with_reducible exact thresherlaw12_Heavy.mono _ _ _ _ _ _)
      | (with_reducible exact thresherlaw12_wakes.mono _)
      | (with_reducible exact thresherref11_Config.mono _ _ _ _ _)
      | (with_reducible exact LeO.refl _)
      | (with_reducible exact LeO.none _)
      | (with_reducible refine LeO.ite ?_ ?_)
      | (with_reducible refine LeO.bind ?_ (fun _ => ?_))
      | exact ih0 _ _ _ _ _ _
      | exact ih1 _ _ _ _ _ _
      | exact ih2 _ _ _ _ _ _ _ _ _ _ _
      | exact ih3 _ _ _ _ _ _ _ _ _ _ _ _
      | exact split_Next.mono _ _ _ _ _ _ _
      | exact thresherlaw12_Heavy.mono _ _ _ _ _ _
      | exact thresherlaw12_wakes.mono _
      | exact thresherref11_Config.mono _ _ _ _ _
      | exact LeO.none _
      | refine LeO.ite ?_ ?_
      | refine LeO.bind ?_ (fun _ => ?_)
theorem thresherlaw12_SplitTurns.mono : ∀ a0 a1 a2 a3 a4 k, LeO (thresherlaw12_SplitTurns.f k a0 a1 a2 a3 a4) (thresherlaw12_SplitTurns.f (k + 1) a0 a1 a2 a3 a4) := by
  intro a0 a1 a2 a3 a4 k
  obtain ⟨ih0, ih1, ih2, ih3⟩ := thresherlaw12_SplitTurns.mono_l k
  unfold thresherlaw12_SplitTurns.f
  repeat' first
      | (with_reducible exact ih0 _ _ _ _ _ _)
      | (with_reducible exact ih1 _ _ _ _ _ _)
      | (with_reducible exact ih2 _ _ _ _ _ _ _ _ _ _ _)
      | (with_reducible exact ih3 _ _ _ _ _ _ _ _ _ _ _ _)
      | (with_reducible exact split_Next.mono _ _ _ _ _ _ _)
      | (with_reducible exact thresherlaw12_Heavy.mono _ _ _ _ _ _)
      | (with_reducible exact thresherlaw12_wakes.mono _)
      | (with_reducible exact thresherref11_Config.mono _ _ _ _ _)
      | (with_reducible exact LeO.refl _)
      | (with_reducible exact LeO.none _)
      | (with_reducible refine LeO.ite ?_ ?_)
      | (with_reducible refine LeO.bind ?_ (fun _ => ?_))
      | exact ih0 _ _ _ _ _ _
      | exact ih1 _ _ _ _ _ _
      | exact ih2 _ _ _ _ _ _ _ _ _ _ _
      | exact ih3 _ _ _ _ _ _ _ _ _ _ _ _
      | exact split_Next.mono _ _ _ _ _ _ _
      | exact thresherlaw12_Heavy.mono _ _ _ _ _ _
      | exact thresherlaw12_wakes.mono _
      | exact thresherref11_Config.mono _ _ _ _ _
      | exact LeO.none _
      | refine LeO.ite ?_ ?_
      | refine LeO.bind ?_ (fun _ => ?_)
set_option maxHeartbeats 8000000 in
set_option maxRecDepth 100000 in
theorem thresherlaw12_SplitTurns.calls (k : Nat) (a0_0 : Int) (A0_1 : Option Addr) (c0_1 : Nat) (l0_1 : List (S61)) (a0_2 : Int) (a0_3 : Int) (A0_4 : Option Addr) (c0_4 : Nat) (l0_4 : List Int) (r : Bool) (w : World) (hr0_1 : Kd.C k61 w A0_1 l0_1.length l0_1) (hc0_1 : l0_1.length ≤ c0_1) (hr0_4 : Kd.C (Kd.int .i64) w A0_4 l0_4.length l0_4) (hc0_4 : l0_4.length ≤ c0_4) (h : thresherlaw12_SplitTurns.f k a0_0 l0_1 a0_2 a0_3 l0_4 = some r) :
  Calls Try.prog 6 #[.agg #[.int .i64 a0_0, .slice A0_1 l0_1.length c0_1, .int .i64 a0_2, .int .i64 a0_3, .slice A0_4 l0_4.length c0_4]] w fun e w' => e = .returned (.bool r) ∧ Below w.heap.size w w' := by
 have hu57 := Try.underlying57
 have hu54 := Try.underlying54
 have hu61 := Try.underlying61
 have HR0_1 := Aside0.mk hr0_1
 have HC0_1 := Aside0.mk hc0_1
 clear hr0_1 hc0_1
 have HR0_4 := Aside0.mk hr0_4
 have HC0_4 := Aside0.mk hc0_4
 clear hr0_4 hc0_4
 have HB := Aside0.mk (Below.refl w.heap.size w)
 have H : ((thresherlaw12_Heavy.f k a0_0 l0_1 a0_2 a0_3 l0_4).bind fun t242 => (if t242 = true then (thresherlaw12_SplitTurns.j0 k true a0_0 l0_1 a0_2 a0_3 l0_4) else ((thresherref11_Config.f k a0_0 l0_1 a0_2 a0_3).bind fun t243 => (thresherlaw12_SplitTurns.j0 k (!t243) a0_0 l0_1 a0_2 a0_3 l0_4)))) = some r := h
 clear h; have HC2 := Aside0.mk H
 clear H; go_enter Try.func6, Try.ntmps6
 go_upto_region 1 with (first | ((with_reducible refine gate_dst (N := 1) rfl ?_); refine box_event ?hg (N := 1) ?hd (cs := #[.int .i64 a0_0, .slice A0_1 l0_1.length c0_1, .int .i64 a0_2, .int .i64 a0_3, .slice A0_4 l0_4.length c0_4]) (t := 57) ?hr ?_; (case hd => rfl); (case hg => rfl); (case hr => first | (go_simp; done) | (go_simp; rfl)); intro gb241 hg w3 hbox hb; have n0_ := Aside0.mk (below_step (by repeat (first | (with_reducible first | exact HB.out | apply below_alloc | apply pw_below_drewN | apply below_drew1) | exact HB.out)) hb); have n1_ := Aside0.mk (hbox); have n2_ := Aside0.mk ((by rw [hg]; exact (below_size (by repeat (first | (with_reducible first | exact HB.out | apply below_alloc | apply pw_below_drewN | apply below_drew1) | exact HB.out))) : w.heap.size ≤ gb241)); have n3_ := Aside0.mk ((by rw [hg]; exact (below_size (by repeat (first | (with_reducible first | exact HB.out | apply below_alloc | apply pw_below_drewN | apply below_drew1) | exact HB.out))) : w.heap.size ≤ gb241)); clear HB; have HB := n0_; have BK241 := n1_; have GW241 := n2_; have GE241 := n3_; clear n0_ n1_ n2_ n3_; clear hb hbox hg))
 (try simp only [Act.put, q1_9, q2_9, q3_9])
 go_cut [17] (fun v17 wc => ∃ (kq : Nat) (x17_1 : Bool), v17 = .bool x17_1 ∧ Aside0 (thresherlaw12_SplitTurns.j0 kq x17_1 a0_0 l0_1 a0_2 a0_3 l0_4 = some r) ∧ Aside0 (kq ≤ k) ∧ Aside0 (wc.heap[gb241]? = some (.cells #[.int .i64 a0_0, (.slice A0_1 l0_1.length c0_1), .int .i64 a0_2, .int .i64 a0_3, (.slice A0_4 l0_4.length c0_4)] 57 (0, 0))) ∧ Aside0 (Below w.heap.size w wc))
 case first =>
  have H := HC2.out
  clear HC2
  replace H := Option.bind_eq_some_iff.mp H
  obtain ⟨t242, A40, H⟩ := H
  replace H : (if t242 = true then (thresherlaw12_SplitTurns.j0 k true a0_0 l0_1 a0_2 a0_3 l0_4) else ((thresherref11_Config.f k a0_0 l0_1 a0_2 a0_3).bind fun t243 => (thresherlaw12_SplitTurns.j0 k (!t243) a0_0 l0_1 a0_2 a0_3 l0_4))) = some r := H
  have A4 := Aside0.mk A40
  clear A40
  by_cases c5 : t242 = true
  ·
   subst c5
   have H1 : (thresherlaw12_SplitTurns.j0 k true a0_0 l0_1 a0_2 a0_3 l0_4) = some r := by rw [if_pos rfl] at H; exact H
   clear H; have H := H1
   clear H1
   have H' := Aside0.mk H
   clear H; have hcz6_0 : w3.cell? ⟨gb241, 0, none⟩ = some (.int .i64 a0_0) := (blk_cell BK241.out 0).trans rfl
   have hcz6_1 : w3.cell? ⟨gb241, 1, none⟩ = some (.slice A0_1 l0_1.length c0_1) := (blk_cell BK241.out 1).trans rfl
   have hcz6_2 : w3.cell? ⟨gb241, 2, none⟩ = some (.int .i64 a0_2) := (blk_cell BK241.out 2).trans rfl
   have hcz6_3 : w3.cell? ⟨gb241, 3, none⟩ = some (.int .i64 a0_3) := (blk_cell BK241.out 3).trans rfl
   have hcz6_4 : w3.cell? ⟨gb241, 4, none⟩ = some (.slice A0_4 l0_4.length c0_4) := (blk_cell BK241.out 4).trans rfl
   have hfz6_0 := blk_frozen BK241.out 0
   have hfz6_1 := blk_frozen BK241.out 1
   have hfz6_2 := blk_frozen BK241.out 2
   have hfz6_3 := blk_frozen BK241.out 3
   have hfz6_4 := blk_frozen BK241.out 4
   go_wp2_with (first | ((with_reducible refine gate_callee (f := 23) rfl ?_); refine goesL_ (some 11) rfl rfl Try.func23 (by kernel_rfl) rfl #[.agg #[.int .i64 a0_0, .slice A0_1 l0_1.length c0_1, .int .i64 a0_2, .int .i64 a0_3, .slice A0_4 l0_4.length c0_4]] rfl (by (try simp only [List.map_toArray, List.map_cons, List.map_nil]); first | done | rfl | (simp only [List.length_drop, List.length_take]; rfl)) ?_; (with_reducible refine (thresherlaw12_Heavy.calls k a0_0 _ _ l0_1 a0_2 a0_3 _ _ l0_4 true _ ?side1 ?side2 ?side3 ?side4 A4.out).mono ?_); (case side1 => repeat (first | exact (Kd.C_below HR0_1.out HB.out) | (with_reducible refine Kd.C_alloc ?_ _) | (with_reducible refine Kd.C_drewN ?_ _) | (with_reducible refine Kd.C_drew ?_))); (case side2 => exact HC0_1.out); (case side3 => repeat (first | exact (Kd.C_below HR0_4.out HB.out) | (with_reducible refine Kd.C_alloc ?_ _) | (with_reducible refine Kd.C_drewN ?_ _) | (with_reducible refine Kd.C_drew ?_))); (case side4 => exact HC0_4.out); rintro e w7 ⟨rfl, hb⟩; refine ⟨_, rfl, ?_⟩; have n0_ := Aside0.mk (blk_below (g := gb241) (o := .cells #[.int .i64 a0_0, .slice A0_1 l0_1.length c0_1, .int .i64 a0_2, .int .i64 a0_3, .slice A0_4 l0_4.length c0_4] 57 (0, 0)) (by (with_reducible repeat (first | refine blk_drewN ?_ _ | refine blk_drew ?_ | refine blk_alloc ?_ _)); exact BK241.out) hb); have n1_ := Aside0.mk (below_step (by repeat (first | (with_reducible first | exact HB.out | apply below_alloc | apply pw_below_drewN | apply below_drew1 | refine below_set ?_ GE241.out) | exact HB.out)) hb); clear BK241; clear HB; have BK241 := n0_; have HB := n1_; clear n0_ n1_; (try clear hb); (try clear hb2); (try clear hk); (try clear hi)))
   go_meet
   case rel => exact ⟨_, (true), (by first | rfl | (simp; done) | (simp [*]; done)), H', ⟨by first | omega | exact Nat.le_refl _⟩, ⟨by (with_reducible repeat (first | refine blk_drewN ?_ _ | refine blk_drew ?_ | refine blk_alloc ?_ _)); exact BK241.out⟩, ⟨by repeat (first | (with_reducible first | exact HB.out | apply below_alloc | apply pw_below_drewN | apply below_drew1 | refine below_set ?_ GE241.out) | exact HB.out)⟩⟩
  ·
   replace c5 := Bool.eq_false_iff.mpr c5
   subst c5
   have H1 : ((thresherref11_Config.f k a0_0 l0_1 a0_2 a0_3).bind fun t243 => (thresherlaw12_SplitTurns.j0 k (!t243) a0_0 l0_1 a0_2 a0_3 l0_4)) = some r := by rw [if_neg (show ¬ (false = true) by decide)] at H; exact H
   clear H; have H := H1
   clear H1
   replace H := Option.bind_eq_some_iff.mp H
   obtain ⟨t243, A80, H⟩ := H
   replace H : (thresherlaw12_SplitTurns.j0 k (!t243) a0_0 l0_1 a0_2 a0_3 l0_4) = some r := H
   have A8 := Aside0.mk A80
   clear A80
   have H' := Aside0.mk H
   clear H; have hcz9_0 : w3.cell? ⟨gb241, 0, none⟩ = some (.int .i64 a0_0) := (blk_cell BK241.out 0).trans rfl
   have hcz9_1 : w3.cell? ⟨gb241, 1, none⟩ = some (.slice A0_1 l0_1.length c0_1) := (blk_cell BK241.out 1).trans rfl
   have hcz9_2 : w3.cell? ⟨gb241, 2, none⟩ = some (.int .i64 a0_2) := (blk_cell BK241.out 2).trans rfl
   have hcz9_3 : w3.cell? ⟨gb241, 3, none⟩ = some (.int .i64 a0_3) := (blk_cell BK241.out 3).trans rfl
   have hcz9_4 : w3.cell? ⟨gb241, 4, none⟩ = some (.slice A0_4 l0_4.length c0_4) := (blk_cell BK241.out 4).trans rfl
   have hfz9_0 := blk_frozen BK241.out 0
   have hfz9_1 := blk_frozen BK241.out 1
   have hfz9_2 := blk_frozen BK241.out 2
   have hfz9_3 := blk_frozen BK241.out 3
   have hfz9_4 := blk_frozen BK241.out 4
   go_wp2_with (first | ((with_reducible refine gate_callee (f := 23) rfl ?_); refine goesL_ (some 11) rfl rfl Try.func23 (by kernel_rfl) rfl #[.agg #[.int .i64 a0_0, .slice A0_1 l0_1.length c0_1, .int .i64 a0_2, .int .i64 a0_3, .slice A0_4 l0_4.length c0_4]] rfl (by (try simp only [List.map_toArray, List.map_cons, List.map_nil]); first | done | rfl | (simp only [List.length_drop, List.length_take]; rfl)) ?_; (with_reducible refine (thresherlaw12_Heavy.calls k a0_0 _ _ l0_1 a0_2 a0_3 _ _ l0_4 false _ ?side1 ?side2 ?side3 ?side4 A4.out).mono ?_); (case side1 => repeat (first | exact (Kd.C_below HR0_1.out HB.out) | (with_reducible refine Kd.C_alloc ?_ _) | (with_reducible refine Kd.C_drewN ?_ _) | (with_reducible refine Kd.C_drew ?_))); (case side2 => exact HC0_1.out); (case side3 => repeat (first | exact (Kd.C_below HR0_4.out HB.out) | (with_reducible refine Kd.C_alloc ?_ _) | (with_reducible refine Kd.C_drewN ?_ _) | (with_reducible refine Kd.C_drew ?_))); (case side4 => exact HC0_4.out); rintro e w10 ⟨rfl, hb⟩; refine ⟨_, rfl, ?_⟩; have n0_ := Aside0.mk (blk_below (g := gb241) (o := .cells #[.int .i64 a0_0, .slice A0_1 l0_1.length c0_1, .int .i64 a0_2, .int .i64 a0_3, .slice A0_4 l0_4.length c0_4] 57 (0, 0)) (by (with_reducible repeat (first | refine blk_drewN ?_ _ | refine blk_drew ?_ | refine blk_alloc ?_ _)); exact BK241.out) hb); have n1_ := Aside0.mk (below_step (by repeat (first | (with_reducible first | exact HB.out | apply below_alloc | apply pw_below_drewN | apply below_drew1 | refine below_set ?_ GE241.out) | exact HB.out)) hb); clear BK241; clear HB; have BK241 := n0_; have HB := n1_; clear n0_ n1_; (try clear hb); (try clear hb2); (try clear hk); (try clear hi); have hcz11_0 : w10.cell? ⟨gb241, 0, none⟩ = some (.int .i64 a0_0) := (blk_cell BK241.out 0).trans rfl; have hcz11_1 : w10.cell? ⟨gb241, 1, none⟩ = some (.slice A0_1 l0_1.length c0_1) := (blk_cell BK241.out 1).trans rfl; have hcz11_2 : w10.cell? ⟨gb241, 2, none⟩ = some (.int .i64 a0_2) := (blk_cell BK241.out 2).trans rfl; have hcz11_3 : w10.cell? ⟨gb241, 3, none⟩ = some (.int .i64 a0_3) := (blk_cell BK241.out 3).trans rfl; have hcz11_4 : w10.cell? ⟨gb241, 4, none⟩ = some (.slice A0_4 l0_4.length c0_4) := (blk_cell BK241.out 4).trans rfl; have hfz11_0 := blk_frozen BK241.out 0; have hfz11_1 := blk_frozen BK241.out 1; have hfz11_2 := blk_frozen BK241.out 2; have hfz11_3 := blk_frozen BK241.out 3; have hfz11_4 := blk_frozen BK241.out 4) | (go_at_call 24; (with_reducible refine (thresherref11_Config.calls k a0_0 _ _ l0_1 a0_2 a0_3 t243 _ ?side1 ?side2 A8.out).mono ?_); (case side1 => repeat (first | exact (Kd.C_below HR0_1.out HB.out) | (with_reducible refine Kd.C_alloc ?_ _) | (with_reducible refine Kd.C_drewN ?_ _) | (with_reducible refine Kd.C_drew ?_))); (case side2 => exact HC0_1.out); rintro e w12 ⟨rfl, hb⟩; have n0_ := Aside0.mk (blk_below (g := gb241) (o := .cells #[.int .i64 a0_0, .slice A0_1 l0_1.length c0_1, .int .i64 a0_2, .int .i64 a0_3, .slice A0_4 l0_4.length c0_4] 57 (0, 0)) (by (with_reducible repeat (first | refine blk_drewN ?_ _ | refine blk_drew ?_ | refine blk_alloc ?_ _)); exact BK241.out) hb); have n1_ := Aside0.mk (below_step (by repeat (first | (with_reducible first | exact HB.out | apply below_alloc | apply pw_below_drewN | apply below_drew1 | refine below_set ?_ GE241.out) | exact HB.out)) hb); clear BK241; clear HB; have BK241 := n0_; have HB := n1_; clear n0_ n1_; (try clear hb); (try clear hb2); (try clear hk); (try clear hi)))
   go_meet
   case rel => exact ⟨_, (!t243), (by first | rfl | (simp; done) | (simp [*]; done)), H', ⟨by first | omega | exact Nat.le_refl _⟩, ⟨by (with_reducible repeat (first | refine blk_drewN ?_ _ | refine blk_drew ?_ | refine blk_alloc ?_ _)); exact BK241.out⟩, ⟨by repeat (first | (with_reducible first | exact HB.out | apply below_alloc | apply pw_below_drewN | apply below_drew1 | refine below_set ?_ GE241.out) | exact HB.out)⟩⟩
 case rest =>
  clear HC2
  try clear c2
  try clear p2
  try clear c5
  try clear c6
  try clear hcz11_0
  try clear hcz11_1
  try clear hcz11_2
  try clear hcz11_3
  try clear hcz11_4
  try clear hcz6_0
  try clear hcz6_1
  try clear hcz6_2
  try clear hcz6_3
  try clear hcz6_4
  try clear hcz9_0
  try clear hcz9_1
  try clear hcz9_2
  try clear hcz9_3
  try clear hcz9_4
  try clear hfz11_0
  try clear hfz11_1
  try clear hfz11_2
  try clear hfz11_3
  try clear hfz11_4
  try clear hfz6_0
  try clear hfz6_1
  try clear hfz6_2
  try clear hfz6_3
  try clear hfz6_4
  try clear hfz9_0
  try clear hfz9_1
  try clear hfz9_2
  try clear hfz9_3
  try clear hfz9_4
  obtain ⟨kq, x17_1, rfl, HA, HJ1, BK241, HB⟩ := hcut
  cases kq with
  | zero => exact absurd HA.out (by simp [thresherlaw12_SplitTurns.j0])
  | succ kj1 =>
   have H := HA.out
   clear HA
   simp only [thresherlaw12_SplitTurns.j0] at H
   by_cases c13 : x17_1 = true
   ·
    subst c13
    have H1 : (some true) = some r := by rw [if_pos rfl] at H; exact H
    clear H; have H := H1
    clear H1
    obtain rfl := Option.some.inj H
    go_wp2
    go_ret
    exact ⟨by first | rfl | (simp [errW_none, errW_some] <;> rfl) | (simp [*, errW_none, errW_some] <;> rfl), by repeat (first | (with_reducible first | exact HB.out | apply below_alloc | apply pw_below_drewN | apply below_drew1 | refine below_set ?_ GE241.out) | exact HB.out)⟩
   ·
    replace c13 := Bool.eq_false_iff.mpr c13
    subst c13
    have H1 : (thresherlaw12_SplitTurns.l0 kj1 0 a0_0 l0_1 a0_2 a0_3 l0_4) = some r := by rw [if_neg (show ¬ (false = true) by decide)] at H; exact H
    clear H; have H := H1
    clear H1
    have H' := Aside0.mk H
    clear H; go_wp2
    go_loopg [3] kj1 (fun kq v3 w' => ∃ (x3_2 : Int), v3 = .int .i64 x3_2 ∧ Aside0 (thresherlaw12_SplitTurns.l0 kq x3_2 a0_0 l0_1 a0_2 a0_3 l0_4 = some r) ∧ Aside0 (kq ≤ kj1) ∧ Aside0 (w'.heap[gb241]? = some (.cells #[.int .i64 a0_0, (.slice A0_1 l0_1.length c0_1), .int .i64 a0_2, .int .i64 a0_3, (.slice A0_4 l0_4.length c0_4)] 57 (0, 0))) ∧ Aside0 (Below w.heap.size w w'))
    case atStart => exact ⟨(0), (by first | rfl | (simp; done) | (simp [*]; done)), H', ⟨Nat.le_refl _⟩, ⟨by (with_reducible repeat (first | refine blk_drewN ?_ _ | refine blk_drew ?_ | refine blk_alloc ?_ _)); exact BK241.out⟩, ⟨by repeat (first | (with_reducible first | exact HB.out | apply below_alloc | apply pw_below_drewN | apply below_drew1 | refine below_set ?_ GE241.out) | exact HB.out)⟩⟩
    case round =>
     clear H'
     try clear c1
     try clear c2
     try clear p2
     try clear c5
     try clear c6
     try clear c13
     try clear hcz11_0
     try clear hcz11_1
     try clear hcz11_2
     try clear hcz11_3
     try clear hcz11_4
     try clear hcz6_0
     try clear hcz6_1
     try clear hcz6_2
     try clear hcz6_3
     try clear hcz6_4
     try clear hcz9_0
     try clear hcz9_1
     try clear hcz9_2
     try clear hcz9_3
     try clear hcz9_4
     try clear hfz11_0
     try clear hfz11_1
     try clear hfz11_2
     try clear hfz11_3
     try clear hfz11_4
     try clear hfz6_0
     try clear hfz6_1
     try clear hfz6_2
     try clear hfz6_3
     try clear hfz6_4
     try clear hfz9_0
     try clear hfz9_1
     try clear hfz9_2
     try clear hfz9_3
     try clear hfz9_4
     try clear p2
     obtain ⟨x3_2, rfl, HA, HK2, BK241, HB⟩ := hrel
     cases gk with
     | zero => exact absurd HA.out (by simp [thresherlaw12_SplitTurns.l0])
     | succ k2 =>
      have H := HA.out
      clear HA
      simp only [thresherlaw12_SplitTurns.l0] at H
      by_cases c14 : x3_2 < (l0_1.length : Int)
      ·
       rw [if_pos c14] at H
       have c14b0 : decide (x3_2 < (l0_1.length : Int)) = true := decide_eq_true c14
       clear c14
       by_cases c15 : 0 ≤ x3_2
       ·
        rw [if_pos c15] at H
        have c15b0 : decide (0 ≤ x3_2) = true := decide_eq_true c15
        clear c15
        have H' := Aside0.mk H
        clear H; have hcz16_0 : wr.cell? ⟨gb241, 0, none⟩ = some (.int .i64 a0_0) := (blk_cell BK241.out 0).trans rfl
        have hcz16_1 : wr.cell? ⟨gb241, 1, none⟩ = some (.slice A0_1 l0_1.length c0_1) := (blk_cell BK241.out 1).trans rfl
        have hcz16_2 : wr.cell? ⟨gb241, 2, none⟩ = some (.int .i64 a0_2) := (blk_cell BK241.out 2).trans rfl
        have hcz16_3 : wr.cell? ⟨gb241, 3, none⟩ = some (.int .i64 a0_3) := (blk_cell BK241.out 3).trans rfl
        have hcz16_4 : wr.cell? ⟨gb241, 4, none⟩ = some (.slice A0_4 l0_4.length c0_4) := (blk_cell BK241.out 4).trans rfl
        have hfz16_0 := blk_frozen BK241.out 0
        have hfz16_1 := blk_frozen BK241.out 1
        have hfz16_2 := blk_frozen BK241.out 2
        have hfz16_3 := blk_frozen BK241.out 3
        have hfz16_4 := blk_frozen BK241.out 4
        have p245 : 0 ≤ (x3_2 : Int) := of_decide_eq_true (by first | (with_reducible assumption) | assumption)
        have q245 : x3_2 < (l0_1.length : Int) := of_decide_eq_true (by first | (with_reducible assumption) | assumption)
        obtain ⟨ad245, A245_2, c245_2, e245, hx245_0, hx245_1, hx245_2, hl245_2, hi245_2⟩ := at_T61 HR0_1.out x3_2 p245 q245
        cases e245
        replace hx245_0 := (HB.out.cell (World.block_lt_of_cell? w _ hx245_0)).trans hx245_0
        replace hx245_1 := (HB.out.cell (World.block_lt_of_cell? w _ hx245_1)).trans hx245_1
        replace hx245_2 := (HB.out.cell (World.block_lt_of_cell? w _ hx245_2)).trans hx245_2
        have HR245_2 := Aside0.mk hi245_2
        have HC245_2 := Aside0.mk hl245_2
        clear hi245_2 hl245_2
        replace p245 := eq_true p245
        replace q245 := eq_true q245
        go_wp2_with (first | ((with_reducible refine gate_dst (N := 4) rfl ?_); refine box_event ?hg (N := 4) ?hd (cs := #[.int .i64 0, .string (⟨#[]⟩ : ByteArray), .slice none 0 0]) (t := 61) ?hr ?_; (case hd => rfl); (case hg => rfl); (case hr => first | (go_simp; done) | (go_simp; rfl)); intro gb246 hg w17 hbox hb; have n0_ := Aside0.mk (blk_below (g := gb241) (o := .cells #[.int .i64 a0_0, .slice (some ad245) l0_1.length c0_1, .int .i64 a0_2, .int .i64 a0_3, .slice A0_4 l0_4.length c0_4] 57 (0, 0)) (by (with_reducible repeat (first | refine blk_drewN ?_ _ | refine blk_drew ?_ | refine blk_alloc ?_ _)); exact BK241.out) hb); have n1_ := Aside0.mk (below_step (by repeat (first | (with_reducible first | exact HB.out | apply below_alloc | apply pw_below_drewN | apply below_drew1 | refine below_set ?_ GE241.out) | exact HB.out)) hb); have n2_ := Aside0.mk (hbox); have n3_ := Aside0.mk ((by rw [hg]; exact (below_size (by repeat (first | (with_reducible first | exact HB.out | apply below_alloc | apply pw_below_drewN | apply below_drew1 | refine below_set ?_ GE241.out) | exact HB.out))) : w.heap.size ≤ gb246)); have n4_ := Aside0.mk ((by rw [hg]; exact (below_size (by repeat (first | (with_reducible first | exact HB.out | apply below_alloc | apply pw_below_drewN | apply below_drew1 | refine below_set ?_ GE241.out) | exact HB.out))) : w.heap.size ≤ gb246)); have n5_ := Aside0.mk ((by rw [hg]; exact Nat.ne_of_lt (blk_lt (g := gb241) (o := .cells #[.int .i64 a0_0, .slice (some ad245) l0_1.length c0_1, .int .i64 a0_2, .int .i64 a0_3, .slice A0_4 l0_4.length c0_4] 57 (0, 0)) (by (with_reducible repeat (first | refine blk_drewN ?_ _ | refine blk_drew ?_ | refine blk_alloc ?_ _)); exact BK241.out)) : gb241 ≠ gb246)); have n6_ := Aside0.mk ((by rw [hg]; exact Nat.ne_of_gt (blk_lt (g := gb241) (o := .cells #[.int .i64 a0_0, .slice (some ad245) l0_1.length c0_1, .int .i64 a0_2, .int .i64 a0_3, .slice A0_4 l0_4.length c0_4] 57 (0, 0)) (by (with_reducible repeat (first | refine blk_drewN ?_ _ | refine blk_drew ?_ | refine blk_alloc ?_ _)); exact BK241.out)) : gb246 ≠ gb241)); clear BK241; clear HB; have BK241 := n0_; have HB := n1_; have BK246 := n2_; have GW246 := n3_; have GE246 := n4_; have NB241_246 := n5_; have NB246_241 := n6_; clear n0_ n1_ n2_ n3_ n4_ n5_ n6_; clear hb hbox hg; have hnb18 := NB246_241.out; have hnc18 := NB241_246.out; have hcz19_0 : w17.cell? ⟨gb246, 0, none⟩ = some (.int .i64 0) := (blk_cell BK246.out 0).trans rfl; have hcz19_1 : w17.cell? ⟨gb246, 1, none⟩ = some (.string (⟨#[]⟩ : ByteArray)) := (blk_cell BK246.out 1).trans rfl; have hcz19_2 : w17.cell? ⟨gb246, 2, none⟩ = some (.slice none 0 0) := (blk_cell BK246.out 2).trans rfl; have hfz19_0 := blk_frozen BK246.out 0; have hfz19_1 := blk_frozen BK246.out 1; have hfz19_2 := blk_frozen BK246.out 2))
        go_loopg [5, 6] k2 (fun kq v5 v6 w' => ∃ (x5_3 : Int) (x6_3 : Int), v5 = .int .i64 x5_3 ∧ v6 = .int .i64 x6_3 ∧ Aside0 (thresherlaw12_SplitTurns.l1 kq x3_2 x5_3 x6_3 a0_0 l0_1 a0_2 a0_3 l0_4 ((rd_T61 l0_1 x3_2).f0) ((rd_T61 l0_1 x3_2).f1) ((rd_T61 l0_1 x3_2).f2) = some r) ∧ Aside0 (kq ≤ k2) ∧ Aside0 (w'.heap[gb241]? = some (.cells #[.int .i64 a0_0, (.slice (some ad245) l0_1.length c0_1), .int .i64 a0_2, .int .i64 a0_3, (.slice A0_4 l0_4.length c0_4)] 57 (0, 0))) ∧ Aside0 (w'.heap[gb246]? = some (.cells #[.int .i64 ((rd_T61 l0_1 x3_2).f0), .string ((rd_T61 l0_1 x3_2).f1), (.slice A245_2 ((rd_T61 l0_1 x3_2).f2).length c245_2)] 61 (0, 0))) ∧ Aside0 (Below w.heap.size w w'))
        case atStart => exact ⟨(0), (0), (by first | rfl | (simp; done) | (simp [*]; done)), (by first | rfl | (simp; done) | (simp [*]; done)), H', ⟨Nat.le_refl _⟩, ⟨by (with_reducible repeat (first | refine blk_drewN ?_ _ | refine blk_drew ?_ | refine blk_alloc ?_ _)); refine blk_far ?_ NB241_246.out _; (with_reducible repeat (first | refine blk_drewN ?_ _ | refine blk_drew ?_ | refine blk_alloc ?_ _)); refine blk_far ?_ NB241_246.out _; (with_reducible repeat (first | refine blk_drewN ?_ _ | refine blk_drew ?_ | refine blk_alloc ?_ _)); refine blk_far ?_ NB241_246.out _; (with_reducible repeat (first | refine blk_drewN ?_ _ | refine blk_drew ?_ | refine blk_alloc ?_ _)); exact BK241.out⟩, ⟨by (with_reducible repeat (first | refine blk_drewN ?_ _ | refine blk_drew ?_ | refine blk_alloc ?_ _)); refine blk_put (cs := #[.int .i64 ((rd_T61 l0_1 x3_2).f0), .string ((rd_T61 l0_1 x3_2).f1), .slice none 0 0]) ?_ 2 _ rfl; (with_reducible repeat (first | refine blk_drewN ?_ _ | refine blk_drew ?_ | refine blk_alloc ?_ _)); refine blk_put (cs := #[.int .i64 ((rd_T61 l0_1 x3_2).f0), .string (⟨#[]⟩ : ByteArray), .slice none 0 0]) ?_ 1 _ rfl; (with_reducible repeat (first | refine blk_drewN ?_ _ | refine blk_drew ?_ | refine blk_alloc ?_ _)); refine blk_put (cs := #[.int .i64 0, .string (⟨#[]⟩ : ByteArray), .slice none 0 0]) ?_ 0 _ rfl; (with_reducible repeat (first | refine blk_drewN ?_ _ | refine blk_drew ?_ | refine blk_alloc ?_ _)); exact BK246.out⟩, ⟨by repeat (first | (with_reducible first | exact HB.out | apply below_alloc | apply pw_below_drewN | apply below_drew1 | refine below_set ?_ GE241.out | refine below_set ?_ GE246.out) | exact HB.out)⟩⟩
        case round =>
         clear H'
         try clear c1
         try clear c2
         try clear p2
         try clear q2
         try clear hx2
         try clear c5
         try clear c6
         try clear c13
         try clear c14
         try clear c14b0
         try clear c15
         try clear c15b0
         try clear c18
         try clear hcz11_0
         try clear hcz11_1
         try clear hcz11_2
         try clear hcz11_3
         try clear hcz11_4
         try clear hcz16_0
         try clear hcz16_1
         try clear hcz16_2
         try clear hcz16_3
         try clear hcz16_4
         try clear hcz19_0
         try clear hcz19_1
         try clear hcz19_2
         try clear hcz6_0
         try clear hcz6_1
         try clear hcz6_2
         try clear hcz6_3
         try clear hcz6_4
         try clear hcz9_0
         try clear hcz9_1
         try clear hcz9_2
         try clear hcz9_3
         try clear hcz9_4
         try clear hfz11_0
         try clear hfz11_1
         try clear hfz11_2
         try clear hfz11_3
         try clear hfz11_4
         try clear hfz16_0
         try clear hfz16_1
         try clear hfz16_2
         try clear hfz16_3
         try clear hfz16_4
         try clear hfz19_0
         try clear hfz19_1
         try clear hfz19_2
         try clear hfz6_0
         try clear hfz6_1
         try clear hfz6_2
         try clear hfz6_3
         try clear hfz6_4
         try clear hfz9_0
         try clear hfz9_1
         try clear hfz9_2
         try clear hfz9_3
         try clear hfz9_4
         try clear hx245_0
         try clear hx245_1
         try clear hx245_2
         try clear p2
         try clear p245
         try clear q245
         obtain ⟨x5_3, x6_3, rfl, rfl, HA, HK3, BK241, BK246, HB⟩ := hrel
         cases gk with
         | zero => exact absurd HA.out (by simp [thresherlaw12_SplitTurns.l1])
         | succ k3 =>
          have H := HA.out
          clear HA
          simp only [thresherlaw12_SplitTurns.l1] at H
          by_cases c20 : x6_3 < 3
          ·
           rw [if_pos c20] at H
           have c20b0 : decide (x6_3 < 3) = true := decide_eq_true c20
           clear c20
           have H' := Aside0.mk H
           clear H; go_wp2
           go_loopg [5, 7] k3 (fun kq v5 v7 w' => ∃ (x5_4 : Int) (x7_4 : Int), v5 = .int .i64 x5_4 ∧ v7 = .int .i64 x7_4 ∧ Aside0 (thresherlaw12_SplitTurns.l2 kq x3_2 x5_4 x6_3 x7_4 a0_0 l0_1 a0_2 a0_3 l0_4 ((rd_T61 l0_1 x3_2).f0) ((rd_T61 l0_1 x3_2).f1) ((rd_T61 l0_1 x3_2).f2) = some r) ∧ Aside0 (kq ≤ k3) ∧ Aside0 (w'.heap[gb241]? = some (.cells #[.int .i64 a0_0, (.slice (some ad245) l0_1.length c0_1), .int .i64 a0_2, .int .i64 a0_3, (.slice A0_4 l0_4.length c0_4)] 57 (0, 0))) ∧ Aside0 (w'.heap[gb246]? = some (.cells #[.int .i64 ((rd_T61 l0_1 x3_2).f0), .string ((rd_T61 l0_1 x3_2).f1), (.slice A245_2 ((rd_T61 l0_1 x3_2).f2).length c245_2)] 61 (0, 0))) ∧ Aside0 (Below w.heap.size w w'))
           case atStart => exact ⟨(x5_3), (0), (by first | rfl | (simp; done) | (simp [*]; done)), (by first | rfl | (simp; done) | (simp [*]; done)), H', ⟨Nat.le_refl _⟩, ⟨by (with_reducible repeat (first | refine blk_drewN ?_ _ | refine blk_drew ?_ | refine blk_alloc ?_ _)); exact BK241.out⟩, ⟨by (with_reducible repeat (first | refine blk_drewN ?_ _ | refine blk_drew ?_ | refine blk_alloc ?_ _)); exact BK246.out⟩, ⟨by repeat (first | (with_reducible first | exact HB.out | apply below_alloc | apply pw_below_drewN | apply below_drew1 | refine below_set ?_ GE241.out | refine below_set ?_ GE246.out) | exact HB.out)⟩⟩
           case round =>
            clear H'
            try clear c1
            try clear c2
            try clear p2
            try clear q2
            try clear hx2
            try clear c5
            try clear c6
            try clear c13
            try clear c14
            try clear c14b0
            try clear c15
            try clear c15b0
            try clear c18
            try clear c20
            try clear c20b0
            try clear hcz11_0
            try clear hcz11_1
            try clear hcz11_2
            try clear hcz11_3
            try clear hcz11_4
            try clear hcz16_0
            try clear hcz16_1
            try clear hcz16_2
            try clear hcz16_3
            try clear hcz16_4
            try clear hcz19_0
            try clear hcz19_1
            try clear hcz19_2
            try clear hcz6_0
            try clear hcz6_1
            try clear hcz6_2
            try clear hcz6_3
            try clear hcz6_4
            try clear hcz9_0
            try clear hcz9_1
            try clear hcz9_2
            try clear hcz9_3
            try clear hcz9_4
            try clear hfz11_0
            try clear hfz11_1
            try clear hfz11_2
            try clear hfz11_3
            try clear hfz11_4
            try clear hfz16_0
            try clear hfz16_1
            try clear hfz16_2
            try clear hfz16_3
            try clear hfz16_4
            try clear hfz19_0
            try clear hfz19_1
            try clear hfz19_2
            try clear hfz6_0
            try clear hfz6_1
            try clear hfz6_2
            try clear hfz6_3
            try clear hfz6_4
            try clear hfz9_0
            try clear hfz9_1
            try clear hfz9_2
            try clear hfz9_3
            try clear hfz9_4
            try clear hx245_0
            try clear hx245_1
            try clear hx245_2
            try clear p2
            try clear p245
            try clear q2
            try clear q245
            obtain ⟨x5_4, x7_4, rfl, rfl, HA, HK4, BK241, BK246, HB⟩ := hrel
            cases gk with
            | zero => exact absurd HA.out (by simp [thresherlaw12_SplitTurns.l2])
            | succ k4 =>
             have H := HA.out
             clear HA
             simp only [thresherlaw12_SplitTurns.l2] at H
             by_cases c21 : x7_4 < (((rd_T61 l0_1 x3_2).f2).length : Int)
             ·
              rw [if_pos c21] at H
              have c21b0 : decide (x7_4 < (((rd_T61 l0_1 x3_2).f2).length : Int)) = true := decide_eq_true c21
              clear c21
              replace H := Option.bind_eq_some_iff.mp H
              obtain ⟨⟨t247, t248⟩, A220, H⟩ := H
              replace H : ((thresherlaw12_num.f t248).bind fun t249 => (if t249 = 0 then (if 0 ≤ x7_4 then (if t247 = (rd ((rd_T61 l0_1 x3_2).f2) x7_4) then (thresherlaw12_SplitTurns.l2 k4 x3_2 t247 x6_3 (wrap64 (x7_4 + 1)) a0_0 l0_1 a0_2 a0_3 l0_4 ((rd_T61 l0_1 x3_2).f0) ((rd_T61 l0_1 x3_2).f1) ((rd_T61 l0_1 x3_2).f2)) else (some false)) else (none)) else (some false))) = some r := H
              have A22 := Aside0.mk A220
              clear A220
              replace H := Option.bind_eq_some_iff.mp H
              obtain ⟨t249, A230, H⟩ := H
              replace H : (if t249 = 0 then (if 0 ≤ x7_4 then (if t247 = (rd ((rd_T61 l0_1 x3_2).f2) x7_4) then (thresherlaw12_SplitTurns.l2 k4 x3_2 t247 x6_3 (wrap64 (x7_4 + 1)) a0_0 l0_1 a0_2 a0_3 l0_4 ((rd_T61 l0_1 x3_2).f0) ((rd_T61 l0_1 x3_2).f1) ((rd_T61 l0_1 x3_2).f2)) else (some false)) else (none)) else (some false)) = some r := H
              have A23 := Aside0.mk A230
              clear A230
              by_cases c24 : t249 = 0
              ·
               rw [if_pos c24] at H
               have c24b0 : (t249 == 0) = true := beq_iff_eq.mpr c24
               have c24b1 : (t249 != 0) = false := bne_eq_false_iff_eq.mpr c24
               clear c24
               by_cases c25 : 0 ≤ x7_4
               ·
                rw [if_pos c25] at H
                have c25b0 : decide (0 ≤ x7_4) = true := decide_eq_true c25
                clear c25
                by_cases c26 : t247 = (rd ((rd_T61 l0_1 x3_2).f2) x7_4)
                ·
                 rw [if_pos c26] at H
                 have c26b0 : (t247 == (rd ((rd_T61 l0_1 x3_2).f2) x7_4)) = true := beq_iff_eq.mpr c26
                 have c26b1 : (t247 != (rd ((rd_T61 l0_1 x3_2).f2) x7_4)) = false := bne_eq_false_iff_eq.mpr c26
                 clear c26
                 have H' := Aside0.mk H
                 clear H; have hnb27 := NB246_241.out
                 have hnc27 := NB241_246.out
                 have hcz28_0 : wr.cell? ⟨gb246, 0, none⟩ = some (.int .i64 ((rd_T61 l0_1 x3_2).f0)) := (blk_cell BK246.out 0).trans rfl
                 have hcz28_1 : wr.cell? ⟨gb246, 1, none⟩ = some (.string ((rd_T61 l0_1 x3_2).f1)) := (blk_cell BK246.out 1).trans rfl
                 have hcz28_2 : wr.cell? ⟨gb246, 2, none⟩ = some (.slice A245_2 ((rd_T61 l0_1 x3_2).f2).length c245_2) := (blk_cell BK246.out 2).trans rfl
                 have hfz28_0 := blk_frozen BK246.out 0
                 have hfz28_1 := blk_frozen BK246.out 1
                 have hfz28_2 := blk_frozen BK246.out 2
                 have hcz29_0 : wr.cell? ⟨gb241, 0, none⟩ = some (.int .i64 a0_0) := (blk_cell BK241.out 0).trans rfl
                 have hcz29_1 : wr.cell? ⟨gb241, 1, none⟩ = some (.slice (some ad245) l0_1.length c0_1) := (blk_cell BK241.out 1).trans rfl
                 have hcz29_2 : wr.cell? ⟨gb241, 2, none⟩ = some (.int .i64 a0_2) := (blk_cell BK241.out 2).trans rfl
                 have hcz29_3 : wr.cell? ⟨gb241, 3, none⟩ = some (.int .i64 a0_3) := (blk_cell BK241.out 3).trans rfl
                 have hcz29_4 : wr.cell? ⟨gb241, 4, none⟩ = some (.slice A0_4 l0_4.length c0_4) := (blk_cell BK241.out 4).trans rfl
                 have hfz29_0 := blk_frozen BK241.out 0
                 have hfz29_1 := blk_frozen BK241.out 1
                 have hfz29_2 := blk_frozen BK241.out 2
                 have hfz29_3 := blk_frozen BK241.out 3
                 have hfz29_4 := blk_frozen BK241.out 4
                 go_wp2_with (first | ((with_reducible refine gate_callee (f := 25) rfl ?_); refine goesL_ (some 49) rfl rfl Try.func25 (by kernel_rfl) rfl #[.agg #[.int .i64 a0_0, .slice (some ad245) l0_1.length c0_1, .int .i64 a0_2, .int .i64 a0_3], .int .i64 ((rd_T61 l0_1 x3_2).f0), .int .i64 x5_4] rfl (by (try simp only [List.map_toArray, List.map_cons, List.map_nil]); first | done | rfl | (simp only [List.length_drop, List.length_take]; rfl)) ?_; (with_reducible refine (split_Next.calls k4 a0_0 _ _ l0_1 a0_2 a0_3 ((rd_T61 l0_1 x3_2).f0) x5_4 t247 t248 _ ?side1 ?side2 A22.out).mono ?_); (case side1 => repeat (first | exact (Kd.C_below HR0_1.out HB.out) | (with_reducible refine Kd.C_alloc ?_ _) | (with_reducible refine Kd.C_drewN ?_ _) | (with_reducible refine Kd.C_drew ?_))); (case side2 => exact HC0_1.out); rintro e w30 ⟨rfl, hb⟩; refine ⟨_, rfl, ?_⟩; have n0_ := Aside0.mk (blk_below (g := gb241) (o := .cells #[.int .i64 a0_0, .slice (some ad245) l0_1.length c0_1, .int .i64 a0_2, .int .i64 a0_3, .slice A0_4 l0_4.length c0_4] 57 (0, 0)) (by (with_reducible repeat (first | refine blk_drewN ?_ _ | refine blk_drew ?_ | refine blk_alloc ?_ _)); exact BK241.out) hb); have n1_ := Aside0.mk (blk_below (g := gb246) (o := .cells #[.int .i64 ((rd_T61 l0_1 x3_2).f0), .string ((rd_T61 l0_1 x3_2).f1), .slice A245_2 ((rd_T61 l0_1 x3_2).f2).length c245_2] 61 (0, 0)) (by (with_reducible repeat (first | refine blk_drewN ?_ _ | refine blk_drew ?_ | refine blk_alloc ?_ _)); exact BK246.out) hb); have n2_ := Aside0.mk (below_step (by repeat (first | (with_reducible first | exact HB.out | apply below_alloc | apply pw_below_drewN | apply below_drew1 | refine below_set ?_ GE241.out | refine below_set ?_ GE246.out) | exact HB.out)) hb); clear BK241; clear BK246; clear HB; have BK241 := n0_; have BK246 := n1_; have HB := n2_; clear n0_ n1_ n2_; (try clear hb); (try clear hb2); (try clear hk); (try clear hi)) | ((with_reducible refine gate_callee (f := 26) rfl ?_); refine goesL_ (some 53) rfl rfl Try.func26 (by kernel_rfl) rfl #[.int .i64 t248] rfl (by (try simp only [List.map_toArray, List.map_cons, List.map_nil]); first | done | rfl | (simp only [List.length_drop, List.length_take]; rfl)) ?_; (with_reducible refine (thresherlaw12_num.calls t248 t249 _ A23.out).mono ?_); rintro e w' ⟨rfl, ⟨nd, rfl⟩⟩; refine ⟨_, rfl, ?_⟩; have hcz31_0 : w30.cell? ⟨gb246, 0, none⟩ = some (.int .i64 ((rd_T61 l0_1 x3_2).f0)) := (blk_cell BK246.out 0).trans rfl; have hcz31_1 : w30.cell? ⟨gb246, 1, none⟩ = some (.string ((rd_T61 l0_1 x3_2).f1)) := (blk_cell BK246.out 1).trans rfl; have hcz31_2 : w30.cell? ⟨gb246, 2, none⟩ = some (.slice A245_2 ((rd_T61 l0_1 x3_2).f2).length c245_2) := (blk_cell BK246.out 2).trans rfl; have hfz31_0 := blk_frozen BK246.out 0; have hfz31_1 := blk_frozen BK246.out 1; have hfz31_2 := blk_frozen BK246.out 2; have p250 : 0 ≤ (x7_4 : Int) := of_decide_eq_true (by first | (with_reducible assumption) | assumption); have q250 : x7_4 < (((rd_T61 l0_1 x3_2).f2).length : Int) := of_decide_eq_true (by first | (with_reducible assumption) | assumption); obtain ⟨ad250, e250, hx250_0⟩ := Kd.at_int HR245_2.out x7_4 p250 q250; cases e250; replace hx250_0 := (HB.out.cell (World.block_lt_of_cell? w _ hx250_0)).trans hx250_0; replace p250 := eq_true p250; replace q250 := eq_true q250))
                 go_roundg k4
                 case measure => have := HJ1.out; have := HK2.out; have := HK3.out; have := HK4.out; omega
                 case rel => exact ⟨(t247), (wrap64 (x7_4 + 1)), (by first | rfl | (simp; done) | (simp [*]; done)), (by first | rfl | (simp; done) | (simp [*]; done)), H', ⟨by have := HJ1.out; have := HK2.out; have := HK3.out; have := HK4.out; omega⟩, ⟨by (with_reducible repeat (first | refine blk_drewN ?_ _ | refine blk_drew ?_ | refine blk_alloc ?_ _)); exact BK241.out⟩, ⟨by (with_reducible repeat (first | refine blk_drewN ?_ _ | refine blk_drew ?_ | refine blk_alloc ?_ _)); exact BK246.out⟩, ⟨by repeat (first | (with_reducible first | exact HB.out | apply below_alloc | apply pw_below_drewN | apply below_drew1 | refine below_set ?_ GE241.out | refine below_set ?_ GE246.out) | exact HB.out)⟩⟩
                ·
                 rw [if_neg c26] at H
                 have c26b0 : (t247 == (rd ((rd_T61 l0_1 x3_2).f2) x7_4)) = false := beq_eq_false_iff_ne.mpr c26
                 have c26b1 : (t247 != (rd ((rd_T61 l0_1 x3_2).f2) x7_4)) = true := bne_iff_ne.mpr c26
                 obtain rfl := Option.some.inj H
                 have hnb32 := NB246_241.out
                 have hnc32 := NB241_246.out
                 have hcz33_0 : wr.cell? ⟨gb246, 0, none⟩ = some (.int .i64 ((rd_T61 l0_1 x3_2).f0)) := (blk_cell BK246.out 0).trans rfl
                 have hcz33_1 : wr.cell? ⟨gb246, 1, none⟩ = some (.string ((rd_T61 l0_1 x3_2).f1)) := (blk_cell BK246.out 1).trans rfl
                 have hcz33_2 : wr.cell? ⟨gb246, 2, none⟩ = some (.slice A245_2 ((rd_T61 l0_1 x3_2).f2).length c245_2) := (blk_cell BK246.out 2).trans rfl
                 have hfz33_0 := blk_frozen BK246.out 0
                 have hfz33_1 := blk_frozen BK246.out 1
                 have hfz33_2 := blk_frozen BK246.out 2
                 have hcz34_0 : wr.cell? ⟨gb241, 0, none⟩ = some (.int .i64 a0_0) := (blk_cell BK241.out 0).trans rfl
                 have hcz34_1 : wr.cell? ⟨gb241, 1, none⟩ = some (.slice (some ad245) l0_1.length c0_1) := (blk_cell BK241.out 1).trans rfl
                 have hcz34_2 : wr.cell? ⟨gb241, 2, none⟩ = some (.int .i64 a0_2) := (blk_cell BK241.out 2).trans rfl
                 have hcz34_3 : wr.cell? ⟨gb241, 3, none⟩ = some (.int .i64 a0_3) := (blk_cell BK241.out 3).trans rfl
                 have hcz34_4 : wr.cell? ⟨gb241, 4, none⟩ = some (.slice A0_4 l0_4.length c0_4) := (blk_cell BK241.out 4).trans rfl
                 have hfz34_0 := blk_frozen BK241.out 0
                 have hfz34_1 := blk_frozen BK241.out 1
                 have hfz34_2 := blk_frozen BK241.out 2
                 have hfz34_3 := blk_frozen BK241.out 3
                 have hfz34_4 := blk_frozen BK241.out 4
                 go_wp2_with (first | ((with_reducible refine gate_callee (f := 25) rfl ?_); refine goesL_ (some 49) rfl rfl Try.func25 (by kernel_rfl) rfl #[.agg #[.int .i64 a0_0, .slice (some ad245) l0_1.length c0_1, .int .i64 a0_2, .int .i64 a0_3], .int .i64 ((rd_T61 l0_1 x3_2).f0), .int .i64 x5_4] rfl (by (try simp only [List.map_toArray, List.map_cons, List.map_nil]); first | done | rfl | (simp only [List.length_drop, List.length_take]; rfl)) ?_; (with_reducible refine (split_Next.calls k4 a0_0 _ _ l0_1 a0_2 a0_3 ((rd_T61 l0_1 x3_2).f0) x5_4 t247 t248 _ ?side1 ?side2 A22.out).mono ?_); (case side1 => repeat (first | exact (Kd.C_below HR0_1.out HB.out) | (with_reducible refine Kd.C_alloc ?_ _) | (with_reducible refine Kd.C_drewN ?_ _) | (with_reducible refine Kd.C_drew ?_))); (case side2 => exact HC0_1.out); rintro e w35 ⟨rfl, hb⟩; refine ⟨_, rfl, ?_⟩; have n0_ := Aside0.mk (blk_below (g := gb241) (o := .cells #[.int .i64 a0_0, .slice (some ad245) l0_1.length c0_1, .int .i64 a0_2, .int .i64 a0_3, .slice A0_4 l0_4.length c0_4] 57 (0, 0)) (by (with_reducible repeat (first | refine blk_drewN ?_ _ | refine blk_drew ?_ | refine blk_alloc ?_ _)); exact BK241.out) hb); have n1_ := Aside0.mk (blk_below (g := gb246) (o := .cells #[.int .i64 ((rd_T61 l0_1 x3_2).f0), .string ((rd_T61 l0_1 x3_2).f1), .slice A245_2 ((rd_T61 l0_1 x3_2).f2).length c245_2] 61 (0, 0)) (by (with_reducible repeat (first | refine blk_drewN ?_ _ | refine blk_drew ?_ | refine blk_alloc ?_ _)); exact BK246.out) hb); have n2_ := Aside0.mk (below_step (by repeat (first | (with_reducible first | exact HB.out | apply below_alloc | apply pw_below_drewN | apply below_drew1 | refine below_set ?_ GE241.out | refine below_set ?_ GE246.out) | exact HB.out)) hb); clear BK241; clear BK246; clear HB; have BK241 := n0_; have BK246 := n1_; have HB := n2_; clear n0_ n1_ n2_; (try clear hb); (try clear hb2); (try clear hk); (try clear hi)) | ((with_reducible refine gate_callee (f := 26) rfl ?_); refine goesL_ (some 53) rfl rfl Try.func26 (by kernel_rfl) rfl #[.int .i64 t248] rfl (by (try simp only [List.map_toArray, List.map_cons, List.map_nil]); first | done | rfl | (simp only [List.length_drop, List.length_take]; rfl)) ?_; (with_reducible refine (thresherlaw12_num.calls t248 t249 _ A23.out).mono ?_); rintro e w' ⟨rfl, ⟨nd, rfl⟩⟩; refine ⟨_, rfl, ?_⟩; have hcz36_0 : w35.cell? ⟨gb246, 0, none⟩ = some (.int .i64 ((rd_T61 l0_1 x3_2).f0)) := (blk_cell BK246.out 0).trans rfl; have hcz36_1 : w35.cell? ⟨gb246, 1, none⟩ = some (.string ((rd_T61 l0_1 x3_2).f1)) := (blk_cell BK246.out 1).trans rfl; have hcz36_2 : w35.cell? ⟨gb246, 2, none⟩ = some (.slice A245_2 ((rd_T61 l0_1 x3_2).f2).length c245_2) := (blk_cell BK246.out 2).trans rfl; have hfz36_0 := blk_frozen BK246.out 0; have hfz36_1 := blk_frozen BK246.out 1; have hfz36_2 := blk_frozen BK246.out 2; have p250 : 0 ≤ (x7_4 : Int) := of_decide_eq_true (by first | (with_reducible assumption) | assumption); have q250 : x7_4 < (((rd_T61 l0_1 x3_2).f2).length : Int) := of_decide_eq_true (by first | (with_reducible assumption) | assumption); obtain ⟨ad250, e250, hx250_0⟩ := Kd.at_int HR245_2.out x7_4 p250 q250; cases e250; replace hx250_0 := (HB.out.cell (World.block_lt_of_cell? w _ hx250_0)).trans hx250_0; replace p250 := eq_true p250; replace q250 := eq_true q250))
                 go_ret
                 exact ⟨by first | rfl | (simp [errW_none, errW_some] <;> rfl) | (simp [*, errW_none, errW_some] <;> rfl), by repeat (first | (with_reducible first | exact HB.out | apply below_alloc | apply pw_below_drewN | apply below_drew1 | refine below_set ?_ GE241.out | refine below_set ?_ GE246.out) | exact HB.out)⟩
               ·
                rw [if_neg c25] at H
                exact absurd H (by simp)
              ·
               rw [if_neg c24] at H
               have c24b0 : (t249 == 0) = false := beq_eq_false_iff_ne.mpr c24
               have c24b1 : (t249 != 0) = true := bne_iff_ne.mpr c24
               obtain rfl := Option.some.inj H
               have hnb37 := NB246_241.out
               have hnc37 := NB241_246.out
               have hcz38_0 : wr.cell? ⟨gb246, 0, none⟩ = some (.int .i64 ((rd_T61 l0_1 x3_2).f0)) := (blk_cell BK246.out 0).trans rfl
               have hcz38_1 : wr.cell? ⟨gb246, 1, none⟩ = some (.string ((rd_T61 l0_1 x3_2).f1)) := (blk_cell BK246.out 1).trans rfl
               have hcz38_2 : wr.cell? ⟨gb246, 2, none⟩ = some (.slice A245_2 ((rd_T61 l0_1 x3_2).f2).length c245_2) := (blk_cell BK246.out 2).trans rfl
               have hfz38_0 := blk_frozen BK246.out 0
               have hfz38_1 := blk_frozen BK246.out 1
               have hfz38_2 := blk_frozen BK246.out 2
               have hcz39_0 : wr.cell? ⟨gb241, 0, none⟩ = some (.int .i64 a0_0) := (blk_cell BK241.out 0).trans rfl
               have hcz39_1 : wr.cell? ⟨gb241, 1, none⟩ = some (.slice (some ad245) l0_1.length c0_1) := (blk_cell BK241.out 1).trans rfl
               have hcz39_2 : wr.cell? ⟨gb241, 2, none⟩ = some (.int .i64 a0_2) := (blk_cell BK241.out 2).trans rfl
               have hcz39_3 : wr.cell? ⟨gb241, 3, none⟩ = some (.int .i64 a0_3) := (blk_cell BK241.out 3).trans rfl
               have hcz39_4 : wr.cell? ⟨gb241, 4, none⟩ = some (.slice A0_4 l0_4.length c0_4) := (blk_cell BK241.out 4).trans rfl
               have hfz39_0 := blk_frozen BK241.out 0
               have hfz39_1 := blk_frozen BK241.out 1
               have hfz39_2 := blk_frozen BK241.out 2
               have hfz39_3 := blk_frozen BK241.out 3
               have hfz39_4 := blk_frozen BK241.out 4
               go_wp2_with (first | ((with_reducible refine gate_callee (f := 25) rfl ?_); refine goesL_ (some 49) rfl rfl Try.func25 (by kernel_rfl) rfl #[.agg #[.int .i64 a0_0, .slice (some ad245) l0_1.length c0_1, .int .i64 a0_2, .int .i64 a0_3], .int .i64 ((rd_T61 l0_1 x3_2).f0), .int .i64 x5_4] rfl (by (try simp only [List.map_toArray, List.map_cons, List.map_nil]); first | done | rfl | (simp only [List.length_drop, List.length_take]; rfl)) ?_; (with_reducible refine (split_Next.calls k4 a0_0 _ _ l0_1 a0_2 a0_3 ((rd_T61 l0_1 x3_2).f0) x5_4 t247 t248 _ ?side1 ?side2 A22.out).mono ?_); (case side1 => repeat (first | exact (Kd.C_below HR0_1.out HB.out) | (with_reducible refine Kd.C_alloc ?_ _) | (with_reducible refine Kd.C_drewN ?_ _) | (with_reducible refine Kd.C_drew ?_))); (case side2 => exact HC0_1.out); rintro e w40 ⟨rfl, hb⟩; refine ⟨_, rfl, ?_⟩; have n0_ := Aside0.mk (blk_below (g := gb241) (o := .cells #[.int .i64 a0_0, .slice (some ad245) l0_1.length c0_1, .int .i64 a0_2, .int .i64 a0_3, .slice A0_4 l0_4.length c0_4] 57 (0, 0)) (by (with_reducible repeat (first | refine blk_drewN ?_ _ | refine blk_drew ?_ | refine blk_alloc ?_ _)); exact BK241.out) hb); have n1_ := Aside0.mk (blk_below (g := gb246) (o := .cells #[.int .i64 ((rd_T61 l0_1 x3_2).f0), .string ((rd_T61 l0_1 x3_2).f1), .slice A245_2 ((rd_T61 l0_1 x3_2).f2).length c245_2] 61 (0, 0)) (by (with_reducible repeat (first | refine blk_drewN ?_ _ | refine blk_drew ?_ | refine blk_alloc ?_ _)); exact BK246.out) hb); have n2_ := Aside0.mk (below_step (by repeat (first | (with_reducible first | exact HB.out | apply below_alloc | apply pw_below_drewN | apply below_drew1 | refine below_set ?_ GE241.out | refine below_set ?_ GE246.out) | exact HB.out)) hb); clear BK241; clear BK246; clear HB; have BK241 := n0_; have BK246 := n1_; have HB := n2_; clear n0_ n1_ n2_; (try clear hb); (try clear hb2); (try clear hk); (try clear hi)) | ((with_reducible refine gate_callee (f := 26) rfl ?_); refine goesL_ (some 53) rfl rfl Try.func26 (by kernel_rfl) rfl #[.int .i64 t248] rfl (by (try simp only [List.map_toArray, List.map_cons, List.map_nil]); first | done | rfl | (simp only [List.length_drop, List.length_take]; rfl)) ?_; (with_reducible refine (thresherlaw12_num.calls t248 t249 _ A23.out).mono ?_); rintro e w' ⟨rfl, ⟨nd, rfl⟩⟩; refine ⟨_, rfl, ?_⟩))
               go_ret
               exact ⟨by first | rfl | (simp [errW_none, errW_some] <;> rfl) | (simp [*, errW_none, errW_some] <;> rfl), by repeat (first | (with_reducible first | exact HB.out | apply below_alloc | apply pw_below_drewN | apply below_drew1 | refine below_set ?_ GE241.out | refine below_set ?_ GE246.out) | exact HB.out)⟩
             ·
              rw [if_neg c21] at H
              have c21b0 : decide (x7_4 < (((rd_T61 l0_1 x3_2).f2).length : Int)) = false := decide_eq_false c21
              clear c21
              have H' := Aside0.mk H
              clear H; have hnb41 := NB246_241.out
              have hnc41 := NB241_246.out
              have hcz42_0 : wr.cell? ⟨gb246, 0, none⟩ = some (.int .i64 ((rd_T61 l0_1 x3_2).f0)) := (blk_cell BK246.out 0).trans rfl
              have hcz42_1 : wr.cell? ⟨gb246, 1, none⟩ = some (.string ((rd_T61 l0_1 x3_2).f1)) := (blk_cell BK246.out 1).trans rfl
              have hcz42_2 : wr.cell? ⟨gb246, 2, none⟩ = some (.slice A245_2 ((rd_T61 l0_1 x3_2).f2).length c245_2) := (blk_cell BK246.out 2).trans rfl
              have hfz42_0 := blk_frozen BK246.out 0
              have hfz42_1 := blk_frozen BK246.out 1
              have hfz42_2 := blk_frozen BK246.out 2
              go_wp2
              go_roundg k4
              case measure => have := HJ1.out; have := HK2.out; have := HK3.out; have := HK4.out; omega
              case rel => exact ⟨(x5_4), (wrap64 (x6_3 + 1)), (by first | rfl | (simp; done) | (simp [*]; done)), (by first | rfl | (simp; done) | (simp [*]; done)), H', ⟨by have := HJ1.out; have := HK2.out; have := HK3.out; have := HK4.out; omega⟩, ⟨by (with_reducible repeat (first | refine blk_drewN ?_ _ | refine blk_drew ?_ | refine blk_alloc ?_ _)); exact BK241.out⟩, ⟨by (with_reducible repeat (first | refine blk_drewN ?_ _ | refine blk_drew ?_ | refine blk_alloc ?_ _)); exact BK246.out⟩, ⟨by repeat (first | (with_reducible first | exact HB.out | apply below_alloc | apply pw_below_drewN | apply below_drew1 | refine below_set ?_ GE241.out | refine below_set ?_ GE246.out) | exact HB.out)⟩⟩
          ·
           rw [if_neg c20] at H
           have c20b0 : decide (x6_3 < 3) = false := decide_eq_false c20
           clear c20
           have H' := Aside0.mk H
           clear H; go_wp2
           go_roundg k3
           case measure => have := HJ1.out; have := HK2.out; have := HK3.out; omega
           case rel => exact ⟨(wrap64 (x3_2 + 1)), (by first | rfl | (simp; done) | (simp [*]; done)), H', ⟨by have := HJ1.out; have := HK2.out; have := HK3.out; omega⟩, ⟨by (with_reducible repeat (first | refine blk_drewN ?_ _ | refine blk_drew ?_ | refine blk_alloc ?_ _)); exact BK241.out⟩, ⟨by repeat (first | (with_reducible first | exact HB.out | apply below_alloc | apply pw_below_drewN | apply below_drew1 | refine below_set ?_ GE241.out | refine below_set ?_ GE246.out) | exact HB.out)⟩⟩
       ·
        rw [if_neg c15] at H
        exact absurd H (by simp)
      ·
       rw [if_neg c14] at H
       have c14b0 : decide (x3_2 < (l0_1.length : Int)) = false := decide_eq_false c14
       clear c14
       replace H := Option.bind_eq_some_iff.mp H
       obtain ⟨t244, A430, H⟩ := H
       replace H : (some t244) = some r := H
       have A43 := Aside0.mk A430
       clear A430
       obtain rfl := Option.some.inj H
       have hcz44_0 : wr.cell? ⟨gb241, 0, none⟩ = some (.int .i64 a0_0) := (blk_cell BK241.out 0).trans rfl
       have hcz44_1 : wr.cell? ⟨gb241, 1, none⟩ = some (.slice A0_1 l0_1.length c0_1) := (blk_cell BK241.out 1).trans rfl
       have hcz44_2 : wr.cell? ⟨gb241, 2, none⟩ = some (.int .i64 a0_2) := (blk_cell BK241.out 2).trans rfl
       have hcz44_3 : wr.cell? ⟨gb241, 3, none⟩ = some (.int .i64 a0_3) := (blk_cell BK241.out 3).trans rfl
       have hcz44_4 : wr.cell? ⟨gb241, 4, none⟩ = some (.slice A0_4 l0_4.length c0_4) := (blk_cell BK241.out 4).trans rfl
       have hfz44_0 := blk_frozen BK241.out 0
       have hfz44_1 := blk_frozen BK241.out 1
       have hfz44_2 := blk_frozen BK241.out 2
       have hfz44_3 := blk_frozen BK241.out 3
       have hfz44_4 := blk_frozen BK241.out 4
       go_wp2_with (first | ((with_reducible refine gate_callee (f := 27) rfl ?_); refine goesL_ (some 65) rfl rfl Try.func27 (by kernel_rfl) rfl #[] rfl (by (try simp only [List.map_toArray, List.map_cons, List.map_nil]); first | done | rfl | (simp only [List.length_drop, List.length_take]; rfl)) ?_; (with_reducible refine (thresherlaw12_wakes.calls k2  t244 _ A43.out).mono ?_); rintro e w45 ⟨rfl, hb⟩; refine ⟨_, rfl, ?_⟩; have n0_ := Aside0.mk (blk_below (g := gb241) (o := .cells #[.int .i64 a0_0, .slice A0_1 l0_1.length c0_1, .int .i64 a0_2, .int .i64 a0_3, .slice A0_4 l0_4.length c0_4] 57 (0, 0)) (by (with_reducible repeat (first | refine blk_drewN ?_ _ | refine blk_drew ?_ | refine blk_alloc ?_ _)); exact BK241.out) hb); have n1_ := Aside0.mk (below_step (by repeat (first | (with_reducible first | exact HB.out | apply below_alloc | apply pw_below_drewN | apply below_drew1 | refine below_set ?_ GE241.out) | exact HB.out)) hb); clear BK241; clear HB; have BK241 := n0_; have HB := n1_; clear n0_ n1_; (try clear hb); (try clear hb2); (try clear hk); (try clear hi)))
       go_ret
       exact ⟨by first | rfl | (simp [errW_none, errW_some] <;> rfl) | (simp [*, errW_none, errW_some] <;> rfl), by repeat (first | (with_reducible first | exact HB.out | apply below_alloc | apply pw_below_drewN | apply below_drew1 | refine below_set ?_ GE241.out) | exact HB.out)⟩

/-! ### thresherref0_EqRecs: function 21 -/
def thresherref0_EqRecs.l0 : Nat → List (S32) → List (S32) → Int → Option (Bool)
 | 0, _, _, _ => none
 | k + 1, x0, x1, x5 => if x5 < (x0.length : Int) then (if 0 ≤ x5 then (if x5 < (x1.length : Int) then (if ((!(((rd_T32 x0 x5).f0.f0) == ((rd_T32 x1 x5).f0.f0)) || (!((((rd_T32 x0 x5).f0.f1).toList) == (((rd_T32 x1 x5).f0.f1).toList)))) || (!(((rd_T32 x0 x5).f1) == ((rd_T32 x1 x5).f1)))) = true then (some false) else (thresherref0_EqRecs.l0 k x0 x1 (wrap64 (x5 + 1)))) else (none)) else (none)) else (some true)
def thresherref0_EqRecs.f (k : Nat) (l0 : List (S32)) (l1 : List (S32)) : Option (Bool) := if (l0.length : Int) = (l1.length : Int) then (thresherref0_EqRecs.l0 k l0 l1 0) else (some false)
theorem thresherref0_EqRecs.mono_l : ∀ k, (∀ y0 y1 y2, LeO (thresherref0_EqRecs.l0 k y0 y1 y2) (thresherref0_EqRecs.l0 (k + 1) y0 y1 y2))
 | 0 => fun _ _ _ r h => by simp [thresherref0_EqRecs.l0] at h
 | k + 1 => by
  have ih0 := thresherref0_EqRecs.mono_l k
  ·
   intro y0 y1 y2
   unfold thresherref0_EqRecs.l0
   repeat' first
   | (with_reducible exact ih0 _ _ _)
   | (with_reducible exact LeO.refl _)
   | (with_reducible exact LeO.none _)
   | (with_reducible refine LeO.ite ?_ ?_)
   | (with_reducible refine LeO.bind ?_ (fun _ => ?_))
   | exact ih0 _ _ _
   | exact LeO.none _
   | refine LeO.ite ?_ ?_
   | refine LeO.bind ?_ (fun _ => ?_)
theorem thresherref0_EqRecs.mono : ∀ a0 a1 k, LeO (thresherref0_EqRecs.f k a0 a1) (thresherref0_EqRecs.f (k + 1) a0 a1) := by
 intro a0 a1 k
 have ih0 := thresherref0_EqRecs.mono_l k
 unfold thresherref0_EqRecs.f
 repeat' first
   | (with_reducible exact ih0 _ _ _)
   | (with_reducible exact LeO.refl _)
   | (with_reducible exact LeO.none _)
   | (with_reducible refine LeO.ite ?_ ?_)
   | (with_reducible refine LeO.bind ?_ (fun _ => ?_))
   | exact ih0 _ _ _
   | exact LeO.none _
   | refine LeO.ite ?_ ?_
   | refine LeO.bind ?_ (fun _ => ?_)
set_option maxHeartbeats 8000000 in
set_option maxRecDepth 100000 in
theorem thresherref0_EqRecs.calls (k : Nat) (A0 : Option Addr) (c0 : Nat) (l0 : List (S32)) (A1 : Option Addr) (c1 : Nat) (l1 : List (S32)) (r : Bool) (w : World) (hr0 : Kd.C k32 w A0 l0.length l0) (hc0 : l0.length ≤ c0) (hr1 : Kd.C k32 w A1 l1.length l1) (hc1 : l1.length ≤ c1) (h : thresherref0_EqRecs.f k l0 l1 = some r) :
  Calls Try.prog 21 #[.slice A0 l0.length c0, .slice A1 l1.length c1] w fun e w' => e = .returned (.bool r) ∧ Drawn0 w w' := by
 have hu32 := Try.underlying32
 have HR0 := Aside0.mk hr0
 have HC0 := Aside0.mk hc0
 clear hr0 hc0
 have HR1 := Aside0.mk hr1
 have HC1 := Aside0.mk hc1
 clear hr1 hc1
 have H : (if (l0.length : Int) = (l1.length : Int) then (thresherref0_EqRecs.l0 k l0 l1 0) else (some false)) = some r := h
 clear h; by_cases c3 : (l0.length : Int) = (l1.length : Int)
 ·
  rw [if_pos c3] at H
  have c3b0 : ((l0.length : Int) == (l1.length : Int)) = true := beq_iff_eq.mpr c3
  have c3b1 : ((l0.length : Int) != (l1.length : Int)) = false := bne_eq_false_iff_eq.mpr c3
  have c3b2 : (l0.length == l1.length) = true := by first | simpa using c3 | (simp at c3 ⊢; omega)
  clear c3
  have H' := Aside0.mk H
  clear H; go_enter Try.func21, Try.ntmps21
  go_wp2
  repeat (go_quiet (fail); try go_wp2)
  go_loopg [5] k (fun kq v5 w' => ∃ (x5_1 : Int), v5 = .int .i64 x5_1 ∧ Aside0 (thresherref0_EqRecs.l0 kq l0 l1 x5_1 = some r) ∧ Aside0 (kq ≤ k) ∧ Drawn0 w w')
  case atStart => exact ⟨(0), (by first | rfl | (simp; done) | (simp [*]; done)), H', ⟨Nat.le_refl _⟩, by repeat (first | exact Drawn0.refl _ | apply Drawn0.step)⟩
  case round =>
   clear H'
   try clear c1
   try clear c2
   try clear p2
   try clear c3
   try clear c3b0
   try clear c3b1
   try clear c3b2
   obtain ⟨x5_1, rfl, HA, HK1, ⟨m1, rfl⟩⟩ := hrel
   cases gk with
   | zero => exact absurd HA.out (by simp [thresherref0_EqRecs.l0])
   | succ k1 =>
    have H := HA.out
    clear HA
    simp only [thresherref0_EqRecs.l0] at H
    by_cases c4 : x5_1 < (l0.length : Int)
    ·
     rw [if_pos c4] at H
     have c4b0 : decide (x5_1 < (l0.length : Int)) = true := decide_eq_true c4
     clear c4
     by_cases c5 : 0 ≤ x5_1
     ·
      rw [if_pos c5] at H
      have c5b0 : decide (0 ≤ x5_1) = true := decide_eq_true c5
      clear c5
      by_cases c6 : x5_1 < (l1.length : Int)
      ·
       rw [if_pos c6] at H
       have c6b0 : decide (x5_1 < (l1.length : Int)) = true := decide_eq_true c6
       clear c6
       by_cases c7 : ((!(((rd_T32 l0 x5_1).f0.f0) == ((rd_T32 l1 x5_1).f0.f0)) || (!((((rd_T32 l0 x5_1).f0.f1).toList) == (((rd_T32 l1 x5_1).f0.f1).toList)))) || (!(((rd_T32 l0 x5_1).f1) == ((rd_T32 l1 x5_1).f1)))) = true
       ·
        rw [if_pos c7] at H
        have c7b0 : ((!(((rd_T32 l0 x5_1).f0.f0) == ((rd_T32 l1 x5_1).f0.f0)) || (!((((rd_T32 l0 x5_1).f0.f1).toList) == (((rd_T32 l1 x5_1).f0.f1).toList)))) || (!(((rd_T32 l0 x5_1).f1) == ((rd_T32 l1 x5_1).f1)))) = true := c7
        clear c7
        obtain rfl := Option.some.inj H
        have p251 : 0 ≤ (x5_1 : Int) := of_decide_eq_true (by first | (with_reducible assumption) | assumption)
        have q251 : x5_1 < (l0.length : Int) := of_decide_eq_true (by first | (with_reducible assumption) | assumption)
        obtain ⟨ad251, e251, hx251_0, hx251_1, hx251_2⟩ := at_T32 HR0.out x5_1 p251 q251
        cases e251
        replace p251 := eq_true p251
        replace q251 := eq_true q251
        have p252 : 0 ≤ (x5_1 : Int) := of_decide_eq_true (by first | (with_reducible assumption) | assumption)
        have q252 : x5_1 < (l1.length : Int) := of_decide_eq_true (by first | (with_reducible assumption) | assumption)
        obtain ⟨ad252, e252, hx252_0, hx252_1, hx252_2⟩ := at_T32 HR1.out x5_1 p252 q252
        cases e252
        replace p252 := eq_true p252
        replace q252 := eq_true q252
        go_wp2
        repeat (go_quiet (fail); try go_wp2)
        go_ret
        exact ⟨by first | rfl | (simp; done) | (simp [*]; done), by repeat (first | exact Drawn0.refl _ | apply Drawn0.step)⟩
       ·
        rw [if_neg c7] at H
        have c7b0 : ((!(((rd_T32 l0 x5_1).f0.f0) == ((rd_T32 l1 x5_1).f0.f0)) || (!((((rd_T32 l0 x5_1).f0.f1).toList) == (((rd_T32 l1 x5_1).f0.f1).toList)))) || (!(((rd_T32 l0 x5_1).f1) == ((rd_T32 l1 x5_1).f1)))) = false := by simpa using c7
        clear c7
        have H' := Aside0.mk H
        clear H; have p251 : 0 ≤ (x5_1 : Int) := of_decide_eq_true (by first | (with_reducible assumption) | assumption)
        have q251 : x5_1 < (l0.length : Int) := of_decide_eq_true (by first | (with_reducible assumption) | assumption)
        obtain ⟨ad251, e251, hx251_0, hx251_1, hx251_2⟩ := at_T32 HR0.out x5_1 p251 q251
        cases e251
        replace p251 := eq_true p251
        replace q251 := eq_true q251
        have p252 : 0 ≤ (x5_1 : Int) := of_decide_eq_true (by first | (with_reducible assumption) | assumption)
        have q252 : x5_1 < (l1.length : Int) := of_decide_eq_true (by first | (with_reducible assumption) | assumption)
        obtain ⟨ad252, e252, hx252_0, hx252_1, hx252_2⟩ := at_T32 HR1.out x5_1 p252 q252
        cases e252
        replace p252 := eq_true p252
        replace q252 := eq_true q252
        go_wp2
        repeat (go_quiet (fail); try go_wp2)
        go_roundg k1
        case measure => have := HK1.out; omega
        case rel => exact ⟨(wrap64 (x5_1 + 1)), (by first | rfl | (simp; done) | (simp [*]; done)), H', ⟨by have := HK1.out; omega⟩, by repeat (first | exact Drawn0.refl _ | apply Drawn0.step)⟩
      ·
       rw [if_neg c6] at H
       exact absurd H (by simp)
     ·
      rw [if_neg c5] at H
      exact absurd H (by simp)
    ·
     rw [if_neg c4] at H
     have c4b0 : decide (x5_1 < (l0.length : Int)) = false := decide_eq_false c4
     clear c4
     obtain rfl := Option.some.inj H
     go_wp2
     repeat (go_quiet (fail); try go_wp2)
     go_ret
     exact ⟨by first | rfl | (simp; done) | (simp [*]; done), by repeat (first | exact Drawn0.refl _ | apply Drawn0.step)⟩
 ·
  rw [if_neg c3] at H
  have c3b0 : ((l0.length : Int) == (l1.length : Int)) = false := beq_eq_false_iff_ne.mpr c3
  have c3b1 : ((l0.length : Int) != (l1.length : Int)) = true := bne_iff_ne.mpr c3
  have c3b2 : (l0.length == l1.length) = false := by first | simpa using c3 | (simp at c3 ⊢; omega)
  obtain rfl := Option.some.inj H
  go_enter Try.func21, Try.ntmps21
  go_wp2
  repeat (go_quiet (fail); try go_wp2)
  go_ret
  exact ⟨by first | rfl | (simp; done) | (simp [*]; done), by repeat (first | exact Drawn0.refl _ | apply Drawn0.step)⟩

end Go.Proofs.Ytgchbhepnfnhpaa.QSplit
