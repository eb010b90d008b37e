/- SplitFinds, walked: the ways of 'if may' meet, and what follows is told once. -/
import Derived.Test.YtgchbhepnfnhpaaQFindsd
import Derived.Test.YtgchbhepnfnhpaaSteps
import Derived.Test.YtgchbhepnfnhpaaQSplitx0
import Derived.Test.YtgchbhepnfnhpaaQSplitx2
import Derived.Test.YtgchbhepnfnhpaaQSplitx4
import Derived.Test.YtgchbhepnfnhpaaQSplitx7
import Derived.Test.YtgchbhepnfnhpaaQSplitx8
import Derived.Test.YtgchbhepnfnhpaaEqRecs
import Derived.Test.YtgchbhepnfnhpaaQSplitx10
namespace Go.Proofs.Ytgchbhepnfnhpaa.QSplit
open Go.RowKit Go.Proofs.YtgchbhepnfnhpaaW.PrintWords Go.Proofs.YtgchbhepnfnhpaaW.PrintLast Go.Proofs.YtgchbhepnfnhpaaW.PrintMore Go.Proofs.Ytgchbhepnfnhpaa.Steps
attribute [local go_sem] max2_int min2_int max_two min_two max_three min_three max_four min_four
set_option linter.unusedVariables false
set_option linter.unusedSimpArgs false
set_option maxHeartbeats 40000000 in
set_option maxRecDepth 100000 in
theorem thresherlaw12_SplitFinds.calls (k : Nat) (a0_0 : Int) (A0_1 : Option Addr) (c0_1 : Nat) (l0_1 : List (S61)) (a0_2 : Int) (a0_3 : Int) (A0_4 : Option Addr) (c0_4 : Nat) (l0_4 : List Int) (r : Bool) (w : World) (hr0_1 : Kd.C k61 w A0_1 l0_1.length l0_1) (hc0_1 : l0_1.length ≤ c0_1) (hr0_4 : Kd.C (Kd.int .i64) w A0_4 l0_4.length l0_4) (hc0_4 : l0_4.length ≤ c0_4) (h : thresherlaw12_SplitFinds.f k a0_0 l0_1 a0_2 a0_3 l0_4 = some r) :
  Calls Try.prog 7 #[.agg #[.int .i64 a0_0, .slice A0_1 l0_1.length c0_1, .int .i64 a0_2, .int .i64 a0_3, .slice A0_4 l0_4.length c0_4]] w fun e w' => e = .returned (.bool r) ∧ Below w.heap.size w w' := by
 have hu57 := Try.underlying57
 have hu54 := Try.underlying54
 have hu61 := Try.underlying61
 have HR0_1 := Aside0.mk hr0_1
 have HC0_1 := Aside0.mk hc0_1
 clear hr0_1 hc0_1
 have HR0_4 := Aside0.mk hr0_4
 have HC0_4 := Aside0.mk hc0_4
 clear hr0_4 hc0_4
 have HB := Aside0.mk (Below.refl w.heap.size w)
 have H : ((thresherlaw12_Heavy.f k a0_0 l0_1 a0_2 a0_3 l0_4).bind fun t281 => (if t281 = true then (some true) else ((thresherref11_Config.f k a0_0 l0_1 a0_2 a0_3).bind fun t282 => ((split_Check.f k a0_0 l0_1 a0_2 a0_3).bind fun t283 => ((thresherlaw12_num.f t283).bind fun t284 => (if ((t284 == 0) != t282) = true then (some false) else (thresherlaw12_SplitFinds.l0 k t282 0 a0_0 l0_1 a0_2 a0_3 l0_4))))))) = some r := h
 clear h
 replace H := Option.bind_eq_some_iff.mp H
 obtain ⟨t281, A20, H⟩ := H
 replace H : (if t281 = true then (some true) else ((thresherref11_Config.f k a0_0 l0_1 a0_2 a0_3).bind fun t282 => ((split_Check.f k a0_0 l0_1 a0_2 a0_3).bind fun t283 => ((thresherlaw12_num.f t283).bind fun t284 => (if ((t284 == 0) != t282) = true then (some false) else (thresherlaw12_SplitFinds.l0 k t282 0 a0_0 l0_1 a0_2 a0_3 l0_4)))))) = some r := H
 have A2 := Aside0.mk A20
 clear A20
 by_cases c3 : t281 = true
 ·
  subst c3
  have H1 : (some true) = some r := by rw [if_pos rfl] at H; exact H
  clear H
  have H := H1
  clear H1
  obtain rfl := Option.some.inj H
  go_enter Try.func7, Try.ntmps7
  go_wp2_with (first | ((with_reducible refine gate_dst (N := 1) rfl ?_); refine box_event ?hg (N := 1) ?hd (cs := #[.int .i64 a0_0, .slice A0_1 l0_1.length c0_1, .int .i64 a0_2, .int .i64 a0_3, .slice A0_4 l0_4.length c0_4]) (t := 57) ?hr ?_; (case hd => rfl); (case hg => rfl); (case hr => first | (go_simp; done) | (go_simp; rfl)); intro gb280 hg w4 hbox hb; have n0_ := Aside0.mk (below_step (be_ HB) hb); have n1_ := Aside0.mk (hbox); have n2_ := Aside0.mk ((by rw [hg]; exact (below_size (be_ HB)) : w.heap.size ≤ gb280)); have n3_ := Aside0.mk ((by rw [hg]; exact (below_size (be_ HB)) : w.heap.size ≤ gb280)); clear HB; have HB := n0_; have BK280 := n1_; have GW280 := n2_; have GE280 := n3_; clear n0_ n1_ n2_ n3_; clear hb hbox hg; have hcz5_0 : w4.cell? ⟨gb280, 0, none⟩ = some (.int .i64 a0_0) := bc_ BK280 0; have hcz5_1 : w4.cell? ⟨gb280, 1, none⟩ = some (.slice A0_1 l0_1.length c0_1) := bc_ BK280 1; have hcz5_2 : w4.cell? ⟨gb280, 2, none⟩ = some (.int .i64 a0_2) := bc_ BK280 2; have hcz5_3 : w4.cell? ⟨gb280, 3, none⟩ = some (.int .i64 a0_3) := bc_ BK280 3; have hcz5_4 : w4.cell? ⟨gb280, 4, none⟩ = some (.slice A0_4 l0_4.length c0_4) := bc_ BK280 4; have hfz5_0 := blk_frozen BK280.out 0; have hfz5_1 := blk_frozen BK280.out 1; have hfz5_2 := blk_frozen BK280.out 2; have hfz5_3 := blk_frozen BK280.out 3; have hfz5_4 := blk_frozen BK280.out 4) | ((with_reducible refine gate_callee (f := 23) rfl ?_); refine goesL_ (some 22) rfl rfl Try.func23 (by kernel_rfl) rfl #[.agg #[.int .i64 a0_0, .slice A0_1 l0_1.length c0_1, .int .i64 a0_2, .int .i64 a0_3, .slice A0_4 l0_4.length c0_4]] rfl (by (try simp only [List.map_toArray, List.map_cons, List.map_nil]); first | done | rfl | (simp only [List.length_drop, List.length_take]; rfl)) ?_; (with_reducible refine (thresherlaw12_Heavy.calls k a0_0 _ _ l0_1 a0_2 a0_3 _ _ l0_4 true _ ?side1 ?side2 ?side3 ?side4 A2.out).mono ?_); (case side1 => repeat (first | exact (Kd.C_below HR0_1.out HB.out) | (with_reducible refine Kd.C_alloc ?_ _) | (with_reducible refine Kd.C_drewN ?_ _) | (with_reducible refine Kd.C_drew ?_))); (case side2 => exact HC0_1.out); (case side3 => repeat (first | exact (Kd.C_below HR0_4.out HB.out) | (with_reducible refine Kd.C_alloc ?_ _) | (with_reducible refine Kd.C_drewN ?_ _) | (with_reducible refine Kd.C_drew ?_))); (case side4 => exact HC0_4.out); rintro e w6 ⟨rfl, hb⟩; refine ⟨_, rfl, ?_⟩; have n0_ := Aside0.mk (blk_below (g := gb280) (o := .cells #[.int .i64 a0_0, .slice A0_1 l0_1.length c0_1, .int .i64 a0_2, .int .i64 a0_3, .slice A0_4 l0_4.length c0_4] 57 (0, 0)) (bk_ BK280) hb); have n1_ := Aside0.mk (below_step (be_ HB) hb); clear BK280; clear HB; have BK280 := n0_; have HB := n1_; clear n0_ n1_; (try clear hb); (try clear hb2); (try clear hk); (try clear hi)))
  go_ret
  exact ⟨re_, be_ HB⟩
 ·
  replace c3 := Bool.eq_false_iff.mpr c3
  subst c3
  have H1 : ((thresherref11_Config.f k a0_0 l0_1 a0_2 a0_3).bind fun t282 => ((split_Check.f k a0_0 l0_1 a0_2 a0_3).bind fun t283 => ((thresherlaw12_num.f t283).bind fun t284 => (if ((t284 == 0) != t282) = true then (some false) else (thresherlaw12_SplitFinds.l0 k t282 0 a0_0 l0_1 a0_2 a0_3 l0_4))))) = some r := by rw [if_neg (show ¬ (false = true) by decide)] at H; exact H
  clear H
  have H := H1
  clear H1
  replace H := Option.bind_eq_some_iff.mp H
  obtain ⟨t282, A70, H⟩ := H
  replace H : ((split_Check.f k a0_0 l0_1 a0_2 a0_3).bind fun t283 => ((thresherlaw12_num.f t283).bind fun t284 => (if ((t284 == 0) != t282) = true then (some false) else (thresherlaw12_SplitFinds.l0 k t282 0 a0_0 l0_1 a0_2 a0_3 l0_4)))) = some r := H
  have A7 := Aside0.mk A70
  clear A70
  replace H := Option.bind_eq_some_iff.mp H
  obtain ⟨t283, A80, H⟩ := H
  replace H : ((thresherlaw12_num.f t283).bind fun t284 => (if ((t284 == 0) != t282) = true then (some false) else (thresherlaw12_SplitFinds.l0 k t282 0 a0_0 l0_1 a0_2 a0_3 l0_4))) = some r := H
  have A8 := Aside0.mk A80
  clear A80
  replace H := Option.bind_eq_some_iff.mp H
  obtain ⟨t284, A90, H⟩ := H
  replace H : (if ((t284 == 0) != t282) = true then (some false) else (thresherlaw12_SplitFinds.l0 k t282 0 a0_0 l0_1 a0_2 a0_3 l0_4)) = some r := H
  have A9 := Aside0.mk A90
  clear A90
  by_cases c10 : ((t284 == 0) != t282) = true
  ·
   rw [if_pos c10] at H
   have c10b0 : ((t284 == 0) != t282) = true := c10
   (try (have c10b1 : decide ((t284 == 0) = t282) = false := by simpa using c10))
   (try (have c10b2 : ((t284 == 0) == t282) = false := by simpa using c10))
   (try (have c10b3 : ¬ ((t284 == 0) = t282) := by simpa using c10))
   clear c10
   obtain rfl := Option.some.inj H
   go_enter Try.func7, Try.ntmps7
   go_wp2_with (first | ((with_reducible refine gate_dst (N := 1) rfl ?_); refine box_event ?hg (N := 1) ?hd (cs := #[.int .i64 a0_0, .slice A0_1 l0_1.length c0_1, .int .i64 a0_2, .int .i64 a0_3, .slice A0_4 l0_4.length c0_4]) (t := 57) ?hr ?_; (case hd => rfl); (case hg => rfl); (case hr => first | (go_simp; done) | (go_simp; rfl)); intro gb280 hg w11 hbox hb; have n0_ := Aside0.mk (below_step (be_ HB) hb); have n1_ := Aside0.mk (hbox); have n2_ := Aside0.mk ((by rw [hg]; exact (below_size (be_ HB)) : w.heap.size ≤ gb280)); have n3_ := Aside0.mk ((by rw [hg]; exact (below_size (be_ HB)) : w.heap.size ≤ gb280)); clear HB; have HB := n0_; have BK280 := n1_; have GW280 := n2_; have GE280 := n3_; clear n0_ n1_ n2_ n3_; clear hb hbox hg; have hcz12_0 : w11.cell? ⟨gb280, 0, none⟩ = some (.int .i64 a0_0) := bc_ BK280 0; have hcz12_1 : w11.cell? ⟨gb280, 1, none⟩ = some (.slice A0_1 l0_1.length c0_1) := bc_ BK280 1; have hcz12_2 : w11.cell? ⟨gb280, 2, none⟩ = some (.int .i64 a0_2) := bc_ BK280 2; have hcz12_3 : w11.cell? ⟨gb280, 3, none⟩ = some (.int .i64 a0_3) := bc_ BK280 3; have hcz12_4 : w11.cell? ⟨gb280, 4, none⟩ = some (.slice A0_4 l0_4.length c0_4) := bc_ BK280 4; have hfz12_0 := blk_frozen BK280.out 0; have hfz12_1 := blk_frozen BK280.out 1; have hfz12_2 := blk_frozen BK280.out 2; have hfz12_3 := blk_frozen BK280.out 3; have hfz12_4 := blk_frozen BK280.out 4) | ((with_reducible refine gate_callee (f := 23) rfl ?_); refine goesL_ (some 22) rfl rfl Try.func23 (by kernel_rfl) rfl #[.agg #[.int .i64 a0_0, .slice A0_1 l0_1.length c0_1, .int .i64 a0_2, .int .i64 a0_3, .slice A0_4 l0_4.length c0_4]] rfl (by (try simp only [List.map_toArray, List.map_cons, List.map_nil]); first | done | rfl | (simp only [List.length_drop, List.length_take]; rfl)) ?_; (with_reducible refine (thresherlaw12_Heavy.calls k a0_0 _ _ l0_1 a0_2 a0_3 _ _ l0_4 false _ ?side1 ?side2 ?side3 ?side4 A2.out).mono ?_); (case side1 => repeat (first | exact (Kd.C_below HR0_1.out HB.out) | (with_reducible refine Kd.C_alloc ?_ _) | (with_reducible refine Kd.C_drewN ?_ _) | (with_reducible refine Kd.C_drew ?_))); (case side2 => exact HC0_1.out); (case side3 => repeat (first | exact (Kd.C_below HR0_4.out HB.out) | (with_reducible refine Kd.C_alloc ?_ _) | (with_reducible refine Kd.C_drewN ?_ _) | (with_reducible refine Kd.C_drew ?_))); (case side4 => exact HC0_4.out); rintro e w13 ⟨rfl, hb⟩; refine ⟨_, rfl, ?_⟩; have n0_ := Aside0.mk (blk_below (g := gb280) (o := .cells #[.int .i64 a0_0, .slice A0_1 l0_1.length c0_1, .int .i64 a0_2, .int .i64 a0_3, .slice A0_4 l0_4.length c0_4] 57 (0, 0)) (bk_ BK280) hb); have n1_ := Aside0.mk (below_step (be_ HB) hb); clear BK280; clear HB; have BK280 := n0_; have HB := n1_; clear n0_ n1_; (try clear hb); (try clear hb2); (try clear hk); (try clear hi); have hcz14_0 : w13.cell? ⟨gb280, 0, none⟩ = some (.int .i64 a0_0) := bc_ BK280 0; have hcz14_1 : w13.cell? ⟨gb280, 1, none⟩ = some (.slice A0_1 l0_1.length c0_1) := bc_ BK280 1; have hcz14_2 : w13.cell? ⟨gb280, 2, none⟩ = some (.int .i64 a0_2) := bc_ BK280 2; have hcz14_3 : w13.cell? ⟨gb280, 3, none⟩ = some (.int .i64 a0_3) := bc_ BK280 3; have hcz14_4 : w13.cell? ⟨gb280, 4, none⟩ = some (.slice A0_4 l0_4.length c0_4) := bc_ BK280 4; have hfz14_0 := blk_frozen BK280.out 0; have hfz14_1 := blk_frozen BK280.out 1; have hfz14_2 := blk_frozen BK280.out 2; have hfz14_3 := blk_frozen BK280.out 3; have hfz14_4 := blk_frozen BK280.out 4) | ((with_reducible refine gate_callee (f := 24) rfl ?_); refine goesL_ (some 25) rfl rfl Try.func24 (by kernel_rfl) rfl #[.agg #[.int .i64 a0_0, .slice A0_1 l0_1.length c0_1, .int .i64 a0_2, .int .i64 a0_3]] rfl (by (try simp only [List.map_toArray, List.map_cons, List.map_nil]); first | done | rfl | (simp only [List.length_drop, List.length_take]; rfl)) ?_; (with_reducible refine (thresherref11_Config.calls k a0_0 _ _ l0_1 a0_2 a0_3 t282 _ ?side1 ?side2 A7.out).mono ?_); (case side1 => repeat (first | exact (Kd.C_below HR0_1.out HB.out) | (with_reducible refine Kd.C_alloc ?_ _) | (with_reducible refine Kd.C_drewN ?_ _) | (with_reducible refine Kd.C_drew ?_))); (case side2 => exact HC0_1.out); rintro e w15 ⟨rfl, hb⟩; refine ⟨_, rfl, ?_⟩; have n0_ := Aside0.mk (blk_below (g := gb280) (o := .cells #[.int .i64 a0_0, .slice A0_1 l0_1.length c0_1, .int .i64 a0_2, .int .i64 a0_3, .slice A0_4 l0_4.length c0_4] 57 (0, 0)) (bk_ BK280) hb); have n1_ := Aside0.mk (below_step (be_ HB) hb); clear BK280; clear HB; have BK280 := n0_; have HB := n1_; clear n0_ n1_; (try clear hb); (try clear hb2); (try clear hk); (try clear hi); have hcz16_0 : w15.cell? ⟨gb280, 0, none⟩ = some (.int .i64 a0_0) := bc_ BK280 0; have hcz16_1 : w15.cell? ⟨gb280, 1, none⟩ = some (.slice A0_1 l0_1.length c0_1) := bc_ BK280 1; have hcz16_2 : w15.cell? ⟨gb280, 2, none⟩ = some (.int .i64 a0_2) := bc_ BK280 2; have hcz16_3 : w15.cell? ⟨gb280, 3, none⟩ = some (.int .i64 a0_3) := bc_ BK280 3; have hcz16_4 : w15.cell? ⟨gb280, 4, none⟩ = some (.slice A0_4 l0_4.length c0_4) := bc_ BK280 4; have hfz16_0 := blk_frozen BK280.out 0; have hfz16_1 := blk_frozen BK280.out 1; have hfz16_2 := blk_frozen BK280.out 2; have hfz16_3 := blk_frozen BK280.out 3; have hfz16_4 := blk_frozen BK280.out 4) | ((with_reducible refine gate_callee (f := 28) rfl ?_); refine goesL_ (some 28) rfl rfl Try.func28 (by kernel_rfl) rfl #[.agg #[.int .i64 a0_0, .slice A0_1 l0_1.length c0_1, .int .i64 a0_2, .int .i64 a0_3]] rfl (by (try simp only [List.map_toArray, List.map_cons, List.map_nil]); first | done | rfl | (simp only [List.length_drop, List.length_take]; rfl)) ?_; (with_reducible refine (split_Check.calls k a0_0 _ _ l0_1 a0_2 a0_3 t283 _ ?side1 ?side2 A8.out).mono ?_); (case side1 => repeat (first | exact (Kd.C_below HR0_1.out HB.out) | (with_reducible refine Kd.C_alloc ?_ _) | (with_reducible refine Kd.C_drewN ?_ _) | (with_reducible refine Kd.C_drew ?_))); (case side2 => exact HC0_1.out); rintro e w17 ⟨rfl, hb⟩; refine ⟨_, rfl, ?_⟩; have n0_ := Aside0.mk (blk_below (g := gb280) (o := .cells #[.int .i64 a0_0, .slice A0_1 l0_1.length c0_1, .int .i64 a0_2, .int .i64 a0_3, .slice A0_4 l0_4.length c0_4] 57 (0, 0)) (bk_ BK280) hb); have n1_ := Aside0.mk (below_step (be_ HB) hb); clear BK280; clear HB; have BK280 := n0_; have HB := n1_; clear n0_ n1_; (try clear hb); (try clear hb2); (try clear hk); (try clear hi)) | ((with_reducible refine gate_callee (f := 26) rfl ?_); refine goesL_ (some 29) rfl rfl Try.func26 (by kernel_rfl) rfl #[.int .i64 t283] rfl (by (try simp only [List.map_toArray, List.map_cons, List.map_nil]); first | done | rfl | (simp only [List.length_drop, List.length_take]; rfl)) ?_; (with_reducible refine (thresherlaw12_num.calls t283 t284 _ A9.out).mono ?_); rintro e w' ⟨rfl, ⟨nd, rfl⟩⟩; refine ⟨_, rfl, ?_⟩))
   go_ret
   exact ⟨re_, be_ HB⟩
  ·
   rw [if_neg c10] at H
   have c10b0 : ((t284 == 0) != t282) = false := by simpa using c10
   (try (have c10b1 : decide ((t284 == 0) = t282) = true := by simpa using c10))
   (try (have c10b2 : ((t284 == 0) == t282) = true := by simpa using c10))
   clear c10
   have H' := Aside0.mk H
   clear H
   go_enter Try.func7, Try.ntmps7
   go_wp2_with (first | ((with_reducible refine gate_dst (N := 1) rfl ?_); refine box_event ?hg (N := 1) ?hd (cs := #[.int .i64 a0_0, .slice A0_1 l0_1.length c0_1, .int .i64 a0_2, .int .i64 a0_3, .slice A0_4 l0_4.length c0_4]) (t := 57) ?hr ?_; (case hd => rfl); (case hg => rfl); (case hr => first | (go_simp; done) | (go_simp; rfl)); intro gb280 hg w18 hbox hb; have n0_ := Aside0.mk (below_step (be_ HB) hb); have n1_ := Aside0.mk (hbox); have n2_ := Aside0.mk ((by rw [hg]; exact (below_size (be_ HB)) : w.heap.size ≤ gb280)); have n3_ := Aside0.mk ((by rw [hg]; exact (below_size (be_ HB)) : w.heap.size ≤ gb280)); clear HB; have HB := n0_; have BK280 := n1_; have GW280 := n2_; have GE280 := n3_; clear n0_ n1_ n2_ n3_; clear hb hbox hg; have hcz19_0 : w18.cell? ⟨gb280, 0, none⟩ = some (.int .i64 a0_0) := bc_ BK280 0; have hcz19_1 : w18.cell? ⟨gb280, 1, none⟩ = some (.slice A0_1 l0_1.length c0_1) := bc_ BK280 1; have hcz19_2 : w18.cell? ⟨gb280, 2, none⟩ = some (.int .i64 a0_2) := bc_ BK280 2; have hcz19_3 : w18.cell? ⟨gb280, 3, none⟩ = some (.int .i64 a0_3) := bc_ BK280 3; have hcz19_4 : w18.cell? ⟨gb280, 4, none⟩ = some (.slice A0_4 l0_4.length c0_4) := bc_ BK280 4; have hfz19_0 := blk_frozen BK280.out 0; have hfz19_1 := blk_frozen BK280.out 1; have hfz19_2 := blk_frozen BK280.out 2; have hfz19_3 := blk_frozen BK280.out 3; have hfz19_4 := blk_frozen BK280.out 4) | ((with_reducible refine gate_callee (f := 23) rfl ?_); refine goesL_ (some 22) rfl rfl Try.func23 (by kernel_rfl) rfl #[.agg #[.int .i64 a0_0, .slice A0_1 l0_1.length c0_1, .int .i64 a0_2, .int .i64 a0_3, .slice A0_4 l0_4.length c0_4]] rfl (by (try simp only [List.map_toArray, List.map_cons, List.map_nil]); first | done | rfl | (simp only [List.length_drop, List.length_take]; rfl)) ?_; (with_reducible refine (thresherlaw12_Heavy.calls k a0_0 _ _ l0_1 a0_2 a0_3 _ _ l0_4 false _ ?side1 ?side2 ?side3 ?side4 A2.out).mono ?_); (case side1 => repeat (first | exact (Kd.C_below HR0_1.out HB.out) | (with_reducible refine Kd.C_alloc ?_ _) | (with_reducible refine Kd.C_drewN ?_ _) | (with_reducible refine Kd.C_drew ?_))); (case side2 => exact HC0_1.out); (case side3 => repeat (first | exact (Kd.C_below HR0_4.out HB.out) | (with_reducible refine Kd.C_alloc ?_ _) | (with_reducible refine Kd.C_drewN ?_ _) | (with_reducible refine Kd.C_drew ?_))); (case side4 => exact HC0_4.out); rintro e w20 ⟨rfl, hb⟩; refine ⟨_, rfl, ?_⟩; have n0_ := Aside0.mk (blk_below (g := gb280) (o := .cells #[.int .i64 a0_0, .slice A0_1 l0_1.length c0_1, .int .i64 a0_2, .int .i64 a0_3, .slice A0_4 l0_4.length c0_4] 57 (0, 0)) (bk_ BK280) hb); have n1_ := Aside0.mk (below_step (be_ HB) hb); clear BK280; clear HB; have BK280 := n0_; have HB := n1_; clear n0_ n1_; (try clear hb); (try clear hb2); (try clear hk); (try clear hi); have hcz21_0 : w20.cell? ⟨gb280, 0, none⟩ = some (.int .i64 a0_0) := bc_ BK280 0; have hcz21_1 : w20.cell? ⟨gb280, 1, none⟩ = some (.slice A0_1 l0_1.length c0_1) := bc_ BK280 1; have hcz21_2 : w20.cell? ⟨gb280, 2, none⟩ = some (.int .i64 a0_2) := bc_ BK280 2; have hcz21_3 : w20.cell? ⟨gb280, 3, none⟩ = some (.int .i64 a0_3) := bc_ BK280 3; have hcz21_4 : w20.cell? ⟨gb280, 4, none⟩ = some (.slice A0_4 l0_4.length c0_4) := bc_ BK280 4; have hfz21_0 := blk_frozen BK280.out 0; have hfz21_1 := blk_frozen BK280.out 1; have hfz21_2 := blk_frozen BK280.out 2; have hfz21_3 := blk_frozen BK280.out 3; have hfz21_4 := blk_frozen BK280.out 4) | ((with_reducible refine gate_callee (f := 24) rfl ?_); refine goesL_ (some 25) rfl rfl Try.func24 (by kernel_rfl) rfl #[.agg #[.int .i64 a0_0, .slice A0_1 l0_1.length c0_1, .int .i64 a0_2, .int .i64 a0_3]] rfl (by (try simp only [List.map_toArray, List.map_cons, List.map_nil]); first | done | rfl | (simp only [List.length_drop, List.length_take]; rfl)) ?_; (with_reducible refine (thresherref11_Config.calls k a0_0 _ _ l0_1 a0_2 a0_3 t282 _ ?side1 ?side2 A7.out).mono ?_); (case side1 => repeat (first | exact (Kd.C_below HR0_1.out HB.out) | (with_reducible refine Kd.C_alloc ?_ _) | (with_reducible refine Kd.C_drewN ?_ _) | (with_reducible refine Kd.C_drew ?_))); (case side2 => exact HC0_1.out); rintro e w22 ⟨rfl, hb⟩; refine ⟨_, rfl, ?_⟩; have n0_ := Aside0.mk (blk_below (g := gb280) (o := .cells #[.int .i64 a0_0, .slice A0_1 l0_1.length c0_1, .int .i64 a0_2, .int .i64 a0_3, .slice A0_4 l0_4.length c0_4] 57 (0, 0)) (bk_ BK280) hb); have n1_ := Aside0.mk (below_step (be_ HB) hb); clear BK280; clear HB; have BK280 := n0_; have HB := n1_; clear n0_ n1_; (try clear hb); (try clear hb2); (try clear hk); (try clear hi); have hcz23_0 : w22.cell? ⟨gb280, 0, none⟩ = some (.int .i64 a0_0) := bc_ BK280 0; have hcz23_1 : w22.cell? ⟨gb280, 1, none⟩ = some (.slice A0_1 l0_1.length c0_1) := bc_ BK280 1; have hcz23_2 : w22.cell? ⟨gb280, 2, none⟩ = some (.int .i64 a0_2) := bc_ BK280 2; have hcz23_3 : w22.cell? ⟨gb280, 3, none⟩ = some (.int .i64 a0_3) := bc_ BK280 3; have hcz23_4 : w22.cell? ⟨gb280, 4, none⟩ = some (.slice A0_4 l0_4.length c0_4) := bc_ BK280 4; have hfz23_0 := blk_frozen BK280.out 0; have hfz23_1 := blk_frozen BK280.out 1; have hfz23_2 := blk_frozen BK280.out 2; have hfz23_3 := blk_frozen BK280.out 3; have hfz23_4 := blk_frozen BK280.out 4) | ((with_reducible refine gate_callee (f := 28) rfl ?_); refine goesL_ (some 28) rfl rfl Try.func28 (by kernel_rfl) rfl #[.agg #[.int .i64 a0_0, .slice A0_1 l0_1.length c0_1, .int .i64 a0_2, .int .i64 a0_3]] rfl (by (try simp only [List.map_toArray, List.map_cons, List.map_nil]); first | done | rfl | (simp only [List.length_drop, List.length_take]; rfl)) ?_; (with_reducible refine (split_Check.calls k a0_0 _ _ l0_1 a0_2 a0_3 t283 _ ?side1 ?side2 A8.out).mono ?_); (case side1 => repeat (first | exact (Kd.C_below HR0_1.out HB.out) | (with_reducible refine Kd.C_alloc ?_ _) | (with_reducible refine Kd.C_drewN ?_ _) | (with_reducible refine Kd.C_drew ?_))); (case side2 => exact HC0_1.out); rintro e w24 ⟨rfl, hb⟩; refine ⟨_, rfl, ?_⟩; have n0_ := Aside0.mk (blk_below (g := gb280) (o := .cells #[.int .i64 a0_0, .slice A0_1 l0_1.length c0_1, .int .i64 a0_2, .int .i64 a0_3, .slice A0_4 l0_4.length c0_4] 57 (0, 0)) (bk_ BK280) hb); have n1_ := Aside0.mk (below_step (be_ HB) hb); clear BK280; clear HB; have BK280 := n0_; have HB := n1_; clear n0_ n1_; (try clear hb); (try clear hb2); (try clear hk); (try clear hi)) | ((with_reducible refine gate_callee (f := 26) rfl ?_); refine goesL_ (some 29) rfl rfl Try.func26 (by kernel_rfl) rfl #[.int .i64 t283] rfl (by (try simp only [List.map_toArray, List.map_cons, List.map_nil]); first | done | rfl | (simp only [List.length_drop, List.length_take]; rfl)) ?_; (with_reducible refine (thresherlaw12_num.calls t283 t284 _ A9.out).mono ?_); rintro e w' ⟨rfl, ⟨nd, rfl⟩⟩; refine ⟨_, rfl, ?_⟩))
   go_loopg [4] k (fun kq v4 w' => ∃ (x4_1 : Int), v4 = .int .i64 x4_1 ∧ Aside0 (thresherlaw12_SplitFinds.l0 kq t282 x4_1 a0_0 l0_1 a0_2 a0_3 l0_4 = some r) ∧ Aside0 (kq ≤ k) ∧ Aside0 (w'.heap[gb280]? = some (.cells #[.int .i64 a0_0, (.slice A0_1 l0_1.length c0_1), .int .i64 a0_2, .int .i64 a0_3, (.slice A0_4 l0_4.length c0_4)] 57 (0, 0))) ∧ Aside0 (Below w.heap.size w w'))
   case atStart => exact ⟨(0), eq_, H', ⟨Nat.le_refl _⟩, ⟨bk_ BK280⟩, ⟨be_ HB⟩⟩
   case round =>
    as_aux_lemma =>
    clear H'
    (try clear c1); (try clear c2); (try clear p2); (try clear c3); (try clear c7); (try clear c10); (try clear c10b0); (try clear c10b1); (try clear c10b2); (try clear c23); (try clear c24); (try clear hcz12_0)
    (try clear hcz12_1); (try clear hcz12_2); (try clear hcz12_3); (try clear hcz12_4); (try clear hcz14_0); (try clear hcz14_1); (try clear hcz14_2); (try clear hcz14_3); (try clear hcz14_4); (try clear hcz16_0); (try clear hcz16_1); (try clear hcz16_2)
    (try clear hcz16_3); (try clear hcz16_4); (try clear hcz19_0); (try clear hcz19_1); (try clear hcz19_2); (try clear hcz19_3); (try clear hcz19_4); (try clear hcz21_0); (try clear hcz21_1); (try clear hcz21_2); (try clear hcz21_3); (try clear hcz21_4)
    (try clear hcz23_0); (try clear hcz23_1); (try clear hcz23_2); (try clear hcz23_3); (try clear hcz23_4); (try clear hcz5_0); (try clear hcz5_1); (try clear hcz5_2); (try clear hcz5_3); (try clear hcz5_4); (try clear hfz12_0); (try clear hfz12_1)
    (try clear hfz12_2); (try clear hfz12_3); (try clear hfz12_4); (try clear hfz14_0); (try clear hfz14_1); (try clear hfz14_2); (try clear hfz14_3); (try clear hfz14_4); (try clear hfz16_0); (try clear hfz16_1); (try clear hfz16_2); (try clear hfz16_3)
    (try clear hfz16_4); (try clear hfz19_0); (try clear hfz19_1); (try clear hfz19_2); (try clear hfz19_3); (try clear hfz19_4); (try clear hfz21_0); (try clear hfz21_1); (try clear hfz21_2); (try clear hfz21_3); (try clear hfz21_4); (try clear hfz23_0)
    (try clear hfz23_1); (try clear hfz23_2); (try clear hfz23_3); (try clear hfz23_4); (try clear hfz5_0); (try clear hfz5_1); (try clear hfz5_2); (try clear hfz5_3); (try clear hfz5_4)
    obtain ⟨x4_1, rfl, HA, HK1, BK280, HB⟩ := hrel
    cases gk with
    | zero => exact absurd HA.out (by simp [thresherlaw12_SplitFinds.l0])
    | succ k1 =>
     have H := HA.out
     clear HA
     simp only [thresherlaw12_SplitFinds.l0] at H
     have HC25 := Aside0.mk H
     clear H
     go_upto_region 7 with (fail)
     go_cut [41] (fun v41 wc => ∃ (kq : Nat) (x41_24 : Bool), v41 = .bool x41_24 ∧ Aside0 (thresherlaw12_SplitFinds.j1 kq t282 x4_1 x41_24 a0_0 l0_1 a0_2 a0_3 l0_4 = some r) ∧ Aside0 (kq ≤ k1) ∧ Aside0 (wc.heap[gb280]? = some (.cells #[.int .i64 a0_0, (.slice A0_1 l0_1.length c0_1), .int .i64 a0_2, .int .i64 a0_3, (.slice A0_4 l0_4.length c0_4)] 57 (0, 0))) ∧ Aside0 (Below w.heap.size w wc))
     case first =>
      as_aux_lemma =>
      have H := HC25.out
      clear HC25
      by_cases c26 : x4_1 < (l0_4.length : Int)
      ·
       rw [if_pos c26] at H
       have c26b0 : decide (x4_1 < (l0_4.length : Int)) = true := decide_eq_true c26
       clear c26
       (first | rw [c26b0] | (simp only [i64_w, i32_w]; rw [c26b0]) | skip)
       have H' := Aside0.mk H
       clear H
       have hcz27_0 : wr.cell? ⟨gb280, 0, none⟩ = some (.int .i64 a0_0) := bc_ BK280 0
       have hcz27_1 : wr.cell? ⟨gb280, 1, none⟩ = some (.slice A0_1 l0_1.length c0_1) := bc_ BK280 1
       have hcz27_2 : wr.cell? ⟨gb280, 2, none⟩ = some (.int .i64 a0_2) := bc_ BK280 2
       have hcz27_3 : wr.cell? ⟨gb280, 3, none⟩ = some (.int .i64 a0_3) := bc_ BK280 3
       have hcz27_4 : wr.cell? ⟨gb280, 4, none⟩ = some (.slice A0_4 l0_4.length c0_4) := bc_ BK280 4
       have hfz27_0 := blk_frozen BK280.out 0
       have hfz27_1 := blk_frozen BK280.out 1
       have hfz27_2 := blk_frozen BK280.out 2
       have hfz27_3 := blk_frozen BK280.out 3
       have hfz27_4 := blk_frozen BK280.out 4
       go_wp2
       go_meet
       case rel => exact ⟨_, (decide (x4_1 < 12)), eq_, H', ⟨by have := HK1.out; first | omega | exact Nat.le_refl _⟩, ⟨bk_ BK280⟩, ⟨be_ HB⟩⟩
      ·
       rw [if_neg c26] at H
       have c26b0 : decide (x4_1 < (l0_4.length : Int)) = false := decide_eq_false c26
       clear c26
       (first | rw [c26b0] | (simp only [i64_w, i32_w]; rw [c26b0]) | skip)
       have H' := Aside0.mk H
       clear H
       have hcz28_0 : wr.cell? ⟨gb280, 0, none⟩ = some (.int .i64 a0_0) := bc_ BK280 0
       have hcz28_1 : wr.cell? ⟨gb280, 1, none⟩ = some (.slice A0_1 l0_1.length c0_1) := bc_ BK280 1
       have hcz28_2 : wr.cell? ⟨gb280, 2, none⟩ = some (.int .i64 a0_2) := bc_ BK280 2
       have hcz28_3 : wr.cell? ⟨gb280, 3, none⟩ = some (.int .i64 a0_3) := bc_ BK280 3
       have hcz28_4 : wr.cell? ⟨gb280, 4, none⟩ = some (.slice A0_4 l0_4.length c0_4) := bc_ BK280 4
       have hfz28_0 := blk_frozen BK280.out 0
       have hfz28_1 := blk_frozen BK280.out 1
       have hfz28_2 := blk_frozen BK280.out 2
       have hfz28_3 := blk_frozen BK280.out 3
       have hfz28_4 := blk_frozen BK280.out 4
       go_wp2
       go_meet
       case rel => exact ⟨_, (false), eq_, H', ⟨by have := HK1.out; first | omega | exact Nat.le_refl _⟩, ⟨bk_ BK280⟩, ⟨be_ HB⟩⟩
     case rest =>
      as_aux_lemma =>
      clear HC25
      (try clear c1); (try clear c2); (try clear p2); (try clear c3); (try clear c7); (try clear c10); (try clear c10b0); (try clear c10b1); (try clear c10b2); (try clear c23); (try clear c24); (try clear c26)
      (try clear c26b0); (try clear c28); (try clear hcz12_0); (try clear hcz12_1); (try clear hcz12_2); (try clear hcz12_3); (try clear hcz12_4); (try clear hcz14_0); (try clear hcz14_1); (try clear hcz14_2); (try clear hcz14_3); (try clear hcz14_4)
      (try clear hcz16_0); (try clear hcz16_1); (try clear hcz16_2); (try clear hcz16_3); (try clear hcz16_4); (try clear hcz19_0); (try clear hcz19_1); (try clear hcz19_2); (try clear hcz19_3); (try clear hcz19_4); (try clear hcz21_0); (try clear hcz21_1)
      (try clear hcz21_2); (try clear hcz21_3); (try clear hcz21_4); (try clear hcz23_0); (try clear hcz23_1); (try clear hcz23_2); (try clear hcz23_3); (try clear hcz23_4); (try clear hcz27_0); (try clear hcz27_1); (try clear hcz27_2); (try clear hcz27_3)
      (try clear hcz27_4); (try clear hcz28_0); (try clear hcz28_1); (try clear hcz28_2); (try clear hcz28_3); (try clear hcz28_4); (try clear hcz5_0); (try clear hcz5_1); (try clear hcz5_2); (try clear hcz5_3); (try clear hcz5_4); (try clear hfz12_0)
      (try clear hfz12_1); (try clear hfz12_2); (try clear hfz12_3); (try clear hfz12_4); (try clear hfz14_0); (try clear hfz14_1); (try clear hfz14_2); (try clear hfz14_3); (try clear hfz14_4); (try clear hfz16_0); (try clear hfz16_1); (try clear hfz16_2)
      (try clear hfz16_3); (try clear hfz16_4); (try clear hfz19_0); (try clear hfz19_1); (try clear hfz19_2); (try clear hfz19_3); (try clear hfz19_4); (try clear hfz21_0); (try clear hfz21_1); (try clear hfz21_2); (try clear hfz21_3); (try clear hfz21_4)
      (try clear hfz23_0); (try clear hfz23_1); (try clear hfz23_2); (try clear hfz23_3); (try clear hfz23_4); (try clear hfz27_0); (try clear hfz27_1); (try clear hfz27_2); (try clear hfz27_3); (try clear hfz27_4); (try clear hfz28_0); (try clear hfz28_1)
      (try clear hfz28_2); (try clear hfz28_3); (try clear hfz28_4); (try clear hfz5_0); (try clear hfz5_1); (try clear hfz5_2); (try clear hfz5_3); (try clear hfz5_4); (try clear p2)
      obtain ⟨kq, x41_24, rfl, HA, HJ24, BK280, HB⟩ := hcut
      cases kq with
      | zero => exact absurd HA.out (by simp [thresherlaw12_SplitFinds.j1])
      | succ kj24 =>
       have H := HA.out
       clear HA
       simp only [thresherlaw12_SplitFinds.j1] at H
       by_cases c29 : x41_24 = true
       ·
        subst c29
        have H1 : (if 0 ≤ x4_1 then (if x4_1 < (l0_4.length : Int) then ((thresherref11_Find.f kj24 a0_0 l0_1 a0_2 a0_3 (rd l0_4 x4_1)).bind fun t287 => ((split_Find.f kj24 a0_0 l0_1 a0_2 a0_3 (rd l0_4 x4_1)).bind fun bt289 => (if t282 = true then (if t287 ≥ 0 then (if 0 ≤ t287 then (if t287 < (l0_1.length : Int) then (thresherlaw12_SplitFinds.jw kj24 t282 x4_1 t287 0 bt289.2.2.2 a0_0 l0_1 a0_2 a0_3 l0_4 bt289.1 bt289.2.1 bt289.2.2.1 ((rd_T61 l0_1 t287).f0) ((rd_T61 l0_1 t287).f1) ((rd_T61 l0_1 t287).f2)) else none) else none) else (thresherlaw12_SplitFinds.jw kj24 t282 x4_1 t287 3 bt289.2.2.2 a0_0 l0_1 a0_2 a0_3 l0_4 bt289.1 bt289.2.1 bt289.2.2.1 0 (⟨#[]⟩ : ByteArray) ([] : List Int))) else (thresherlaw12_SplitFinds.jw kj24 t282 x4_1 t287 1 bt289.2.2.2 a0_0 l0_1 a0_2 a0_3 l0_4 bt289.1 bt289.2.1 bt289.2.2.1 0 (⟨#[]⟩ : ByteArray) ([] : List Int))))) else (none)) else (none)) = some r := by rw [if_pos rfl] at H; exact H
        clear H
        have H := H1
        clear H1
        by_cases c30 : 0 ≤ x4_1
        ·
         rw [if_pos c30] at H
         have c30b0 : decide (0 ≤ x4_1) = true := decide_eq_true c30
         clear c30
         by_cases c31 : x4_1 < (l0_4.length : Int)
         ·
          rw [if_pos c31] at H
          have c31b0 : decide (x4_1 < (l0_4.length : Int)) = true := decide_eq_true c31
          clear c31
          replace H := Option.bind_eq_some_iff.mp H
          obtain ⟨t287, A320, H⟩ := H
          replace H : ((split_Find.f kj24 a0_0 l0_1 a0_2 a0_3 (rd l0_4 x4_1)).bind fun bt289 => (if t282 = true then (if t287 ≥ 0 then (if 0 ≤ t287 then (if t287 < (l0_1.length : Int) then (thresherlaw12_SplitFinds.jw kj24 t282 x4_1 t287 0 bt289.2.2.2 a0_0 l0_1 a0_2 a0_3 l0_4 bt289.1 bt289.2.1 bt289.2.2.1 ((rd_T61 l0_1 t287).f0) ((rd_T61 l0_1 t287).f1) ((rd_T61 l0_1 t287).f2)) else none) else none) else (thresherlaw12_SplitFinds.jw kj24 t282 x4_1 t287 3 bt289.2.2.2 a0_0 l0_1 a0_2 a0_3 l0_4 bt289.1 bt289.2.1 bt289.2.2.1 0 (⟨#[]⟩ : ByteArray) ([] : List Int))) else (thresherlaw12_SplitFinds.jw kj24 t282 x4_1 t287 1 bt289.2.2.2 a0_0 l0_1 a0_2 a0_3 l0_4 bt289.1 bt289.2.1 bt289.2.2.1 0 (⟨#[]⟩ : ByteArray) ([] : List Int)))) = some r := H
          have A32 := Aside0.mk A320
          clear A320
          replace H := Option.bind_eq_some_iff.mp H
          obtain ⟨⟨t289, t290, t291, t294⟩, A330, H⟩ := H
          replace H : (if t282 = true then (if t287 ≥ 0 then (if 0 ≤ t287 then (if t287 < (l0_1.length : Int) then (thresherlaw12_SplitFinds.jw kj24 t282 x4_1 t287 0 t294 a0_0 l0_1 a0_2 a0_3 l0_4 t289 t290 t291 ((rd_T61 l0_1 t287).f0) ((rd_T61 l0_1 t287).f1) ((rd_T61 l0_1 t287).f2)) else none) else none) else (thresherlaw12_SplitFinds.jw kj24 t282 x4_1 t287 3 t294 a0_0 l0_1 a0_2 a0_3 l0_4 t289 t290 t291 0 (⟨#[]⟩ : ByteArray) ([] : List Int))) else (thresherlaw12_SplitFinds.jw kj24 t282 x4_1 t287 1 t294 a0_0 l0_1 a0_2 a0_3 l0_4 t289 t290 t291 0 (⟨#[]⟩ : ByteArray) ([] : List Int))) = some r := H
          have A33 := Aside0.mk A330
          clear A330
          have HC34 := Aside0.mk H
          clear H
          try go_wp2
          have n0_ := Aside0.mk (blk_drew BK280.out)
          have n1_ := Aside0.mk (below_drew1 HB.out)
          clear BK280
          clear HB
          have BK280 := n0_
          have HB := n1_
          clear n0_ n1_
          have p286 : 0 ≤ (x4_1 : Int) := dc_
          have q286 : x4_1 < (l0_4.length : Int) := dc_
          obtain ⟨ad286, e286, hx286_0⟩ := Kd.at_int HR0_4.out x4_1 p286 q286
          have hw286_0 := hx286_0
          cases e286
          replace hx286_0 := (HB.out.cell (World.block_lt_of_cell? w _ hx286_0)).trans hx286_0
          replace p286 := eq_true p286
          replace q286 := eq_true q286
          refine start_ (n := 9) (S := fun w' => w'.cell? ⟨gb280, 0, none⟩ = some (.int .i64 a0_0) ∧ w'.cell? ⟨gb280, 1, none⟩ = some (.slice A0_1 l0_1.length c0_1) ∧ w'.cell? ⟨gb280, 2, none⟩ = some (.int .i64 a0_2) ∧ w'.cell? ⟨gb280, 3, none⟩ = some (.int .i64 a0_3) ∧ w'.cell? ⟨gb280, 4, none⟩ = some (.slice (some ad286) l0_4.length c0_4) ∧ w'.cell? (ad286.add (x4_1).toNat) = some (.int .i64 (rd l0_4 x4_1))) (ds := []) #[false, false, false, false, false, false, false, false, false] (by kernel_rfl) rfl rfl ⟨bc_ BK280 0, bc_ BK280 1, bc_ BK280 2, bc_ BK280 3, bc_ BK280 4, ((HB.out.cell (World.block_lt_of_cell? w _ hw286_0)).trans hw286_0)⟩ (fun hHeld => ?_); refine with_tabW thresherlaw12_SplitFinds.tab9 thresherlaw12_SplitFinds.bits9 (fun HT_ HW_ => ?_)
          generalize wc.drew = w39 at BK280 HB hx286_0 hHeld ⊢
          refine pu HT_ 0 44 (zb 9 1) ?_
          refine pu HT_ 2 46 (zb 9 5) ?_
          refine pu HT_ 4 48 (zb 9 21) ?_
          refine tk HT_ HW_ hHeld 1 45 (zb 9 23) (hv := by rintro w' ⟨s0, s1, s2, s3, s4, s5⟩; go_simp; with_reducible rfl) (h := ?_)
          refine tk HT_ HW_ hHeld 3 47 (zb 9 31) (hv := by rintro w' ⟨s0, s1, s2, s3, s4, s5⟩; go_simp; with_reducible rfl) (h := ?_)
          refine pu HT_ 5 49 (zb 9 63) ?_
          refine tk HT_ HW_ hHeld 6 50 (zb 9 127) (hv := by rintro w' ⟨s0, s1, s2, s3, s4, s5⟩; go_simp; with_reducible rfl) (h := ?_)
          refine one_ (i := 7) (N := some 51) (zb 9 255) rfl rfl (one_of HT_.out (by kernel_rfl)) (by decide) (fun K hK => ?_)
          refine goes_ Try.func29 (by kernel_rfl) rfl #[.agg #[.int .i64 a0_0, .slice A0_1 l0_1.length c0_1, .int .i64 a0_2, .int .i64 a0_3], .int .i64 (rd l0_4 x4_1)] (by rfl) rfl rfl (by (try simp only [List.map_toArray, List.map_cons, List.map_nil]); first | done | rfl | (simp only [List.length_drop, List.length_take]; rfl)) ?_
          with_reducible refine (thresherref11_Find.calls kj24 a0_0 _ _ l0_1 a0_2 a0_3 (rd l0_4 x4_1) t287 _ ?side1 ?side2 A32.out).mono ?_
          (case side1 => repeat (first | exact (Kd.C_below HR0_1.out HB.out) | (with_reducible refine Kd.C_alloc ?_ _) | (with_reducible refine Kd.C_drewN ?_ _) | (with_reducible refine Kd.C_drew ?_)))
          (case side2 => exact HC0_1.out)
          rintro e w40 ⟨rfl, hb⟩
          refine ⟨_, rfl, ?_⟩
          have n0_ := Aside0.mk (blk_below (g := gb280) (o := .cells #[.int .i64 a0_0, .slice A0_1 l0_1.length c0_1, .int .i64 a0_2, .int .i64 a0_3, .slice (some ad286) l0_4.length c0_4] 57 (0, 0)) (bk_ BK280) hb)
          have n1_ := Aside0.mk (below_step (be_ HB) hb)
          clear BK280
          clear HB
          have BK280 := n0_
          have HB := n1_
          clear n0_ n1_
          (try clear hb)
          (try clear hb2)
          (try clear hk)
          (try clear hi)
          refine hK.out _ _ ⟨bc_ BK280 0, bc_ BK280 1, bc_ BK280 2, bc_ BK280 3, bc_ BK280 4, ((HB.out.cell (World.block_lt_of_cell? w _ hw286_0)).trans hw286_0)⟩ (fun hHeld => ?_)
          clear hK K
          refine nm 51 ?_
          refine pu HT_ 8 5 (zb 9 511) ?_
          refine done_ (done_of HT_.out (by kernel_rfl)) ?_
          try go_wp2
          have n0_ := Aside0.mk (blk_drew BK280.out)
          have n1_ := Aside0.mk (below_drew1 HB.out)
          clear BK280
          clear HB
          have BK280 := n0_
          have HB := n1_
          clear n0_ n1_
          have p288 : 0 ≤ (x4_1 : Int) := dc_
          have q288 : x4_1 < (l0_4.length : Int) := dc_
          obtain ⟨ad288, e288, hx288_0⟩ := Kd.at_int HR0_4.out x4_1 p288 q288
          have hw288_0 := hx288_0
          obtain rfl : ad286 = ad288 := (by injection e288)
          replace hx288_0 := (HB.out.cell (World.block_lt_of_cell? w _ hx288_0)).trans hx288_0
          replace p288 := eq_true p288
          replace q288 := eq_true q288
          refine start_ (n := 14) (S := fun w' => w'.cell? ⟨gb280, 0, none⟩ = some (.int .i64 a0_0) ∧ w'.cell? ⟨gb280, 1, none⟩ = some (.slice A0_1 l0_1.length c0_1) ∧ w'.cell? ⟨gb280, 2, none⟩ = some (.int .i64 a0_2) ∧ w'.cell? ⟨gb280, 3, none⟩ = some (.int .i64 a0_3) ∧ w'.cell? ⟨gb280, 4, none⟩ = some (.slice (some ad286) l0_4.length c0_4) ∧ w'.cell? (ad286.add (x4_1).toNat) = some (.int .i64 (rd l0_4 x4_1))) (ds := []) #[false, false, false, false, false, false, false, false, false, false, false, false, false, false] (by kernel_rfl) rfl rfl ⟨bc_ BK280 0, bc_ BK280 1, bc_ BK280 2, bc_ BK280 3, bc_ BK280 4, ((HB.out.cell (World.block_lt_of_cell? w _ hw288_0)).trans hw288_0)⟩ (fun hHeld => ?_); refine with_tabW thresherlaw12_SplitFinds.tab10 thresherlaw12_SplitFinds.bits10 (fun HT_ HW_ => ?_)
          generalize w40.drew = w41 at BK280 HB hx288_0 hHeld ⊢
          refine pu HT_ 0 53 (zb 14 1) ?_
          refine pu HT_ 2 55 (zb 14 5) ?_
          refine pu HT_ 4 57 (zb 14 21) ?_
          refine tk HT_ HW_ hHeld 1 54 (zb 14 23) (hv := by rintro w' ⟨s0, s1, s2, s3, s4, s5⟩; go_simp; with_reducible rfl) (h := ?_)
          refine tk HT_ HW_ hHeld 3 56 (zb 14 31) (hv := by rintro w' ⟨s0, s1, s2, s3, s4, s5⟩; go_simp; with_reducible rfl) (h := ?_)
          refine pu HT_ 5 58 (zb 14 63) ?_
          refine tk HT_ HW_ hHeld 6 59 (zb 14 127) (hv := by rintro w' ⟨s0, s1, s2, s3, s4, s5⟩; go_simp; with_reducible rfl) (h := ?_)
          refine join_ (σ := Value × Nat) 2 #[true, true, true, true, true, true, true, true, true, true, true, true, false, false] (fun s_ => [(60, .tuple #[.agg #[.int .i64 t289, .string t290, s_.1], .int .i64 t294]), (6, .pointer (some ⟨s_.2, 0, none⟩)), (52, .tuple #[.agg #[.int .i64 t289, .string t290, s_.1], .int .i64 t294]), (61, .agg #[.int .i64 t289, .string t290, s_.1]), (62, .int .i64 t294)]) (fun s_ w' => (w'.cell? ⟨gb280, 0, none⟩ = some (.int .i64 a0_0) ∧ w'.cell? ⟨gb280, 1, none⟩ = some (.slice A0_1 l0_1.length c0_1) ∧ w'.cell? ⟨gb280, 2, none⟩ = some (.int .i64 a0_2) ∧ w'.cell? ⟨gb280, 3, none⟩ = some (.int .i64 a0_3) ∧ w'.cell? ⟨gb280, 4, none⟩ = some (.slice (some ad286) l0_4.length c0_4) ∧ w'.cell? (ad286.add (x4_1).toNat) = some (.int .i64 (rd l0_4 x4_1))) ∧ (Kd.R (Kd.int .i64) 3 w' w.heap.size (fun _ => True) s_.1 t291) ∧ (w'.heap[gb280]? = some (.cells #[.int .i64 a0_0, .slice A0_1 l0_1.length c0_1, .int .i64 a0_2, .int .i64 a0_3, .slice (some ad286) l0_4.length c0_4] 57 (0, 0))) ∧ (w'.heap[s_.2]? = some (.cells #[.int .i64 0, .string (⟨#[]⟩ : ByteArray), .slice none 0 0] 61 (0, 0))) ∧ (w.heap.size ≤ s_.2) ∧ (w.heap.size ≤ s_.2) ∧ (gb280 ≠ s_.2) ∧ (s_.2 ≠ gb280) ∧ (Below w.heap.size w w')) ?_ ?_
          rotate_left
          ·
           intro hCont
           refine two_ (i := 7) (j := 11) (Ni := some 60) (Nj := some 6) #[true, true, true, true, true, true, true, true, false, false, false, false, false, false] #[true, true, true, true, true, true, true, false, false, false, false, true, false, false] rfl rfl rfl rfl (two_of HT_.out (by kernel_rfl)) (by decide) (by decide) (fun K hK => ?_) (fun K hK => ?_)
           ·
            skip
            refine goes_ Try.func30 (by kernel_rfl) rfl #[.agg #[.int .i64 a0_0, .slice A0_1 l0_1.length c0_1, .int .i64 a0_2, .int .i64 a0_3], .int .i64 (rd l0_4 x4_1)] (by rfl) rfl rfl (by (try simp only [List.map_toArray, List.map_cons, List.map_nil]); first | done | rfl | (simp only [List.length_drop, List.length_take]; rfl)) ?_
            with_reducible refine (split_Find.calls kj24 a0_0 _ _ l0_1 a0_2 a0_3 (rd l0_4 x4_1) t289 t290 t291 t294 _ ?side1 ?side2 A33.out).mono ?_
            (case side1 => repeat (first | exact (Kd.C_below HR0_1.out HB.out) | (with_reducible refine Kd.C_alloc ?_ _) | (with_reducible refine Kd.C_drewN ?_ _) | (with_reducible refine Kd.C_drew ?_)))
            (case side2 => exact HC0_1.out)
            rintro e w42 ⟨v292, rfl, ho0, hb⟩
            refine ⟨_, rfl, ?_⟩
            have n0_ := Aside0.mk (Kd.R_lower ho0 (below_size (be_ HB)))
            have n1_ := Aside0.mk (blk_below (g := gb280) (o := .cells #[.int .i64 a0_0, .slice A0_1 l0_1.length c0_1, .int .i64 a0_2, .int .i64 a0_3, .slice (some ad286) l0_4.length c0_4] 57 (0, 0)) (bk_ BK280) hb)
            have n2_ := Aside0.mk (below_step (be_ HB) hb)
            clear BK280
            clear HB
            have HO293 := n0_
            have BK280 := n1_
            have HB := n2_
            clear n0_ n1_ n2_
            (try clear hb)
            (try clear hb2)
            (try clear hk)
            (try clear hi)
            (try clear ho0)
            refine hK.out _ _ ⟨bc_ BK280 0, bc_ BK280 1, bc_ BK280 2, bc_ BK280 3, bc_ BK280 4, ((HB.out.cell (World.block_lt_of_cell? w _ hw288_0)).trans hw288_0)⟩ (fun hHeld => ?_)
            clear hK K
            refine nm 60 ?_
            refine pu HT_ 8 52 (zb 14 511) ?_
            refine pu HT_ 9 61 (zb 14 1023) ?_
            refine pu HT_ 10 62 (zb 14 2047) ?_
            refine one_ (i := 11) (N := some 6) (zb 14 4095) rfl rfl (one_of HT_.out (by kernel_rfl)) (by decide) (fun K hK => ?_)
            refine box_step ?hg (N := 6) ?hd (cs := #[.int .i64 0, .string (⟨#[]⟩ : ByteArray), .slice none 0 0]) (t := 61) ?hr ?_; (case hd => rfl); (case hg => rfl); (case hr => first | (go_simp; done) | (go_simp; rfl))
            intro gb295 hg w43 hbox hb
            have n0_ := Aside0.mk (Kd.R_below (ro_ HO293) hb)
            have n1_ := Aside0.mk (blk_below (g := gb280) (o := .cells #[.int .i64 a0_0, .slice A0_1 l0_1.length c0_1, .int .i64 a0_2, .int .i64 a0_3, .slice (some ad286) l0_4.length c0_4] 57 (0, 0)) (bk_ BK280) hb)
            have n2_ := Aside0.mk (below_step (be_ HB) hb)
            have n3_ := Aside0.mk (hbox)
            have n4_ := Aside0.mk ((by rw [hg]; exact (below_size (be_ HB)) : w.heap.size ≤ gb295))
            have n5_ := Aside0.mk ((by rw [hg]; exact (below_size (be_ HB)) : w.heap.size ≤ gb295))
            have n6_ := Aside0.mk ((by rw [hg]; exact Nat.ne_of_lt (blk_lt (g := gb280) (o := .cells #[.int .i64 a0_0, .slice A0_1 l0_1.length c0_1, .int .i64 a0_2, .int .i64 a0_3, .slice (some ad286) l0_4.length c0_4] 57 (0, 0)) (bk_ BK280)) : gb280 ≠ gb295))
            have n7_ := Aside0.mk ((by rw [hg]; exact Nat.ne_of_gt (blk_lt (g := gb280) (o := .cells #[.int .i64 a0_0, .slice A0_1 l0_1.length c0_1, .int .i64 a0_2, .int .i64 a0_3, .slice (some ad286) l0_4.length c0_4] 57 (0, 0)) (bk_ BK280)) : gb295 ≠ gb280))
            clear HO293
            clear BK280
            clear HB
            have HO293 := n0_
            have BK280 := n1_
            have HB := n2_
            have BK295 := n3_
            have GW295 := n4_
            have GE295 := n5_
            have NB280_295 := n6_
            have NB295_280 := n7_
            clear n0_ n1_ n2_ n3_ n4_ n5_ n6_ n7_
            clear hb hbox hg
            refine hK.out _ _ ⟨bc_ BK280 0, bc_ BK280 1, bc_ BK280 2, bc_ BK280 3, bc_ BK280 4, ((HB.out.cell (World.block_lt_of_cell? w _ hw288_0)).trans hw288_0)⟩ (fun hHeld => ?_)
            clear hK K
            refine nm 6 ?_
            exact norm_ (by simp only [putAll, Act.put, List.setIfInBounds_toArray, List.set_cons_zero, List.set_cons_succ]) (hCont (v292, gb295) _ ⟨hHeld, (ro_ HO293), (bk_ BK280), (bk_ BK295), GW295.out, GE295.out, NB280_295.out, NB295_280.out, (be_ HB)⟩)
           ·
            skip
            refine box_step ?hg (N := 6) ?hd (cs := #[.int .i64 0, .string (⟨#[]⟩ : ByteArray), .slice none 0 0]) (t := 61) ?hr ?_; (case hd => rfl); (case hg => rfl); (case hr => first | (go_simp; done) | (go_simp; rfl))
            intro gb295 hg w42 hbox hb
            have n0_ := Aside0.mk (blk_below (g := gb280) (o := .cells #[.int .i64 a0_0, .slice A0_1 l0_1.length c0_1, .int .i64 a0_2, .int .i64 a0_3, .slice (some ad286) l0_4.length c0_4] 57 (0, 0)) (bk_ BK280) hb)
            have n1_ := Aside0.mk (below_step (be_ HB) hb)
            have n2_ := Aside0.mk (hbox)
            have n3_ := Aside0.mk ((by rw [hg]; exact (below_size (be_ HB)) : w.heap.size ≤ gb295))
            have n4_ := Aside0.mk ((by rw [hg]; exact (below_size (be_ HB)) : w.heap.size ≤ gb295))
            have n5_ := Aside0.mk ((by rw [hg]; exact Nat.ne_of_lt (blk_lt (g := gb280) (o := .cells #[.int .i64 a0_0, .slice A0_1 l0_1.length c0_1, .int .i64 a0_2, .int .i64 a0_3, .slice (some ad286) l0_4.length c0_4] 57 (0, 0)) (bk_ BK280)) : gb280 ≠ gb295))
            have n6_ := Aside0.mk ((by rw [hg]; exact Nat.ne_of_gt (blk_lt (g := gb280) (o := .cells #[.int .i64 a0_0, .slice A0_1 l0_1.length c0_1, .int .i64 a0_2, .int .i64 a0_3, .slice (some ad286) l0_4.length c0_4] 57 (0, 0)) (bk_ BK280)) : gb295 ≠ gb280))
            clear BK280
            clear HB
            have BK280 := n0_
            have HB := n1_
            have BK295 := n2_
            have GW295 := n3_
            have GE295 := n4_
            have NB280_295 := n5_
            have NB295_280 := n6_
            clear n0_ n1_ n2_ n3_ n4_ n5_ n6_
            clear hb hbox hg
            refine hK.out _ _ ⟨bc_ BK280 0, bc_ BK280 1, bc_ BK280 2, bc_ BK280 3, bc_ BK280 4, ((HB.out.cell (World.block_lt_of_cell? w _ hw288_0)).trans hw288_0)⟩ (fun hHeld => ?_)
            clear hK K
            refine nm 6 ?_
            refine one_ (i := 7) (N := some 60) (zb 14 2303) rfl rfl (one_of HT_.out (by kernel_rfl)) (by decide) (fun K hK => ?_)
            refine goes_ Try.func30 (by kernel_rfl) rfl #[.agg #[.int .i64 a0_0, .slice A0_1 l0_1.length c0_1, .int .i64 a0_2, .int .i64 a0_3], .int .i64 (rd l0_4 x4_1)] (by rfl) rfl rfl (by (try simp only [List.map_toArray, List.map_cons, List.map_nil]); first | done | rfl | (simp only [List.length_drop, List.length_take]; rfl)) ?_
            with_reducible refine (split_Find.calls kj24 a0_0 _ _ l0_1 a0_2 a0_3 (rd l0_4 x4_1) t289 t290 t291 t294 _ ?side1 ?side2 A33.out).mono ?_
            (case side1 => repeat (first | exact (Kd.C_below HR0_1.out HB.out) | (with_reducible refine Kd.C_alloc ?_ _) | (with_reducible refine Kd.C_drewN ?_ _) | (with_reducible refine Kd.C_drew ?_)))
            (case side2 => exact HC0_1.out)
            rintro e w43 ⟨v292, rfl, ho0, hb⟩
            refine ⟨_, rfl, ?_⟩
            have n0_ := Aside0.mk (Kd.R_lower ho0 (below_size (be_ HB)))
            have n1_ := Aside0.mk (blk_below (g := gb280) (o := .cells #[.int .i64 a0_0, .slice A0_1 l0_1.length c0_1, .int .i64 a0_2, .int .i64 a0_3, .slice (some ad286) l0_4.length c0_4] 57 (0, 0)) (bk_ BK280) hb)
            have n2_ := Aside0.mk (blk_below (g := gb295) (o := .cells #[.int .i64 0, .string (⟨#[]⟩ : ByteArray), .slice none 0 0] 61 (0, 0)) (bk_ BK295) hb)
            have n3_ := Aside0.mk (below_step (be_ HB) hb)
            clear BK280
            clear BK295
            clear HB
            have HO293 := n0_
            have BK280 := n1_
            have BK295 := n2_
            have HB := n3_
            clear n0_ n1_ n2_ n3_
            (try clear hb)
            (try clear hb2)
            (try clear hk)
            (try clear hi)
            (try clear ho0)
            refine hK.out _ _ ⟨bc_ BK280 0, bc_ BK280 1, bc_ BK280 2, bc_ BK280 3, bc_ BK280 4, ((HB.out.cell (World.block_lt_of_cell? w _ hw288_0)).trans hw288_0)⟩ (fun hHeld => ?_)
            clear hK K
            refine nm 60 ?_
            refine pu HT_ 8 52 (zb 14 2559) ?_
            refine pu HT_ 9 61 (zb 14 3071) ?_
            refine pu HT_ 10 62 (zb 14 4095) ?_
            exact norm_ (by simp only [putAll, Act.put, List.setIfInBounds_toArray, List.set_cons_zero, List.set_cons_succ]) (hCont (v292, gb295) _ ⟨hHeld, (ro_ HO293), (bk_ BK280), (bk_ BK295), GW295.out, GE295.out, NB280_295.out, NB295_280.out, (be_ HB)⟩)
          rintro ⟨v292, gb295⟩ w44 ⟨hS_, h0_, h1_, h2_, h3_, h4_, h5_, h6_, h7_⟩
          have n0_ : Aside0 (Kd.R (Kd.int .i64) 3 w44 w.heap.size (fun _ => True) v292 t291) := ⟨h0_⟩
          have n1_ : Aside0 (w44.heap[gb280]? = some (.cells #[.int .i64 a0_0, .slice A0_1 l0_1.length c0_1, .int .i64 a0_2, .int .i64 a0_3, .slice (some ad286) l0_4.length c0_4] 57 (0, 0))) := ⟨h1_⟩
          have n2_ : Aside0 (w44.heap[gb295]? = some (.cells #[.int .i64 0, .string (⟨#[]⟩ : ByteArray), .slice none 0 0] 61 (0, 0))) := ⟨h2_⟩
          have n3_ : Aside0 (w.heap.size ≤ gb295) := ⟨h3_⟩
          have n4_ : Aside0 (w.heap.size ≤ gb295) := ⟨h4_⟩
          have n5_ : Aside0 (gb280 ≠ gb295) := ⟨h5_⟩
          have n6_ : Aside0 (gb295 ≠ gb280) := ⟨h6_⟩
          have n7_ : Aside0 (Below w.heap.size w w44) := ⟨h7_⟩
          clear BK280
          clear HB
          clear h0_ h1_ h2_ h3_ h4_ h5_ h6_ h7_
          have HO293 := n0_
          have BK280 := n1_
          have BK295 := n2_
          have GW295 := n3_
          have GE295 := n4_
          have NB280_295 := n5_
          have NB295_280 := n6_
          have HB := n7_
          clear n0_ n1_ n2_ n3_ n4_ n5_ n6_ n7_
          have hHeld : w44.cell? ⟨gb280, 0, none⟩ = some (.int .i64 a0_0) ∧ w44.cell? ⟨gb280, 1, none⟩ = some (.slice A0_1 l0_1.length c0_1) ∧ w44.cell? ⟨gb280, 2, none⟩ = some (.int .i64 a0_2) ∧ w44.cell? ⟨gb280, 3, none⟩ = some (.int .i64 a0_3) ∧ w44.cell? ⟨gb280, 4, none⟩ = some (.slice (some ad286) l0_4.length c0_4) ∧ w44.cell? (ad286.add (x4_1).toNat) = some (.int .i64 (rd l0_4 x4_1)) := hS_
          obtain ⟨Ao47, co47, eo47⟩ := Kd.R_slice HO293.out
          (first | subst eo47 | (injection eo47 with f1_ f2_ f3_; have f4_ := f1_.symm; have f5_ := f3_.symm; clear f1_ f2_ f3_; subst f4_; subst f5_))
          refine norm_ (a' := ?_) ?_ ?_
          rotate_left
          ·
           simp only [putAll, Act.put, List.setIfInBounds_toArray, List.set_cons_zero, List.set_cons_succ]
           rfl
          refine one_ (i := 12) (N := none) (zb 14 8191) rfl rfl (one_of HT_.out (by kernel_rfl)) (by decide) (fun K hK => ?_)
          have hs45 : w44.cell? ⟨gb295, 0, none⟩ = some (.int .i64 0) := bc_ BK295 0
          have hfs45 := blk_frozen BK295.out 0
          have hns45_0 := NB280_295.out
          have hms45_0 := NB295_280.out
          have hs46 : w44.cell? ⟨gb295, 1, none⟩ = some (.string (⟨#[]⟩ : ByteArray)) := bc_ BK295 1
          have hfs46 := blk_frozen BK295.out 1
          have hns46_0 := NB280_295.out
          have hms46_0 := NB295_280.out
          have hs48 : w44.cell? ⟨gb295, 2, none⟩ = some (.slice none 0 0) := bc_ BK295 2
          have hfs48 := blk_frozen BK295.out 2
          have hns48_0 := NB280_295.out
          have hms48_0 := NB295_280.out
          refine skip_ (w1 := ?_) (by rfl) rfl ?_ ?_
          rotate_left
          ·
           go_simp
           rfl
          refine hK.out _ _ ⟨((cell_far (p := ⟨gb295, _, none⟩) NB280_295.out _).trans (((cell_far (p := ⟨gb295, _, none⟩) NB280_295.out _).trans (((cell_far (p := ⟨gb295, _, none⟩) NB280_295.out _).trans (hHeld.1)))))), ((cell_far (p := ⟨gb295, _, none⟩) NB280_295.out _).trans (((cell_far (p := ⟨gb295, _, none⟩) NB280_295.out _).trans (((cell_far (p := ⟨gb295, _, none⟩) NB280_295.out _).trans (hHeld.2.1)))))), ((cell_far (p := ⟨gb295, _, none⟩) NB280_295.out _).trans (((cell_far (p := ⟨gb295, _, none⟩) NB280_295.out _).trans (((cell_far (p := ⟨gb295, _, none⟩) NB280_295.out _).trans (hHeld.2.2.1)))))), ((cell_far (p := ⟨gb295, _, none⟩) NB280_295.out _).trans (((cell_far (p := ⟨gb295, _, none⟩) NB280_295.out _).trans (((cell_far (p := ⟨gb295, _, none⟩) NB280_295.out _).trans (hHeld.2.2.2.1)))))), ((cell_far (p := ⟨gb295, _, none⟩) NB280_295.out _).trans (((cell_far (p := ⟨gb295, _, none⟩) NB280_295.out _).trans (((cell_far (p := ⟨gb295, _, none⟩) NB280_295.out _).trans (hHeld.2.2.2.2.1)))))), ((cell_far (p := ⟨gb295, _, none⟩) (by first | exact Nat.ne_of_lt (Nat.lt_of_lt_of_le (by have := World.block_lt_of_cell? _ _ hw288_0; first | rwa [add_block] at this | exact this) GW295.out) | (rw [add_block]; exact Nat.ne_of_lt (Nat.lt_of_lt_of_le (by have := World.block_lt_of_cell? _ _ hw288_0; first | rwa [add_block] at this | exact this) GW295.out)) | (show (Addr.add _ _).block ≠ _; rw [add_block]; exact Nat.ne_of_lt (Nat.lt_of_lt_of_le (by have := World.block_lt_of_cell? _ _ hw288_0; first | rwa [add_block] at this | exact this) GW295.out)) | (dsimp only; exact Nat.ne_of_lt (Nat.lt_of_lt_of_le (by have := World.block_lt_of_cell? _ _ hw288_0; first | rwa [add_block] at this | exact this) GW295.out))) _).trans (((cell_far (p := ⟨gb295, _, none⟩) (by first | exact Nat.ne_of_lt (Nat.lt_of_lt_of_le (by have := World.block_lt_of_cell? _ _ hw288_0; first | rwa [add_block] at this | exact this) GW295.out) | (rw [add_block]; exact Nat.ne_of_lt (Nat.lt_of_lt_of_le (by have := World.block_lt_of_cell? _ _ hw288_0; first | rwa [add_block] at this | exact this) GW295.out)) | (show (Addr.add _ _).block ≠ _; rw [add_block]; exact Nat.ne_of_lt (Nat.lt_of_lt_of_le (by have := World.block_lt_of_cell? _ _ hw288_0; first | rwa [add_block] at this | exact this) GW295.out)) | (dsimp only; exact Nat.ne_of_lt (Nat.lt_of_lt_of_le (by have := World.block_lt_of_cell? _ _ hw288_0; first | rwa [add_block] at this | exact this) GW295.out))) _).trans (((cell_far (p := ⟨gb295, _, none⟩) (by first | exact Nat.ne_of_lt (Nat.lt_of_lt_of_le (by have := World.block_lt_of_cell? _ _ hw288_0; first | rwa [add_block] at this | exact this) GW295.out) | (rw [add_block]; exact Nat.ne_of_lt (Nat.lt_of_lt_of_le (by have := World.block_lt_of_cell? _ _ hw288_0; first | rwa [add_block] at this | exact this) GW295.out)) | (show (Addr.add _ _).block ≠ _; rw [add_block]; exact Nat.ne_of_lt (Nat.lt_of_lt_of_le (by have := World.block_lt_of_cell? _ _ hw288_0; first | rwa [add_block] at this | exact this) GW295.out)) | (dsimp only; exact Nat.ne_of_lt (Nat.lt_of_lt_of_le (by have := World.block_lt_of_cell? _ _ hw288_0; first | rwa [add_block] at this | exact this) GW295.out))) _).trans (hHeld.2.2.2.2.2))))))⟩ (fun hHeld => ?_)
          clear hK K
          refine pu HT_ 13 7 (zb 14 16383) ?_
          refine done_ (done_of HT_.out (by kernel_rfl)) ?_
          go_upto_if 64 with (first | ((with_reducible refine gate_dst (N := 9) rfl ?_); refine box_event ?hg (N := 9) ?hd (cs := #[.int .i64 0, .string (⟨#[]⟩ : ByteArray), .slice none 0 0]) (t := 61) ?hr ?_; (case hd => rfl); (case hg => rfl); (case hr => first | (go_simp; done) | (go_simp; rfl)); intro gb296 hg w49 hbox hb; have n0_ := Aside0.mk (Kd.R_below (by (with_reducible repeat (first | apply Kd.R_alloc | apply Kd.R_drewN | apply Kd.R_drew)); exact (Kd.R_mono (Kd.R_far (p := ⟨gb295, 2, none⟩) (Kd.R_far (p := ⟨gb295, 1, none⟩) (Kd.R_far (p := ⟨gb295, 0, none⟩) (Kd.R_types HO293.out BK295.out (by decide)) (fun _ hk => hk.2) (.int .i64 t289)) (fun _ hk => hk.2) (.string t290)) (fun _ hk => hk.2) (.slice Ao47 t291.length co47)) (fun _ h_ => h_.1))) hb); have n1_ := Aside0.mk (blk_below (g := gb280) (o := .cells #[.int .i64 a0_0, .slice A0_1 l0_1.length c0_1, .int .i64 a0_2, .int .i64 a0_3, .slice (some ad286) l0_4.length c0_4] 57 (0, 0)) (by (with_reducible repeat (first | refine blk_drewN ?_ _ | refine blk_drew ?_ | refine blk_alloc ?_ _)); refine blk_far ?_ NB280_295.out _; (with_reducible repeat (first | refine blk_drewN ?_ _ | refine blk_drew ?_ | refine blk_alloc ?_ _)); refine blk_far ?_ NB280_295.out _; (with_reducible repeat (first | refine blk_drewN ?_ _ | refine blk_drew ?_ | refine blk_alloc ?_ _)); refine blk_far ?_ NB280_295.out _; (with_reducible repeat (first | refine blk_drewN ?_ _ | refine blk_drew ?_ | refine blk_alloc ?_ _)); exact BK280.out) hb); have n2_ := Aside0.mk (blk_below (g := gb295) (o := .cells #[.int .i64 t289, .string t290, .slice Ao47 t291.length co47] 61 (0, 0)) (by (with_reducible repeat (first | refine blk_drewN ?_ _ | refine blk_drew ?_ | refine blk_alloc ?_ _)); refine blk_put (cs := #[.int .i64 t289, .string t290, .slice none 0 0]) ?_ 2 _ rfl; (with_reducible repeat (first | refine blk_drewN ?_ _ | refine blk_drew ?_ | refine blk_alloc ?_ _)); refine blk_put (cs := #[.int .i64 t289, .string (⟨#[]⟩ : ByteArray), .slice none 0 0]) ?_ 1 _ rfl; (with_reducible repeat (first | refine blk_drewN ?_ _ | refine blk_drew ?_ | refine blk_alloc ?_ _)); refine blk_put (cs := #[.int .i64 0, .string (⟨#[]⟩ : ByteArray), .slice none 0 0]) ?_ 0 _ rfl; (with_reducible repeat (first | refine blk_drewN ?_ _ | refine blk_drew ?_ | refine blk_alloc ?_ _)); exact BK295.out) hb); have n3_ := Aside0.mk (below_step (be_ HB) hb); have n4_ := Aside0.mk (hbox); have n5_ := Aside0.mk ((by rw [hg]; exact (below_size (be_ HB)) : w.heap.size ≤ gb296)); have n6_ := Aside0.mk ((by rw [hg]; exact (below_size (be_ HB)) : w.heap.size ≤ gb296)); have n7_ := Aside0.mk ((by rw [hg]; exact Nat.ne_of_lt (blk_lt (g := gb280) (o := .cells #[.int .i64 a0_0, .slice A0_1 l0_1.length c0_1, .int .i64 a0_2, .int .i64 a0_3, .slice (some ad286) l0_4.length c0_4] 57 (0, 0)) (by (with_reducible repeat (first | refine blk_drewN ?_ _ | refine blk_drew ?_ | refine blk_alloc ?_ _)); refine blk_far ?_ NB280_295.out _; (with_reducible repeat (first | refine blk_drewN ?_ _ | refine blk_drew ?_ | refine blk_alloc ?_ _)); refine blk_far ?_ NB280_295.out _; (with_reducible repeat (first | refine blk_drewN ?_ _ | refine blk_drew ?_ | refine blk_alloc ?_ _)); refine blk_far ?_ NB280_295.out _; (with_reducible repeat (first | refine blk_drewN ?_ _ | refine blk_drew ?_ | refine blk_alloc ?_ _)); exact BK280.out)) : gb280 ≠ gb296)); have n8_ := Aside0.mk ((by rw [hg]; exact Nat.ne_of_gt (blk_lt (g := gb280) (o := .cells #[.int .i64 a0_0, .slice A0_1 l0_1.length c0_1, .int .i64 a0_2, .int .i64 a0_3, .slice (some ad286) l0_4.length c0_4] 57 (0, 0)) (by (with_reducible repeat (first | refine blk_drewN ?_ _ | refine blk_drew ?_ | refine blk_alloc ?_ _)); refine blk_far ?_ NB280_295.out _; (with_reducible repeat (first | refine blk_drewN ?_ _ | refine blk_drew ?_ | refine blk_alloc ?_ _)); refine blk_far ?_ NB280_295.out _; (with_reducible repeat (first | refine blk_drewN ?_ _ | refine blk_drew ?_ | refine blk_alloc ?_ _)); refine blk_far ?_ NB280_295.out _; (with_reducible repeat (first | refine blk_drewN ?_ _ | refine blk_drew ?_ | refine blk_alloc ?_ _)); exact BK280.out)) : gb296 ≠ gb280)); have n9_ := Aside0.mk ((by rw [hg]; exact Nat.ne_of_lt (blk_lt (g := gb295) (o := .cells #[.int .i64 t289, .string t290, .slice Ao47 t291.length co47] 61 (0, 0)) (by (with_reducible repeat (first | refine blk_drewN ?_ _ | refine blk_drew ?_ | refine blk_alloc ?_ _)); refine blk_put (cs := #[.int .i64 t289, .string t290, .slice none 0 0]) ?_ 2 _ rfl; (with_reducible repeat (first | refine blk_drewN ?_ _ | refine blk_drew ?_ | refine blk_alloc ?_ _)); refine blk_put (cs := #[.int .i64 t289, .string (⟨#[]⟩ : ByteArray), .slice none 0 0]) ?_ 1 _ rfl; (with_reducible repeat (first | refine blk_drewN ?_ _ | refine blk_drew ?_ | refine blk_alloc ?_ _)); refine blk_put (cs := #[.int .i64 0, .string (⟨#[]⟩ : ByteArray), .slice none 0 0]) ?_ 0 _ rfl; (with_reducible repeat (first | refine blk_drewN ?_ _ | refine blk_drew ?_ | refine blk_alloc ?_ _)); exact BK295.out)) : gb295 ≠ gb296)); have n10_ := Aside0.mk ((by rw [hg]; exact Nat.ne_of_gt (blk_lt (g := gb295) (o := .cells #[.int .i64 t289, .string t290, .slice Ao47 t291.length co47] 61 (0, 0)) (by (with_reducible repeat (first | refine blk_drewN ?_ _ | refine blk_drew ?_ | refine blk_alloc ?_ _)); refine blk_put (cs := #[.int .i64 t289, .string t290, .slice none 0 0]) ?_ 2 _ rfl; (with_reducible repeat (first | refine blk_drewN ?_ _ | refine blk_drew ?_ | refine blk_alloc ?_ _)); refine blk_put (cs := #[.int .i64 t289, .string (⟨#[]⟩ : ByteArray), .slice none 0 0]) ?_ 1 _ rfl; (with_reducible repeat (first | refine blk_drewN ?_ _ | refine blk_drew ?_ | refine blk_alloc ?_ _)); refine blk_put (cs := #[.int .i64 0, .string (⟨#[]⟩ : ByteArray), .slice none 0 0]) ?_ 0 _ rfl; (with_reducible repeat (first | refine blk_drewN ?_ _ | refine blk_drew ?_ | refine blk_alloc ?_ _)); exact BK295.out)) : gb296 ≠ gb295)); clear HO293; clear BK280; clear BK295; clear HB; have HO293 := n0_; have BK280 := n1_; have BK295 := n2_; have HB := n3_; have BK296 := n4_; have GW296 := n5_; have GE296 := n6_; have NB280_296 := n7_; have NB296_280 := n8_; have NB295_296 := n9_; have NB296_295 := n10_; clear n0_ n1_ n2_ n3_ n4_ n5_ n6_ n7_ n8_ n9_ n10_; clear hb hbox hg; have hnb50 := NB296_280.out; have hnc50 := NB280_296.out; have hnb51 := NB296_295.out; have hnc51 := NB295_296.out; have hcz52_0 : w49.cell? ⟨gb296, 0, none⟩ = some (.int .i64 0) := bc_ BK296 0; have hcz52_1 : w49.cell? ⟨gb296, 1, none⟩ = some (.string (⟨#[]⟩ : ByteArray)) := bc_ BK296 1; have hcz52_2 : w49.cell? ⟨gb296, 2, none⟩ = some (.slice none 0 0) := bc_ BK296 2; have hfz52_0 := blk_frozen BK296.out 0; have hfz52_1 := blk_frozen BK296.out 1; have hfz52_2 := blk_frozen BK296.out 2))
          have n0_ : Aside0 (Kd.R (Kd.int .i64) 3 (((w49.setCell ⟨gb296, 0, none⟩ (.int .i64 0)).setCell ⟨gb296, 1, none⟩ (.string (⟨#[]⟩ : ByteArray))).setCell ⟨gb296, 2, none⟩ (.slice none 0 0)) w.heap.size (fun _ => True) (.slice Ao47 t291.length co47) t291) := ⟨by (with_reducible repeat (first | apply Kd.R_alloc | apply Kd.R_drewN | apply Kd.R_drew)); exact Kd.R_mono (Kd.R_far (p := ⟨gb296, 2, none⟩) (Kd.R_far (p := ⟨gb296, 1, none⟩) (Kd.R_far (p := ⟨gb296, 0, none⟩) (Kd.R_types HO293.out BK296.out (by decide)) (fun _ hk => hk.2) (.int .i64 0)) (fun _ hk => hk.2) (.string (⟨#[]⟩ : ByteArray))) (fun _ hk => hk.2) (.slice none 0 0)) (fun _ hk => trivial)⟩
          have n1_ : Aside0 ((((w49.setCell ⟨gb296, 0, none⟩ (.int .i64 0)).setCell ⟨gb296, 1, none⟩ (.string (⟨#[]⟩ : ByteArray))).setCell ⟨gb296, 2, none⟩ (.slice none 0 0)).heap[gb280]? = some (.cells #[.int .i64 a0_0, .slice A0_1 l0_1.length c0_1, .int .i64 a0_2, .int .i64 a0_3, .slice (some ad286) l0_4.length c0_4] 57 (0, 0))) := ⟨by (with_reducible repeat (first | refine blk_drewN ?_ _ | refine blk_drew ?_ | refine blk_alloc ?_ _)); refine blk_far ?_ NB280_296.out _; (with_reducible repeat (first | refine blk_drewN ?_ _ | refine blk_drew ?_ | refine blk_alloc ?_ _)); refine blk_far ?_ NB280_296.out _; (with_reducible repeat (first | refine blk_drewN ?_ _ | refine blk_drew ?_ | refine blk_alloc ?_ _)); refine blk_far ?_ NB280_296.out _; (with_reducible repeat (first | refine blk_drewN ?_ _ | refine blk_drew ?_ | refine blk_alloc ?_ _)); exact BK280.out⟩
          have n2_ : Aside0 ((((w49.setCell ⟨gb296, 0, none⟩ (.int .i64 0)).setCell ⟨gb296, 1, none⟩ (.string (⟨#[]⟩ : ByteArray))).setCell ⟨gb296, 2, none⟩ (.slice none 0 0)).heap[gb295]? = some (.cells #[.int .i64 t289, .string t290, .slice Ao47 t291.length co47] 61 (0, 0))) := ⟨by (with_reducible repeat (first | refine blk_drewN ?_ _ | refine blk_drew ?_ | refine blk_alloc ?_ _)); refine blk_far ?_ NB295_296.out _; (with_reducible repeat (first | refine blk_drewN ?_ _ | refine blk_drew ?_ | refine blk_alloc ?_ _)); refine blk_far ?_ NB295_296.out _; (with_reducible repeat (first | refine blk_drewN ?_ _ | refine blk_drew ?_ | refine blk_alloc ?_ _)); refine blk_far ?_ NB295_296.out _; (with_reducible repeat (first | refine blk_drewN ?_ _ | refine blk_drew ?_ | refine blk_alloc ?_ _)); exact BK295.out⟩
          have n3_ : Aside0 ((((w49.setCell ⟨gb296, 0, none⟩ (.int .i64 0)).setCell ⟨gb296, 1, none⟩ (.string (⟨#[]⟩ : ByteArray))).setCell ⟨gb296, 2, none⟩ (.slice none 0 0)).heap[gb296]? = some (.cells #[.int .i64 0, .string (⟨#[]⟩ : ByteArray), .slice none 0 0] 61 (0, 0))) := ⟨by (with_reducible repeat (first | refine blk_drewN ?_ _ | refine blk_drew ?_ | refine blk_alloc ?_ _)); refine blk_put (cs := #[.int .i64 0, .string (⟨#[]⟩ : ByteArray), .slice none 0 0]) ?_ 2 _ rfl; (with_reducible repeat (first | refine blk_drewN ?_ _ | refine blk_drew ?_ | refine blk_alloc ?_ _)); refine blk_put (cs := #[.int .i64 0, .string (⟨#[]⟩ : ByteArray), .slice none 0 0]) ?_ 1 _ rfl; (with_reducible repeat (first | refine blk_drewN ?_ _ | refine blk_drew ?_ | refine blk_alloc ?_ _)); refine blk_put (cs := #[.int .i64 0, .string (⟨#[]⟩ : ByteArray), .slice none 0 0]) ?_ 0 _ rfl; (with_reducible repeat (first | refine blk_drewN ?_ _ | refine blk_drew ?_ | refine blk_alloc ?_ _)); exact BK296.out⟩
          have n4_ : Aside0 (Below w.heap.size w (((w49.setCell ⟨gb296, 0, none⟩ (.int .i64 0)).setCell ⟨gb296, 1, none⟩ (.string (⟨#[]⟩ : ByteArray))).setCell ⟨gb296, 2, none⟩ (.slice none 0 0))) := ⟨be_ HB⟩
          (try clear HO293)
          (try clear BK280)
          (try clear BK295)
          (try clear BK296)
          (try clear HB)
          generalize (((w49.setCell ⟨gb296, 0, none⟩ (.int .i64 0)).setCell ⟨gb296, 1, none⟩ (.string (⟨#[]⟩ : ByteArray))).setCell ⟨gb296, 2, none⟩ (.slice none 0 0)) = w53 at n0_ n1_ n2_ n3_ n4_ ⊢
          have HO293 := n0_
          have BK280 := n1_
          have BK295 := n2_
          have BK296 := n3_
          have HB := n4_
          clear n0_ n1_ n2_ n3_ n4_
          (try simp only [Act.put, List.setIfInBounds_toArray, List.set_cons_zero, List.set_cons_succ])
          go_cut [8] (fun v8 wc => ∃ (kq : Nat) (bad y0 : Int) (y1 : ByteArray) (y2 : List Int) (A2 : Option Addr) (c2 : Nat), v8 = .int .i64 bad ∧ Aside0 (thresherlaw12_SplitFinds.jw kq t282 x4_1 t287 bad t294 a0_0 l0_1 a0_2 a0_3 l0_4 t289 t290 t291 y0 y1 y2 = some r) ∧ Aside0 (kq ≤ kj24) ∧ Aside0 (Kd.R (Kd.int .i64) 3 wc w.heap.size (fun _ => True) (.slice Ao47 t291.length co47) t291) ∧ Aside0 (wc.heap[gb280]? = some (.cells #[.int .i64 a0_0, (.slice A0_1 l0_1.length c0_1), .int .i64 a0_2, .int .i64 a0_3, (.slice (some ad286) l0_4.length c0_4)] 57 (0, 0))) ∧ Aside0 (wc.heap[gb295]? = some (.cells #[.int .i64 t289, .string t290, (.slice Ao47 t291.length co47)] 61 (0, 0))) ∧ Aside0 (wc.heap[gb296]? = some (.cells #[.int .i64 y0, .string y1, (.slice A2 y2.length c2)] 61 (0, 0))) ∧ Aside0 (Kd.C (Kd.int .i64) wc A2 y2.length y2) ∧ Aside0 (y2.length ≤ c2) ∧ Aside0 (Below w.heap.size w wc))
          case first =>
           as_aux_lemma =>
           have H := HC34.out
           clear HC34
           by_cases c34 : t282 = true
           ·
            rw [if_pos c34] at H
            subst c34
            by_cases c35 : t287 ≥ 0
            ·
             rw [if_pos c35] at H
             have c35b0 : decide (0 ≤ t287) = true := decide_eq_true c35
             clear c35
             by_cases c36 : 0 ≤ t287
             ·
              rw [if_pos c36] at H
              have c36b0 : decide (0 ≤ t287) = true := decide_eq_true c36
              clear c36
              by_cases c37 : t287 < (l0_1.length : Int)
              ·
               rw [if_pos c37] at H
               have c37b0 : decide (t287 < (l0_1.length : Int)) = true := decide_eq_true c37
               clear c37
               have H' := Aside0.mk H
               clear H
               try go_wp2
               have n0_ := Aside0.mk (Kd.R_drew HO293.out)
               have n1_ := Aside0.mk (blk_drew BK280.out)
               have n2_ := Aside0.mk (blk_drew BK295.out)
               have n3_ := Aside0.mk (blk_drew BK296.out)
               have n4_ := Aside0.mk (below_drew1 HB.out)
               clear HO293
               clear BK280
               clear BK295
               clear BK296
               clear HB
               have HO293 := n0_
               have BK280 := n1_
               have BK295 := n2_
               have BK296 := n3_
               have HB := n4_
               clear n0_ n1_ n2_ n3_ n4_
               have p297 : 0 ≤ (t287 : Int) := dc_
               have q297 : t287 < (l0_1.length : Int) := dc_
               obtain ⟨ad297, A297_2, c297_2, e297, hx297_0, hx297_1, hx297_2, hl297_2, hi297_2⟩ := at_T61 HR0_1.out t287 p297 q297
               have hw297_2 := hx297_2
               have hw297_1 := hx297_1
               have hw297_0 := hx297_0
               cases e297
               replace hx297_0 := (HB.out.cell (World.block_lt_of_cell? w _ hx297_0)).trans hx297_0
               replace hx297_1 := (HB.out.cell (World.block_lt_of_cell? w _ hx297_1)).trans hx297_1
               replace hx297_2 := (HB.out.cell (World.block_lt_of_cell? w _ hx297_2)).trans hx297_2
               have HR297_2 := Aside0.mk hi297_2
               have HC297_2 := Aside0.mk hl297_2
               clear hi297_2 hl297_2
               replace p297 := eq_true p297
               replace q297 := eq_true q297
               refine start_ (n := 8) (S := fun w' => w'.cell? ⟨gb280, 0, none⟩ = some (.int .i64 a0_0) ∧ w'.cell? ⟨gb280, 1, none⟩ = some (.slice (some ad297) l0_1.length c0_1) ∧ w'.cell? ⟨gb280, 2, none⟩ = some (.int .i64 a0_2) ∧ w'.cell? ⟨gb280, 3, none⟩ = some (.int .i64 a0_3) ∧ w'.cell? ⟨gb280, 4, none⟩ = some (.slice (some ad286) l0_4.length c0_4) ∧ w'.cell? (ad297.add ((t287).toNat * 3)) = some (.int .i64 ((rd_T61 l0_1 t287).f0)) ∧ w'.cell? ⟨(ad297.add ((t287).toNat * 3)).block, (ad297.add ((t287).toNat * 3)).off + 1, none⟩ = some (.string ((rd_T61 l0_1 t287).f1)) ∧ w'.cell? ⟨(ad297.add ((t287).toNat * 3)).block, (ad297.add ((t287).toNat * 3)).off + 2, none⟩ = some (.slice A297_2 ((rd_T61 l0_1 t287).f2).length c297_2)) (ds := []) #[false, false, false, false, false, false, false, false] (by kernel_rfl) rfl rfl ⟨bc_ BK280 0, bc_ BK280 1, bc_ BK280 2, bc_ BK280 3, bc_ BK280 4, ((HB.out.cell (World.block_lt_of_cell? w _ hw297_0)).trans hw297_0), ((HB.out.cell (World.block_lt_of_cell? w _ hw297_1)).trans hw297_1), ((HB.out.cell (World.block_lt_of_cell? w _ hw297_2)).trans hw297_2)⟩ (fun hHeld => ?_); refine with_tabW thresherlaw12_SplitFinds.tab15 thresherlaw12_SplitFinds.bits15 (fun HT_ HW_ => ?_)
               generalize w53.drew = w54 at HO293 BK280 BK295 BK296 HB HR297_2 hx297_0 hx297_1 hx297_2 hHeld ⊢
               refine pu HT_ 0 67 (zb 8 1) ?_
               refine pu HT_ 1 68 (zb 8 3) ?_
               refine pu HT_ 3 70 (zb 8 11) ?_
               refine pu HT_ 6 8 (zb 8 75) ?_
               refine tk HT_ HW_ hHeld 2 69 (zb 8 79) (hv := by rintro w' ⟨s0, s1, s2, s3, s4, s5, s6, s7⟩; go_simp; with_reducible rfl) (h := ?_)
               refine pu HT_ 4 71 (zb 8 95) ?_
               refine tk HT_ HW_ hHeld 5 72 (zb 8 127) (hv := by rintro w' ⟨s0, s1, s2, s3, s4, s5, s6, s7⟩; go_simp; with_reducible rfl) (h := ?_)
               refine one_ (i := 7) (N := none) (zb 8 255) rfl rfl (one_of HT_.out (by kernel_rfl)) (by decide) (fun K hK => ?_)
               have hs55 : w54.cell? ⟨gb296, 0, none⟩ = some (.int .i64 0) := bc_ BK296 0
               have hfs55 := blk_frozen BK296.out 0
               have hns55_0 := NB280_296.out
               have hns55_1 := NB295_296.out
               have hms55_0 := NB296_280.out
               have hms55_1 := NB296_295.out
               have hs56 : w54.cell? ⟨gb296, 1, none⟩ = some (.string (⟨#[]⟩ : ByteArray)) := bc_ BK296 1
               have hfs56 := blk_frozen BK296.out 1
               have hns56_0 := NB280_296.out
               have hns56_1 := NB295_296.out
               have hms56_0 := NB296_280.out
               have hms56_1 := NB296_295.out
               have hs57 : w54.cell? ⟨gb296, 2, none⟩ = some (.slice none 0 0) := bc_ BK296 2
               have hfs57 := blk_frozen BK296.out 2
               have hns57_0 := NB280_296.out
               have hns57_1 := NB295_296.out
               have hms57_0 := NB296_280.out
               have hms57_1 := NB296_295.out
               refine skip_ (w1 := ?_) (by rfl) rfl ?_ ?_
               rotate_left
               ·
                go_simp
                rfl
               refine hK.out _ _ ⟨((cell_far (p := ⟨gb296, _, none⟩) NB280_296.out _).trans (((cell_far (p := ⟨gb296, _, none⟩) NB280_296.out _).trans (((cell_far (p := ⟨gb296, _, none⟩) NB280_296.out _).trans (hHeld.1)))))), ((cell_far (p := ⟨gb296, _, none⟩) NB280_296.out _).trans (((cell_far (p := ⟨gb296, _, none⟩) NB280_296.out _).trans (((cell_far (p := ⟨gb296, _, none⟩) NB280_296.out _).trans (hHeld.2.1)))))), ((cell_far (p := ⟨gb296, _, none⟩) NB280_296.out _).trans (((cell_far (p := ⟨gb296, _, none⟩) NB280_296.out _).trans (((cell_far (p := ⟨gb296, _, none⟩) NB280_296.out _).trans (hHeld.2.2.1)))))), ((cell_far (p := ⟨gb296, _, none⟩) NB280_296.out _).trans (((cell_far (p := ⟨gb296, _, none⟩) NB280_296.out _).trans (((cell_far (p := ⟨gb296, _, none⟩) NB280_296.out _).trans (hHeld.2.2.2.1)))))), ((cell_far (p := ⟨gb296, _, none⟩) NB280_296.out _).trans (((cell_far (p := ⟨gb296, _, none⟩) NB280_296.out _).trans (((cell_far (p := ⟨gb296, _, none⟩) NB280_296.out _).trans (hHeld.2.2.2.2.1)))))), ((cell_far (p := ⟨gb296, _, none⟩) (by first | exact Nat.ne_of_lt (Nat.lt_of_lt_of_le (by have := World.block_lt_of_cell? _ _ hw297_0; first | rwa [add_block] at this | exact this) GW296.out) | (rw [add_block]; exact Nat.ne_of_lt (Nat.lt_of_lt_of_le (by have := World.block_lt_of_cell? _ _ hw297_0; first | rwa [add_block] at this | exact this) GW296.out)) | (show (Addr.add _ _).block ≠ _; rw [add_block]; exact Nat.ne_of_lt (Nat.lt_of_lt_of_le (by have := World.block_lt_of_cell? _ _ hw297_0; first | rwa [add_block] at this | exact this) GW296.out)) | (dsimp only; exact Nat.ne_of_lt (Nat.lt_of_lt_of_le (by have := World.block_lt_of_cell? _ _ hw297_0; first | rwa [add_block] at this | exact this) GW296.out))) _).trans (((cell_far (p := ⟨gb296, _, none⟩) (by first | exact Nat.ne_of_lt (Nat.lt_of_lt_of_le (by have := World.block_lt_of_cell? _ _ hw297_0; first | rwa [add_block] at this | exact this) GW296.out) | (rw [add_block]; exact Nat.ne_of_lt (Nat.lt_of_lt_of_le (by have := World.block_lt_of_cell? _ _ hw297_0; first | rwa [add_block] at this | exact this) GW296.out)) | (show (Addr.add _ _).block ≠ _; rw [add_block]; exact Nat.ne_of_lt (Nat.lt_of_lt_of_le (by have := World.block_lt_of_cell? _ _ hw297_0; first | rwa [add_block] at this | exact this) GW296.out)) | (dsimp only; exact Nat.ne_of_lt (Nat.lt_of_lt_of_le (by have := World.block_lt_of_cell? _ _ hw297_0; first | rwa [add_block] at this | exact this) GW296.out))) _).trans (((cell_far (p := ⟨gb296, _, none⟩) (by first | exact Nat.ne_of_lt (Nat.lt_of_lt_of_le (by have := World.block_lt_of_cell? _ _ hw297_0; first | rwa [add_block] at this | exact this) GW296.out) | (rw [add_block]; exact Nat.ne_of_lt (Nat.lt_of_lt_of_le (by have := World.block_lt_of_cell? _ _ hw297_0; first | rwa [add_block] at this | exact this) GW296.out)) | (show (Addr.add _ _).block ≠ _; rw [add_block]; exact Nat.ne_of_lt (Nat.lt_of_lt_of_le (by have := World.block_lt_of_cell? _ _ hw297_0; first | rwa [add_block] at this | exact this) GW296.out)) | (dsimp only; exact Nat.ne_of_lt (Nat.lt_of_lt_of_le (by have := World.block_lt_of_cell? _ _ hw297_0; first | rwa [add_block] at this | exact this) GW296.out))) _).trans (hHeld.2.2.2.2.2.1)))))), ((cell_far (p := ⟨gb296, _, none⟩) (by first | exact Nat.ne_of_lt (Nat.lt_of_lt_of_le (by have := World.block_lt_of_cell? _ _ hw297_1; first | rwa [add_block] at this | exact this) GW296.out) | (rw [add_block]; exact Nat.ne_of_lt (Nat.lt_of_lt_of_le (by have := World.block_lt_of_cell? _ _ hw297_1; first | rwa [add_block] at this | exact this) GW296.out)) | (show (Addr.add _ _).block ≠ _; rw [add_block]; exact Nat.ne_of_lt (Nat.lt_of_lt_of_le (by have := World.block_lt_of_cell? _ _ hw297_1; first | rwa [add_block] at this | exact this) GW296.out)) | (dsimp only; exact Nat.ne_of_lt (Nat.lt_of_lt_of_le (by have := World.block_lt_of_cell? _ _ hw297_1; first | rwa [add_block] at this | exact this) GW296.out))) _).trans (((cell_far (p := ⟨gb296, _, none⟩) (by first | exact Nat.ne_of_lt (Nat.lt_of_lt_of_le (by have := World.block_lt_of_cell? _ _ hw297_1; first | rwa [add_block] at this | exact this) GW296.out) | (rw [add_block]; exact Nat.ne_of_lt (Nat.lt_of_lt_of_le (by have := World.block_lt_of_cell? _ _ hw297_1; first | rwa [add_block] at this | exact this) GW296.out)) | (show (Addr.add _ _).block ≠ _; rw [add_block]; exact Nat.ne_of_lt (Nat.lt_of_lt_of_le (by have := World.block_lt_of_cell? _ _ hw297_1; first | rwa [add_block] at this | exact this) GW296.out)) | (dsimp only; exact Nat.ne_of_lt (Nat.lt_of_lt_of_le (by have := World.block_lt_of_cell? _ _ hw297_1; first | rwa [add_block] at this | exact this) GW296.out))) _).trans (((cell_far (p := ⟨gb296, _, none⟩) (by first | exact Nat.ne_of_lt (Nat.lt_of_lt_of_le (by have := World.block_lt_of_cell? _ _ hw297_1; first | rwa [add_block] at this | exact this) GW296.out) | (rw [add_block]; exact Nat.ne_of_lt (Nat.lt_of_lt_of_le (by have := World.block_lt_of_cell? _ _ hw297_1; first | rwa [add_block] at this | exact this) GW296.out)) | (show (Addr.add _ _).block ≠ _; rw [add_block]; exact Nat.ne_of_lt (Nat.lt_of_lt_of_le (by have := World.block_lt_of_cell? _ _ hw297_1; first | rwa [add_block] at this | exact this) GW296.out)) | (dsimp only; exact Nat.ne_of_lt (Nat.lt_of_lt_of_le (by have := World.block_lt_of_cell? _ _ hw297_1; first | rwa [add_block] at this | exact this) GW296.out))) _).trans (hHeld.2.2.2.2.2.2.1)))))), ((cell_far (p := ⟨gb296, _, none⟩) (by first | exact Nat.ne_of_lt (Nat.lt_of_lt_of_le (by have := World.block_lt_of_cell? _ _ hw297_2; first | rwa [add_block] at this | exact this) GW296.out) | (rw [add_block]; exact Nat.ne_of_lt (Nat.lt_of_lt_of_le (by have := World.block_lt_of_cell? _ _ hw297_2; first | rwa [add_block] at this | exact this) GW296.out)) | (show (Addr.add _ _).block ≠ _; rw [add_block]; exact Nat.ne_of_lt (Nat.lt_of_lt_of_le (by have := World.block_lt_of_cell? _ _ hw297_2; first | rwa [add_block] at this | exact this) GW296.out)) | (dsimp only; exact Nat.ne_of_lt (Nat.lt_of_lt_of_le (by have := World.block_lt_of_cell? _ _ hw297_2; first | rwa [add_block] at this | exact this) GW296.out))) _).trans (((cell_far (p := ⟨gb296, _, none⟩) (by first | exact Nat.ne_of_lt (Nat.lt_of_lt_of_le (by have := World.block_lt_of_cell? _ _ hw297_2; first | rwa [add_block] at this | exact this) GW296.out) | (rw [add_block]; exact Nat.ne_of_lt (Nat.lt_of_lt_of_le (by have := World.block_lt_of_cell? _ _ hw297_2; first | rwa [add_block] at this | exact this) GW296.out)) | (show (Addr.add _ _).block ≠ _; rw [add_block]; exact Nat.ne_of_lt (Nat.lt_of_lt_of_le (by have := World.block_lt_of_cell? _ _ hw297_2; first | rwa [add_block] at this | exact this) GW296.out)) | (dsimp only; exact Nat.ne_of_lt (Nat.lt_of_lt_of_le (by have := World.block_lt_of_cell? _ _ hw297_2; first | rwa [add_block] at this | exact this) GW296.out))) _).trans (((cell_far (p := ⟨gb296, _, none⟩) (by first | exact Nat.ne_of_lt (Nat.lt_of_lt_of_le (by have := World.block_lt_of_cell? _ _ hw297_2; first | rwa [add_block] at this | exact this) GW296.out) | (rw [add_block]; exact Nat.ne_of_lt (Nat.lt_of_lt_of_le (by have := World.block_lt_of_cell? _ _ hw297_2; first | rwa [add_block] at this | exact this) GW296.out)) | (show (Addr.add _ _).block ≠ _; rw [add_block]; exact Nat.ne_of_lt (Nat.lt_of_lt_of_le (by have := World.block_lt_of_cell? _ _ hw297_2; first | rwa [add_block] at this | exact this) GW296.out)) | (dsimp only; exact Nat.ne_of_lt (Nat.lt_of_lt_of_le (by have := World.block_lt_of_cell? _ _ hw297_2; first | rwa [add_block] at this | exact this) GW296.out))) _).trans (hHeld.2.2.2.2.2.2.2))))))⟩ (fun hHeld => ?_)
               clear hK K
               refine done_ (done_of HT_.out (by kernel_rfl)) ?_
               try go_wp2
               go_meet
               case rel => exact ⟨kj24, 0, _, _, _, _, _, rfl, H', ⟨Nat.le_refl _⟩, ⟨by (with_reducible repeat (first | apply Kd.R_alloc | apply Kd.R_drewN | apply Kd.R_drew)); exact Kd.R_mono (Kd.R_far (p := ⟨gb296, 2, none⟩) (Kd.R_far (p := ⟨gb296, 1, none⟩) (Kd.R_far (p := ⟨gb296, 0, none⟩) (Kd.R_types HO293.out BK296.out (by decide)) (fun _ hk => hk.2) (.int .i64 ((rd_T61 l0_1 t287).f0))) (fun _ hk => hk.2) (.string ((rd_T61 l0_1 t287).f1))) (fun _ hk => hk.2) (.slice A297_2 ((rd_T61 l0_1 t287).f2).length c297_2)) (fun _ hk => trivial)⟩, ⟨by (with_reducible repeat (first | refine blk_drewN ?_ _ | refine blk_drew ?_ | refine blk_alloc ?_ _)); refine blk_far ?_ NB280_296.out _; (with_reducible repeat (first | refine blk_drewN ?_ _ | refine blk_drew ?_ | refine blk_alloc ?_ _)); refine blk_far ?_ NB280_296.out _; (with_reducible repeat (first | refine blk_drewN ?_ _ | refine blk_drew ?_ | refine blk_alloc ?_ _)); refine blk_far ?_ NB280_296.out _; (with_reducible repeat (first | refine blk_drewN ?_ _ | refine blk_drew ?_ | refine blk_alloc ?_ _)); exact BK280.out⟩, ⟨by (with_reducible repeat (first | refine blk_drewN ?_ _ | refine blk_drew ?_ | refine blk_alloc ?_ _)); refine blk_far ?_ NB295_296.out _; (with_reducible repeat (first | refine blk_drewN ?_ _ | refine blk_drew ?_ | refine blk_alloc ?_ _)); refine blk_far ?_ NB295_296.out _; (with_reducible repeat (first | refine blk_drewN ?_ _ | refine blk_drew ?_ | refine blk_alloc ?_ _)); refine blk_far ?_ NB295_296.out _; (with_reducible repeat (first | refine blk_drewN ?_ _ | refine blk_drew ?_ | refine blk_alloc ?_ _)); exact BK295.out⟩, ⟨by (with_reducible repeat (first | refine blk_drewN ?_ _ | refine blk_drew ?_ | refine blk_alloc ?_ _)); refine blk_put (cs := #[.int .i64 ((rd_T61 l0_1 t287).f0), .string ((rd_T61 l0_1 t287).f1), .slice none 0 0]) ?_ 2 _ rfl; (with_reducible repeat (first | refine blk_drewN ?_ _ | refine blk_drew ?_ | refine blk_alloc ?_ _)); refine blk_put (cs := #[.int .i64 ((rd_T61 l0_1 t287).f0), .string (⟨#[]⟩ : ByteArray), .slice none 0 0]) ?_ 1 _ rfl; (with_reducible repeat (first | refine blk_drewN ?_ _ | refine blk_drew ?_ | refine blk_alloc ?_ _)); refine blk_put (cs := #[.int .i64 0, .string (⟨#[]⟩ : ByteArray), .slice none 0 0]) ?_ 0 _ rfl; (with_reducible repeat (first | refine blk_drewN ?_ _ | refine blk_drew ?_ | refine blk_alloc ?_ _)); exact BK296.out⟩, ⟨Kd.C_below HR297_2.out (be_ HB)⟩, HC297_2, ⟨be_ HB⟩⟩
              · rw [if_neg c37] at H; exact absurd H (by simp)
             · rw [if_neg c36] at H; exact absurd H (by simp)
            ·
             rw [if_neg c35] at H
             have c35b0 : decide (0 ≤ t287) = false := decide_eq_false c35
             have H' := Aside0.mk H
             clear H c35
             go_wp2
             go_meet
             case rel => exact ⟨kj24, 3, 0, ⟨#[]⟩, [], none, 0, rfl, H', ⟨Nat.le_refl _⟩, ⟨ro_ HO293⟩, ⟨bk_ BK280⟩, ⟨bk_ BK295⟩, ⟨bk_ BK296⟩, ⟨Kd.C_nil _ _⟩, ⟨Nat.le_refl _⟩, ⟨be_ HB⟩⟩
           ·
            rw [if_neg c34] at H
            replace c34 := Bool.eq_false_iff.mpr c34
            subst c34
            have H' := Aside0.mk H
            clear H
            go_wp2
            go_meet
            case rel => exact ⟨kj24, 1, 0, ⟨#[]⟩, [], none, 0, rfl, H', ⟨Nat.le_refl _⟩, ⟨ro_ HO293⟩, ⟨bk_ BK280⟩, ⟨bk_ BK295⟩, ⟨bk_ BK296⟩, ⟨Kd.C_nil _ _⟩, ⟨Nat.le_refl _⟩, ⟨be_ HB⟩⟩
          case rest =>
           as_aux_lemma =>
           clear HC34
           obtain ⟨kq, bad, y0, y1, y2, A2, c2, rfl, HA, HJq, HO293, BK280, BK295, BK296, HY, HCY, HB⟩ := hcut
           cases kq with
           | zero => exact absurd HA.out (by simp [thresherlaw12_SplitFinds.jw])
           | succ kjw =>
            have H := HA.out
            clear HA
            simp only [thresherlaw12_SplitFinds.jw] at H
            replace HJ24 : Aside0 (kjw + 1 ≤ k1) := ⟨by have := HJq.out; have := HJ24.out; omega⟩
            clear HJq
            have HC34 := Aside0.mk H
            clear H
            go_upto_region 16 with (fail)
            go_cut [82] (fun v82 wc => ∃ (kq : Nat) (x82_33 : Bool), v82 = .bool x82_33 ∧ Aside0 (thresherlaw12_SplitFinds.j2 kq t282 x4_1 t287 x82_33 a0_0 l0_1 a0_2 a0_3 l0_4 t289 t290 t291 = some r) ∧ Aside0 (kq ≤ kjw) ∧ Aside0 (Kd.R (Kd.int .i64) 3 wc w.heap.size (fun _ => True) (.slice Ao47 t291.length co47) t291) ∧ Aside0 (wc.heap[gb280]? = some (.cells #[.int .i64 a0_0, (.slice A0_1 l0_1.length c0_1), .int .i64 a0_2, .int .i64 a0_3, (.slice (some ad286) l0_4.length c0_4)] 57 (0, 0))) ∧ Aside0 (wc.heap[gb295]? = some (.cells #[.int .i64 t289, .string t290, (.slice Ao47 t291.length co47)] 61 (0, 0))) ∧ Aside0 (wc.heap[gb296]? = some (.cells #[.int .i64 y0, .string y1, (.slice A2 y2.length c2)] 61 (0, 0))) ∧ Aside0 (Below w.heap.size w wc))
            case first =>
             as_aux_lemma =>
             have H := HC34.out
             clear HC34
             replace H := Option.bind_eq_some_iff.mp H
             obtain ⟨t297, A490, H⟩ := H
             replace H : (if t297 = bad then ((thresherref0_EqSplit.f kjw t289 t290 t291 y0 y1 y2).bind fun t298 => (thresherlaw12_SplitFinds.j2 kjw t282 x4_1 t287 (!t298) a0_0 l0_1 a0_2 a0_3 l0_4 t289 t290 t291)) else (thresherlaw12_SplitFinds.j2 kjw t282 x4_1 t287 true a0_0 l0_1 a0_2 a0_3 l0_4 t289 t290 t291)) = some r := H
             have A49 := Aside0.mk A490
             clear A490
             by_cases c50 : t297 = bad
             ·
              rw [if_pos c50] at H
              have c50b0 : (t297 == bad) = true := beq_iff_eq.mpr c50
              have c50b1 : (t297 != bad) = false := bne_eq_false_iff_eq.mpr c50
              clear c50
              (first | rw [c50b0] | (simp only [i64_w, i32_w]; rw [c50b0]) | skip)
              replace H := Option.bind_eq_some_iff.mp H
              obtain ⟨t298, A510, H⟩ := H
              replace H : (thresherlaw12_SplitFinds.j2 kjw t282 x4_1 t287 (!t298) a0_0 l0_1 a0_2 a0_3 l0_4 t289 t290 t291) = some r := H
              have A51 := Aside0.mk A510
              clear A510
              have H' := Aside0.mk H
              clear H
              go_wp2_with (first | ((with_reducible refine gate_callee (f := 26) rfl ?_); refine goesL_ (some 74) rfl rfl Try.func26 (by kernel_rfl) rfl #[.int .i64 t294] rfl (by (try simp only [List.map_toArray, List.map_cons, List.map_nil]); first | done | rfl | (simp only [List.length_drop, List.length_take]; rfl)) ?_; (with_reducible refine (thresherlaw12_num.calls t294 t297 _ A49.out).mono ?_); rintro e w' ⟨rfl, ⟨nd, rfl⟩⟩; refine ⟨_, rfl, ?_⟩; have hcz54_0 : wc.cell? ⟨gb295, 0, none⟩ = some (.int .i64 t289) := bc_ BK295 0; have hcz54_1 : wc.cell? ⟨gb295, 1, none⟩ = some (.string t290) := bc_ BK295 1; have hcz54_2 : wc.cell? ⟨gb295, 2, none⟩ = some (.slice Ao47 t291.length co47) := bc_ BK295 2; have hcz56_0 : wc.cell? ⟨gb296, 0, none⟩ = some (.int .i64 y0) := bc_ BK296 0; have hcz56_1 : wc.cell? ⟨gb296, 1, none⟩ = some (.string y1) := bc_ BK296 1; have hcz56_2 : wc.cell? ⟨gb296, 2, none⟩ = some (.slice A2 y2.length c2) := bc_ BK296 2; have hfz54_0 := blk_frozen BK295.out 0; have hfz54_1 := blk_frozen BK295.out 1; have hfz54_2 := blk_frozen BK295.out 2; have hfz56_0 := blk_frozen BK296.out 0; have hfz56_1 := blk_frozen BK296.out 1; have hfz56_2 := blk_frozen BK296.out 2) | (go_at_call 31; (refine (thresherref0_EqSplit.calls kjw t289 t290 _ _ t291 y0 y1 _ _ y2 t298 _ ?side1 ?side2 ?side3 ?side4 A51.out).mono ?_); (case side1 => refine (Kd.R_reads' (e := 3) (base := w.heap.size) (ok := fun k_ => True) (n := t291.length) (c := co47) ?_).2.2; exact ro_ HO293); (case side2 => exact (Kd.R_reads' HO293.out).2.1); (case side3 => repeat (first | exact HY.out | (with_reducible refine Kd.C_alloc ?_ _) | (with_reducible refine Kd.C_drewN ?_ _) | (with_reducible refine Kd.C_drew ?_))); (case side4 => exact HCY.out); rintro e w57 ⟨rfl, hb⟩; have n0_ := Aside0.mk (Kd.R_below (ro_ HO293) hb); have n1_ := Aside0.mk (blk_below (bk_ BK280) hb); have n2_ := Aside0.mk (blk_below (bk_ BK295) hb); have n3_ := Aside0.mk (blk_below (bk_ BK296) hb); have n4_ := Aside0.mk (below_step (be_ HB) hb); clear HO293; clear BK280; clear BK295; clear BK296; clear HB; have HO293 := n0_; have BK280 := n1_; have BK295 := n2_; have BK296 := n3_; have HB := n4_; clear n0_ n1_ n2_ n3_ n4_; (try clear hb)))
              go_meet
              case rel => exact ⟨_, (!t298), eq_, H', ⟨by have := HK1.out; have := HJ24.out; first | omega | exact Nat.le_refl _⟩, ⟨ro_ HO293⟩, ⟨bk_ BK280⟩, ⟨bk_ BK295⟩, ⟨bk_ BK296⟩, ⟨be_ HB⟩⟩
             ·
              rw [if_neg c50] at H
              have c50b0 : (t297 == bad) = false := beq_eq_false_iff_ne.mpr c50
              have c50b1 : (t297 != bad) = true := bne_iff_ne.mpr c50
              (first | rw [c50b0] | (simp only [i64_w, i32_w]; rw [c50b0]) | skip)
              have H' := Aside0.mk H
              clear H
              go_wp2_with (first | ((with_reducible refine gate_callee (f := 26) rfl ?_); refine goesL_ (some 74) rfl rfl Try.func26 (by kernel_rfl) rfl #[.int .i64 t294] rfl (by (try simp only [List.map_toArray, List.map_cons, List.map_nil]); first | done | rfl | (simp only [List.length_drop, List.length_take]; rfl)) ?_; (with_reducible refine (thresherlaw12_num.calls t294 t297 _ A49.out).mono ?_); rintro e w' ⟨rfl, ⟨nd, rfl⟩⟩; refine ⟨_, rfl, ?_⟩))
              go_meet
              case rel => exact ⟨_, (true), eq_, H', ⟨by have := HK1.out; have := HJ24.out; first | omega | exact Nat.le_refl _⟩, ⟨ro_ HO293⟩, ⟨bk_ BK280⟩, ⟨bk_ BK295⟩, ⟨bk_ BK296⟩, ⟨be_ HB⟩⟩
            case rest =>
             as_aux_lemma =>
             clear HC34
             (try clear c1); (try clear c2); (try clear p2); (try clear q2); (try clear hx2); (try clear c3); (try clear c4); (try clear c5); (try clear c7); (try clear c10); (try clear c10b0); (try clear c10b1)
             (try clear c10b2); (try clear c23); (try clear c24); (try clear c26); (try clear c26b0); (try clear c28); (try clear p28); (try clear q28); (try clear hx28); (try clear c29); (try clear c30); (try clear c30b0)
             (try clear c31); (try clear c31b0); (try clear c46); (try clear c47); (try clear c50); (try clear c50b0); (try clear c50b1); (try clear c52); (try clear c53); (try clear c55); (try clear hcz12_0); (try clear hcz12_1)
             (try clear hcz12_2); (try clear hcz12_3); (try clear hcz12_4); (try clear hcz14_0); (try clear hcz14_1); (try clear hcz14_2); (try clear hcz14_3); (try clear hcz14_4); (try clear hcz16_0); (try clear hcz16_1); (try clear hcz16_2); (try clear hcz16_3)
             (try clear hcz16_4); (try clear hcz19_0); (try clear hcz19_1); (try clear hcz19_2); (try clear hcz19_3); (try clear hcz19_4); (try clear hcz21_0); (try clear hcz21_1); (try clear hcz21_2); (try clear hcz21_3); (try clear hcz21_4); (try clear hcz23_0)
             (try clear hcz23_1); (try clear hcz23_2); (try clear hcz23_3); (try clear hcz23_4); (try clear hcz27_0); (try clear hcz27_1); (try clear hcz27_2); (try clear hcz27_3); (try clear hcz27_4); (try clear hcz28_0); (try clear hcz28_1); (try clear hcz28_2)
             (try clear hcz28_3); (try clear hcz28_4); (try clear hcz48_0); (try clear hcz48_1); (try clear hcz48_2); (try clear hcz54_0); (try clear hcz54_1); (try clear hcz54_2); (try clear hcz56_0); (try clear hcz56_1); (try clear hcz56_2); (try clear hcz5_0)
             (try clear hcz5_1); (try clear hcz5_2); (try clear hcz5_3); (try clear hcz5_4); (try clear hfz12_0); (try clear hfz12_1); (try clear hfz12_2); (try clear hfz12_3); (try clear hfz12_4); (try clear hfz14_0); (try clear hfz14_1); (try clear hfz14_2)
             (try clear hfz14_3); (try clear hfz14_4); (try clear hfz16_0); (try clear hfz16_1); (try clear hfz16_2); (try clear hfz16_3); (try clear hfz16_4); (try clear hfz19_0); (try clear hfz19_1); (try clear hfz19_2); (try clear hfz19_3); (try clear hfz19_4)
             (try clear hfz21_0); (try clear hfz21_1); (try clear hfz21_2); (try clear hfz21_3); (try clear hfz21_4); (try clear hfz23_0); (try clear hfz23_1); (try clear hfz23_2); (try clear hfz23_3); (try clear hfz23_4); (try clear hfz27_0); (try clear hfz27_1)
             (try clear hfz27_2); (try clear hfz27_3); (try clear hfz27_4); (try clear hfz28_0); (try clear hfz28_1); (try clear hfz28_2); (try clear hfz28_3); (try clear hfz28_4); (try clear hfz48_0); (try clear hfz48_1); (try clear hfz48_2); (try clear hfz54_0)
             (try clear hfz54_1); (try clear hfz54_2); (try clear hfz56_0); (try clear hfz56_1); (try clear hfz56_2); (try clear hfz5_0); (try clear hfz5_1); (try clear hfz5_2); (try clear hfz5_3); (try clear hfz5_4); (try clear hx286_0); (try clear hx288_0)
             (try clear p2); (try clear p286); (try clear p288); (try clear q286); (try clear q288)
             obtain ⟨kq, x82_33, rfl, HA, HJ33, HO_296002, BK280, BK295, BK296, HB⟩ := hcut
             cases kq with
             | zero => exact absurd HA.out (by simp [thresherlaw12_SplitFinds.j2])
             | succ kj33 =>
              have H := HA.out
              clear HA
              simp only [thresherlaw12_SplitFinds.j2] at H
              by_cases c58 : x82_33 = true
              ·
               subst c58
               have H1 : (some false) = some r := by rw [if_pos rfl] at H; exact H
               clear H
               have H := H1
               clear H1
               obtain rfl := Option.some.inj H
               go_wp2
               go_ret
               exact ⟨re_, be_ HB⟩
              ·
               replace c58 := Bool.eq_false_iff.mpr c58
               subst c58
               have H1 : ((thresherlaw0_Numbers.f kj33 t291).bind fun _ => (thresherlaw12_SplitFinds.l1 kj33 t282 x4_1 t287 (-1) a0_0 l0_1 a0_2 a0_3 l0_4)) = some r := by rw [if_neg (show ¬ (false = true) by decide)] at H; exact H
               clear H
               have H := H1
               clear H1
               replace H := Option.bind_eq_some_iff.mp H
               obtain ⟨_, A590, H⟩ := H
               replace H : (thresherlaw12_SplitFinds.l1 kj33 t282 x4_1 t287 (-1) a0_0 l0_1 a0_2 a0_3 l0_4) = some r := H
               have A59 := Aside0.mk A590
               clear A590
               have H' := Aside0.mk H
               clear H
               have hnb60 := NB295_280.out
               have hnc60 := NB280_295.out
               have hnb61 := NB295_296.out
               have hnc61 := NB296_295.out
               have hcz62_0 : wc.cell? ⟨gb295, 0, none⟩ = some (.int .i64 t289) := bc_ BK295 0
               have hcz62_1 : wc.cell? ⟨gb295, 1, none⟩ = some (.string t290) := bc_ BK295 1
               have hcz62_2 : wc.cell? ⟨gb295, 2, none⟩ = some (.slice Ao47 t291.length co47) := bc_ BK295 2
               have hfz62_0 := blk_frozen BK295.out 0
               have hfz62_1 := blk_frozen BK295.out 1
               have hfz62_2 := blk_frozen BK295.out 2
               go_wp2_with (first | ((with_reducible refine gate_callee (f := 32) rfl ?_); refine goesL_ (some 85) rfl rfl Try.func32 (by kernel_rfl) rfl #[.slice Ao47 t291.length co47] rfl (by (try simp only [List.map_toArray, List.map_cons, List.map_nil]); first | done | rfl | (simp only [List.length_drop, List.length_take]; rfl)) ?_; (with_reducible refine (thresherlaw0_Numbers.calls kj33 (fun k_ => some k_ = (.slice Ao47 t291.length co47 : Value).ownBlock) (.slice Ao47 t291.length co47) t291  w _ ?side1 ?side2 A59.out).mono ?_); (case side1 => repeat (first | (with_reducible first | exact HB.out | apply below_alloc | apply pw_below_drewN | apply below_drew1 | refine below_set ?_ GE280.out | refine below_set ?_ GE295.out | refine below_set ?_ GE296.out) | exact HB.out)); (case side2 => exact Kd.R_tight rfl HO_296002.out); rintro e w63 ⟨rfl, hb, hkp⟩; refine ⟨_, rfl, ?_⟩; have n0_ := Aside0.mk (blk_kept (bk_ BK280) hkp (fun hs_ => (fun e_ => (Kd.R_ne HO_296002.out BK280.out (by decide)) e_) hs_)); have n1_ := Aside0.mk (blk_kept (bk_ BK295) hkp (fun hs_ => (fun e_ => (Kd.R_ne HO_296002.out BK295.out (by decide)) e_) hs_)); have n2_ := Aside0.mk (blk_kept (bk_ BK296) hkp (fun hs_ => (fun e_ => (Kd.R_ne HO_296002.out BK296.out (by decide)) e_) hs_)); have n3_ := Aside0.mk (hb); clear BK280; clear BK295; clear BK296; clear HB; clear HO_296002; have BK280 := n0_; have BK295 := n1_; have BK296 := n2_; have HB := n3_; clear n0_ n1_ n2_ n3_; (try clear hb); (try clear hkp)))
               go_loopg [10] kj33 (fun kq v10 w' => ∃ (x10_4 : Int), v10 = .int .i64 x10_4 ∧ Aside0 (thresherlaw12_SplitFinds.l1 kq t282 x4_1 t287 x10_4 a0_0 l0_1 a0_2 a0_3 l0_4 = some r) ∧ Aside0 (kq ≤ kj33) ∧ Aside0 (w'.heap[gb280]? = some (.cells #[.int .i64 a0_0, (.slice A0_1 l0_1.length c0_1), .int .i64 a0_2, .int .i64 a0_3, (.slice (some ad286) l0_4.length c0_4)] 57 (0, 0))) ∧ Aside0 (Below w.heap.size w w'))
               case atStart => exact ⟨((-1)), eq_, H', ⟨Nat.le_refl _⟩, ⟨bk_ BK280⟩, ⟨be_ HB⟩⟩
               case round =>
                as_aux_lemma =>
                clear H'
                (try clear c1); (try clear c2); (try clear p2); (try clear q2); (try clear hx2); (try clear c3); (try clear c4); (try clear c5); (try clear c6); (try clear c7); (try clear c10); (try clear c10b0)
                (try clear c10b1); (try clear c10b2); (try clear c23); (try clear c24); (try clear c26); (try clear c26b0); (try clear c28); (try clear p28); (try clear q28); (try clear hx28); (try clear c29); (try clear c30)
                (try clear c30b0); (try clear c31); (try clear c31b0); (try clear c32); (try clear c46); (try clear c47); (try clear c50); (try clear c50b0); (try clear c50b1); (try clear c52); (try clear c53); (try clear c55)
                (try clear c58); (try clear c60); (try clear c61); (try clear hcz12_0); (try clear hcz12_1); (try clear hcz12_2); (try clear hcz12_3); (try clear hcz12_4); (try clear hcz14_0); (try clear hcz14_1); (try clear hcz14_2); (try clear hcz14_3)
                (try clear hcz14_4); (try clear hcz16_0); (try clear hcz16_1); (try clear hcz16_2); (try clear hcz16_3); (try clear hcz16_4); (try clear hcz19_0); (try clear hcz19_1); (try clear hcz19_2); (try clear hcz19_3); (try clear hcz19_4); (try clear hcz21_0)
                (try clear hcz21_1); (try clear hcz21_2); (try clear hcz21_3); (try clear hcz21_4); (try clear hcz23_0); (try clear hcz23_1); (try clear hcz23_2); (try clear hcz23_3); (try clear hcz23_4); (try clear hcz27_0); (try clear hcz27_1); (try clear hcz27_2)
                (try clear hcz27_3); (try clear hcz27_4); (try clear hcz28_0); (try clear hcz28_1); (try clear hcz28_2); (try clear hcz28_3); (try clear hcz28_4); (try clear hcz48_0); (try clear hcz48_1); (try clear hcz48_2); (try clear hcz54_0); (try clear hcz54_1)
                (try clear hcz54_2); (try clear hcz56_0); (try clear hcz56_1); (try clear hcz56_2); (try clear hcz5_0); (try clear hcz5_1); (try clear hcz5_2); (try clear hcz5_3); (try clear hcz5_4); (try clear hcz62_0); (try clear hcz62_1); (try clear hcz62_2)
                (try clear hfz12_0); (try clear hfz12_1); (try clear hfz12_2); (try clear hfz12_3); (try clear hfz12_4); (try clear hfz14_0); (try clear hfz14_1); (try clear hfz14_2); (try clear hfz14_3); (try clear hfz14_4); (try clear hfz16_0); (try clear hfz16_1)
                (try clear hfz16_2); (try clear hfz16_3); (try clear hfz16_4); (try clear hfz19_0); (try clear hfz19_1); (try clear hfz19_2); (try clear hfz19_3); (try clear hfz19_4); (try clear hfz21_0); (try clear hfz21_1); (try clear hfz21_2); (try clear hfz21_3)
                (try clear hfz21_4); (try clear hfz23_0); (try clear hfz23_1); (try clear hfz23_2); (try clear hfz23_3); (try clear hfz23_4); (try clear hfz27_0); (try clear hfz27_1); (try clear hfz27_2); (try clear hfz27_3); (try clear hfz27_4); (try clear hfz28_0)
                (try clear hfz28_1); (try clear hfz28_2); (try clear hfz28_3); (try clear hfz28_4); (try clear hfz48_0); (try clear hfz48_1); (try clear hfz48_2); (try clear hfz54_0); (try clear hfz54_1); (try clear hfz54_2); (try clear hfz56_0); (try clear hfz56_1)
                (try clear hfz56_2); (try clear hfz5_0); (try clear hfz5_1); (try clear hfz5_2); (try clear hfz5_3); (try clear hfz5_4); (try clear hfz62_0); (try clear hfz62_1); (try clear hfz62_2); (try clear hx286_0); (try clear hx288_0); (try clear p2)
                (try clear p28); (try clear p286); (try clear p288); (try clear q2); (try clear q28); (try clear q286); (try clear q288)
                obtain ⟨x10_4, rfl, HA, HK4, BK280, HB⟩ := hrel
                cases gk with
                | zero => exact absurd HA.out (by simp [thresherlaw12_SplitFinds.l1])
                | succ k4 =>
                 have H := HA.out
                 clear HA
                 simp only [thresherlaw12_SplitFinds.l1] at H
                 by_cases c64 : x10_4 ≤ 4
                 ·
                  rw [if_pos c64] at H
                  have c64b0 : decide (x10_4 ≤ 4) = true := decide_eq_true c64
                  clear c64
                  by_cases c65 : 0 ≤ x4_1
                  ·
                   rw [if_pos c65] at H
                   have c65b0 : decide (0 ≤ x4_1) = true := decide_eq_true c65
                   clear c65
                   by_cases c66 : x4_1 < (l0_4.length : Int)
                   ·
                    rw [if_pos c66] at H
                    have c66b0 : decide (x4_1 < (l0_4.length : Int)) = true := decide_eq_true c66
                    clear c66
                    replace H := Option.bind_eq_some_iff.mp H
                    obtain ⟨⟨t300, t301⟩, A670, H⟩ := H
                    replace H : (if t282 = true then ((thresherref0_Num.f x10_4 a0_0).bind fun t302 => (thresherlaw12_SplitFinds.j4 k4 t282 x4_1 t287 x10_4 t300 t301 1 0 t302 a0_0 l0_1 a0_2 a0_3 l0_4)) else (thresherlaw12_SplitFinds.j4 k4 t282 x4_1 t287 x10_4 t300 t301 1 0 false a0_0 l0_1 a0_2 a0_3 l0_4)) = some r := H
                    have A67 := Aside0.mk A670
                    clear A670
                    have HC68 := Aside0.mk H
                    clear H
                    try go_wp2
                    have n0_ := Aside0.mk (blk_drew BK280.out)
                    have n1_ := Aside0.mk (below_drew1 HB.out)
                    clear BK280
                    clear HB
                    have BK280 := n0_
                    have HB := n1_
                    clear n0_ n1_
                    have p299 : 0 ≤ (x4_1 : Int) := dc_
                    have q299 : x4_1 < (l0_4.length : Int) := dc_
                    obtain ⟨ad299, e299, hx299_0⟩ := Kd.at_int HR0_4.out x4_1 p299 q299
                    have hw299_0 := hx299_0
                    obtain rfl : ad286 = ad299 := (by injection e299)
                    replace hx299_0 := (HB.out.cell (World.block_lt_of_cell? w _ hx299_0)).trans hx299_0
                    replace p299 := eq_true p299
                    replace q299 := eq_true q299
                    refine start_ (n := 14) (S := fun w' => w'.cell? ⟨gb280, 0, none⟩ = some (.int .i64 a0_0) ∧ w'.cell? ⟨gb280, 1, none⟩ = some (.slice A0_1 l0_1.length c0_1) ∧ w'.cell? ⟨gb280, 2, none⟩ = some (.int .i64 a0_2) ∧ w'.cell? ⟨gb280, 3, none⟩ = some (.int .i64 a0_3) ∧ w'.cell? ⟨gb280, 4, none⟩ = some (.slice (some ad286) l0_4.length c0_4) ∧ w'.cell? (ad286.add (x4_1).toNat) = some (.int .i64 (rd l0_4 x4_1))) (ds := []) #[false, false, false, false, false, false, false, false, false, false, false, false, false, false] (by kernel_rfl) rfl rfl ⟨bc_ BK280 0, bc_ BK280 1, bc_ BK280 2, bc_ BK280 3, bc_ BK280 4, ((HB.out.cell (World.block_lt_of_cell? w _ hw299_0)).trans hw299_0)⟩ (fun hHeld => ?_); refine with_tabW thresherlaw12_SplitFinds.tab22 thresherlaw12_SplitFinds.bits22 (fun HT_ HW_ => ?_)
                    generalize wr.drew = w69 at BK280 HB hx299_0 hHeld ⊢
                    refine pu HT_ 0 91 (zb 14 1) ?_
                    refine pu HT_ 2 93 (zb 14 5) ?_
                    refine pu HT_ 4 95 (zb 14 21) ?_
                    refine pu HT_ 7 98 (zb 14 149) ?_
                    refine tk HT_ HW_ hHeld 1 92 (zb 14 151) (hv := by rintro w' ⟨s0, s1, s2, s3, s4, s5⟩; go_simp; with_reducible rfl) (h := ?_)
                    refine tk HT_ HW_ hHeld 3 94 (zb 14 159) (hv := by rintro w' ⟨s0, s1, s2, s3, s4, s5⟩; go_simp; with_reducible rfl) (h := ?_)
                    refine pu HT_ 5 96 (zb 14 191) ?_
                    refine tk HT_ HW_ hHeld 6 97 (zb 14 255) (hv := by rintro w' ⟨s0, s1, s2, s3, s4, s5⟩; go_simp; with_reducible rfl) (h := ?_)
                    refine one_ (i := 8) (N := some 99) (zb 14 511) rfl rfl (one_of HT_.out (by kernel_rfl)) (by decide) (fun K hK => ?_)
                    refine goes_ Try.func25 (by kernel_rfl) rfl #[.agg #[.int .i64 a0_0, .slice A0_1 l0_1.length c0_1, .int .i64 a0_2, .int .i64 a0_3], .int .i64 (rd l0_4 x4_1), .int .i64 x10_4] (by rfl) rfl rfl (by (try simp only [List.map_toArray, List.map_cons, List.map_nil]); first | done | rfl | (simp only [List.length_drop, List.length_take]; rfl)) ?_
                    with_reducible refine (split_Next.calls k4 a0_0 _ _ l0_1 a0_2 a0_3 (rd l0_4 x4_1) x10_4 t300 t301 _ ?side1 ?side2 A67.out).mono ?_
                    (case side1 => repeat (first | exact (Kd.C_below HR0_1.out HB.out) | (with_reducible refine Kd.C_alloc ?_ _) | (with_reducible refine Kd.C_drewN ?_ _) | (with_reducible refine Kd.C_drew ?_)))
                    (case side2 => exact HC0_1.out)
                    rintro e w70 ⟨rfl, hb⟩
                    refine ⟨_, rfl, ?_⟩
                    have n0_ := Aside0.mk (blk_below (g := gb280) (o := .cells #[.int .i64 a0_0, .slice A0_1 l0_1.length c0_1, .int .i64 a0_2, .int .i64 a0_3, .slice (some ad286) l0_4.length c0_4] 57 (0, 0)) (bk_ BK280) hb)
                    have n1_ := Aside0.mk (below_step (be_ HB) hb)
                    clear BK280
                    clear HB
                    have BK280 := n0_
                    have HB := n1_
                    clear n0_ n1_
                    (try clear hb)
                    (try clear hb2)
                    (try clear hk)
                    (try clear hi)
                    refine hK.out _ _ ⟨bc_ BK280 0, bc_ BK280 1, bc_ BK280 2, bc_ BK280 3, bc_ BK280 4, ((HB.out.cell (World.block_lt_of_cell? w _ hw299_0)).trans hw299_0)⟩ (fun hHeld => ?_)
                    clear hK K
                    refine nm 99 ?_
                    refine pu HT_ 9 90 (zb 14 1023) ?_
                    refine pu HT_ 10 100 (zb 14 2047) ?_
                    refine pu HT_ 11 101 (zb 14 4095) ?_
                    refine pu HT_ 12 11 (zb 14 8191) ?_
                    refine pu HT_ 13 12 (zb 14 16383) ?_
                    refine done_ (done_of HT_.out (by kernel_rfl)) ?_
                    go_upto_region 24 with (fail)
                    go_cut [109] (fun v109 wc => ∃ (kq : Nat) (x109_67 : Bool), v109 = .bool x109_67 ∧ Aside0 (thresherlaw12_SplitFinds.j4 kq t282 x4_1 t287 x10_4 t300 t301 1 0 x109_67 a0_0 l0_1 a0_2 a0_3 l0_4 = some r) ∧ Aside0 (kq ≤ k4) ∧ Aside0 (wc.heap[gb280]? = some (.cells #[.int .i64 a0_0, (.slice A0_1 l0_1.length c0_1), .int .i64 a0_2, .int .i64 a0_3, (.slice (some ad286) l0_4.length c0_4)] 57 (0, 0))) ∧ Aside0 (Below w.heap.size w wc))
                    case first =>
                     as_aux_lemma =>
                     have H := HC68.out
                     clear HC68
                     by_cases c71 : t282 = true
                     ·
                      subst c71
                      have H1 : ((thresherref0_Num.f x10_4 a0_0).bind fun t302 => (thresherlaw12_SplitFinds.j4 k4 true x4_1 t287 x10_4 t300 t301 1 0 t302 a0_0 l0_1 a0_2 a0_3 l0_4)) = some r := by rw [if_pos rfl] at H; exact H
                      clear H
                      have H := H1
                      clear H1
                      replace H := Option.bind_eq_some_iff.mp H
                      obtain ⟨t302, A720, H⟩ := H
                      replace H : (thresherlaw12_SplitFinds.j4 k4 true x4_1 t287 x10_4 t300 t301 1 0 t302 a0_0 l0_1 a0_2 a0_3 l0_4) = some r := H
                      have A72 := Aside0.mk A720
                      clear A720
                      have H' := Aside0.mk H
                      clear H
                      have hcz73_0 : w70.cell? ⟨gb280, 0, none⟩ = some (.int .i64 a0_0) := bc_ BK280 0
                      have hcz73_1 : w70.cell? ⟨gb280, 1, none⟩ = some (.slice A0_1 l0_1.length c0_1) := bc_ BK280 1
                      have hcz73_2 : w70.cell? ⟨gb280, 2, none⟩ = some (.int .i64 a0_2) := bc_ BK280 2
                      have hcz73_3 : w70.cell? ⟨gb280, 3, none⟩ = some (.int .i64 a0_3) := bc_ BK280 3
                      have hcz73_4 : w70.cell? ⟨gb280, 4, none⟩ = some (.slice (some ad286) l0_4.length c0_4) := bc_ BK280 4
                      have hfz73_0 := blk_frozen BK280.out 0
                      have hfz73_1 := blk_frozen BK280.out 1
                      have hfz73_2 := blk_frozen BK280.out 2
                      have hfz73_3 := blk_frozen BK280.out 3
                      have hfz73_4 := blk_frozen BK280.out 4
                      go_wp2_with (first | (go_at_call 33; (with_reducible refine (thresherref0_Num.calls x10_4 a0_0 t302 _ A72.out).mono ?_); rintro e w' ⟨rfl, ⟨nd, rfl⟩⟩))
                      go_meet
                      case rel => exact ⟨_, (t302), eq_, H', ⟨by have := HK1.out; have := HJ24.out; have := HJ33.out; have := HK4.out; first | omega | exact Nat.le_refl _⟩, ⟨bk_ BK280⟩, ⟨be_ HB⟩⟩
                     ·
                      replace c71 := Bool.eq_false_iff.mpr c71
                      subst c71
                      have H1 : (thresherlaw12_SplitFinds.j4 k4 false x4_1 t287 x10_4 t300 t301 1 0 false a0_0 l0_1 a0_2 a0_3 l0_4) = some r := by rw [if_neg (show ¬ (false = true) by decide)] at H; exact H
                      clear H
                      have H := H1
                      clear H1
                      have H' := Aside0.mk H
                      clear H
                      go_wp2
                      go_meet
                      case rel => exact ⟨_, (false), eq_, H', ⟨by have := HK1.out; have := HJ24.out; have := HJ33.out; have := HK4.out; first | omega | exact Nat.le_refl _⟩, ⟨bk_ BK280⟩, ⟨be_ HB⟩⟩
                    case rest =>
                     as_aux_lemma =>
                     clear HC68
                     (try clear c1); (try clear c2); (try clear p2); (try clear q2); (try clear hx2); (try clear c3); (try clear c4); (try clear c5); (try clear c6); (try clear c7); (try clear c10); (try clear c10b0)
                     (try clear c10b1); (try clear c10b2); (try clear c23); (try clear c24); (try clear c25); (try clear c26); (try clear c26b0); (try clear c28); (try clear p28); (try clear q28); (try clear hx28); (try clear c29)
                     (try clear p29); (try clear q29); (try clear hx29); (try clear c30); (try clear c30b0); (try clear c31); (try clear c31b0); (try clear c32); (try clear c46); (try clear c47); (try clear c50); (try clear c50b0)
                     (try clear c50b1); (try clear c52); (try clear c53); (try clear c55); (try clear c58); (try clear c60); (try clear c61); (try clear c64); (try clear c64b0); (try clear c65); (try clear c65b0); (try clear c66)
                     (try clear c66b0); (try clear c71); (try clear hcz12_0); (try clear hcz12_1); (try clear hcz12_2); (try clear hcz12_3); (try clear hcz12_4); (try clear hcz14_0); (try clear hcz14_1); (try clear hcz14_2); (try clear hcz14_3); (try clear hcz14_4)
                     (try clear hcz16_0); (try clear hcz16_1); (try clear hcz16_2); (try clear hcz16_3); (try clear hcz16_4); (try clear hcz19_0); (try clear hcz19_1); (try clear hcz19_2); (try clear hcz19_3); (try clear hcz19_4); (try clear hcz21_0); (try clear hcz21_1)
                     (try clear hcz21_2); (try clear hcz21_3); (try clear hcz21_4); (try clear hcz23_0); (try clear hcz23_1); (try clear hcz23_2); (try clear hcz23_3); (try clear hcz23_4); (try clear hcz27_0); (try clear hcz27_1); (try clear hcz27_2); (try clear hcz27_3)
                     (try clear hcz27_4); (try clear hcz28_0); (try clear hcz28_1); (try clear hcz28_2); (try clear hcz28_3); (try clear hcz28_4); (try clear hcz48_0); (try clear hcz48_1); (try clear hcz48_2); (try clear hcz54_0); (try clear hcz54_1); (try clear hcz54_2)
                     (try clear hcz56_0); (try clear hcz56_1); (try clear hcz56_2); (try clear hcz5_0); (try clear hcz5_1); (try clear hcz5_2); (try clear hcz5_3); (try clear hcz5_4); (try clear hcz62_0); (try clear hcz62_1); (try clear hcz62_2); (try clear hcz73_0)
                     (try clear hcz73_1); (try clear hcz73_2); (try clear hcz73_3); (try clear hcz73_4); (try clear hfz12_0); (try clear hfz12_1); (try clear hfz12_2); (try clear hfz12_3); (try clear hfz12_4); (try clear hfz14_0); (try clear hfz14_1); (try clear hfz14_2)
                     (try clear hfz14_3); (try clear hfz14_4); (try clear hfz16_0); (try clear hfz16_1); (try clear hfz16_2); (try clear hfz16_3); (try clear hfz16_4); (try clear hfz19_0); (try clear hfz19_1); (try clear hfz19_2); (try clear hfz19_3); (try clear hfz19_4)
                     (try clear hfz21_0); (try clear hfz21_1); (try clear hfz21_2); (try clear hfz21_3); (try clear hfz21_4); (try clear hfz23_0); (try clear hfz23_1); (try clear hfz23_2); (try clear hfz23_3); (try clear hfz23_4); (try clear hfz27_0); (try clear hfz27_1)
                     (try clear hfz27_2); (try clear hfz27_3); (try clear hfz27_4); (try clear hfz28_0); (try clear hfz28_1); (try clear hfz28_2); (try clear hfz28_3); (try clear hfz28_4); (try clear hfz48_0); (try clear hfz48_1); (try clear hfz48_2); (try clear hfz54_0)
                     (try clear hfz54_1); (try clear hfz54_2); (try clear hfz56_0); (try clear hfz56_1); (try clear hfz56_2); (try clear hfz5_0); (try clear hfz5_1); (try clear hfz5_2); (try clear hfz5_3); (try clear hfz5_4); (try clear hfz62_0); (try clear hfz62_1)
                     (try clear hfz62_2); (try clear hfz73_0); (try clear hfz73_1); (try clear hfz73_2); (try clear hfz73_3); (try clear hfz73_4); (try clear hx286_0); (try clear hx288_0); (try clear hx299_0); (try clear p2); (try clear p28); (try clear p286)
                     (try clear p288); (try clear p299); (try clear q2); (try clear q28); (try clear q286); (try clear q288); (try clear q299)
                     obtain ⟨kq, x109_67, rfl, HA, HJ67, BK280, HB⟩ := hcut
                     cases kq with
                     | zero => exact absurd HA.out (by simp [thresherlaw12_SplitFinds.j4])
                     | succ kj67 =>
                      have H := HA.out
                      clear HA
                      simp only [thresherlaw12_SplitFinds.j4] at H
                      by_cases c74 : x109_67 = true
                      ·
                       subst c74
                       have H1 : (if t287 ≥ 0 then (if 0 ≤ t287 then (if t287 < (l0_1.length : Int) then ((thresherref11_Next.f kj67 ((rd_T61 l0_1 t287).f0) ((rd_T61 l0_1 t287).f1) ((rd_T61 l0_1 t287).f2) x10_4).bind fun t304 => ((thresherlaw12_num.f t301).bind fun t305 => (if t305 = 0 then (if t300 = t304 then (thresherlaw12_SplitFinds.l1 kj67 t282 x4_1 t287 (wrap64 (x10_4 + 1)) a0_0 l0_1 a0_2 a0_3 l0_4) else (some false)) else (some false)))) else (none)) else (none)) else ((thresherlaw12_num.f t301).bind fun t306 => (if t306 = 3 then (if t300 = 0 then (thresherlaw12_SplitFinds.l1 kj67 t282 x4_1 t287 (wrap64 (x10_4 + 1)) a0_0 l0_1 a0_2 a0_3 l0_4) else (some false)) else (some false)))) = some r := by rw [if_pos rfl] at H; exact H
                       clear H
                       have H := H1
                       clear H1
                       by_cases c75 : t287 ≥ 0
                       ·
                        rw [if_pos c75] at H
                        have c75b0 : decide (0 ≤ t287) = true := decide_eq_true c75
                        clear c75
                        by_cases c76 : 0 ≤ t287
                        ·
                         rw [if_pos c76] at H
                         have c76b0 : decide (0 ≤ t287) = true := decide_eq_true c76
                         clear c76
                         by_cases c77 : t287 < (l0_1.length : Int)
                         ·
                          rw [if_pos c77] at H
                          have c77b0 : decide (t287 < (l0_1.length : Int)) = true := decide_eq_true c77
                          clear c77
                          replace H := Option.bind_eq_some_iff.mp H
                          obtain ⟨t304, A780, H⟩ := H
                          replace H : ((thresherlaw12_num.f t301).bind fun t305 => (if t305 = 0 then (if t300 = t304 then (thresherlaw12_SplitFinds.l1 kj67 t282 x4_1 t287 (wrap64 (x10_4 + 1)) a0_0 l0_1 a0_2 a0_3 l0_4) else (some false)) else (some false))) = some r := H
                          have A78 := Aside0.mk A780
                          clear A780
                          replace H := Option.bind_eq_some_iff.mp H
                          obtain ⟨t305, A790, H⟩ := H
                          replace H : (if t305 = 0 then (if t300 = t304 then (thresherlaw12_SplitFinds.l1 kj67 t282 x4_1 t287 (wrap64 (x10_4 + 1)) a0_0 l0_1 a0_2 a0_3 l0_4) else (some false)) else (some false)) = some r := H
                          have A79 := Aside0.mk A790
                          clear A790
                          by_cases c80 : t305 = 0
                          ·
                           rw [if_pos c80] at H
                           have c80b0 : (t305 == 0) = true := beq_iff_eq.mpr c80
                           have c80b1 : (t305 != 0) = false := bne_eq_false_iff_eq.mpr c80
                           clear c80
                           by_cases c81 : t300 = t304
                           ·
                            rw [if_pos c81] at H
                            have c81b0 : (t300 == t304) = true := beq_iff_eq.mpr c81
                            have c81b1 : (t300 != t304) = false := bne_eq_false_iff_eq.mpr c81
                            clear c81
                            have H' := Aside0.mk H
                            clear H
                            have hcz82_0 : wc.cell? ⟨gb280, 0, none⟩ = some (.int .i64 a0_0) := bc_ BK280 0
                            have hcz82_1 : wc.cell? ⟨gb280, 1, none⟩ = some (.slice A0_1 l0_1.length c0_1) := bc_ BK280 1
                            have hcz82_2 : wc.cell? ⟨gb280, 2, none⟩ = some (.int .i64 a0_2) := bc_ BK280 2
                            have hcz82_3 : wc.cell? ⟨gb280, 3, none⟩ = some (.int .i64 a0_3) := bc_ BK280 3
                            have hcz82_4 : wc.cell? ⟨gb280, 4, none⟩ = some (.slice (some ad286) l0_4.length c0_4) := bc_ BK280 4
                            have hfz82_0 := blk_frozen BK280.out 0
                            have hfz82_1 := blk_frozen BK280.out 1
                            have hfz82_2 := blk_frozen BK280.out 2
                            have hfz82_3 := blk_frozen BK280.out 3
                            have hfz82_4 := blk_frozen BK280.out 4
                            have p303 : 0 ≤ (t287 : Int) := dc_
                            have q303 : t287 < (l0_1.length : Int) := dc_
                            obtain ⟨ad303, A303_2, c303_2, e303, hx303_0, hx303_1, hx303_2, hl303_2, hi303_2⟩ := at_T61 HR0_1.out t287 p303 q303
                            cases e303
                            replace hx303_0 := (HB.out.cell (World.block_lt_of_cell? w _ hx303_0)).trans hx303_0
                            replace hx303_1 := (HB.out.cell (World.block_lt_of_cell? w _ hx303_1)).trans hx303_1
                            replace hx303_2 := (HB.out.cell (World.block_lt_of_cell? w _ hx303_2)).trans hx303_2
                            have HR303_2 := Aside0.mk hi303_2
                            have HC303_2 := Aside0.mk hl303_2
                            clear hi303_2 hl303_2
                            replace p303 := eq_true p303
                            replace q303 := eq_true q303
                            go_wp2_with (first | ((with_reducible refine gate_callee (f := 34) rfl ?_); refine goesL_ (some 119) rfl rfl Try.func34 (by kernel_rfl) rfl #[.agg #[.int .i64 ((rd_T61 l0_1 t287).f0), .string ((rd_T61 l0_1 t287).f1), .slice A303_2 ((rd_T61 l0_1 t287).f2).length c303_2], .int .i64 x10_4] rfl (by (try simp only [List.map_toArray, List.map_cons, List.map_nil]); first | done | rfl | (simp only [List.length_drop, List.length_take]; rfl)) ?_; (with_reducible refine (thresherref11_Next.calls kj67 ((rd_T61 l0_1 t287).f0) ((rd_T61 l0_1 t287).f1) _ _ ((rd_T61 l0_1 t287).f2) x10_4 t304 _ ?side1 ?side2 A78.out).mono ?_); (case side1 => repeat (first | exact (Kd.C_below HR303_2.out HB.out) | (with_reducible refine Kd.C_alloc ?_ _) | (with_reducible refine Kd.C_drewN ?_ _) | (with_reducible refine Kd.C_drew ?_))); (case side2 => exact HC303_2.out); rintro e w83 ⟨rfl, hb⟩; refine ⟨_, rfl, ?_⟩; have n0_ := Aside0.mk (blk_below (g := gb280) (o := .cells #[.int .i64 a0_0, .slice (some ad303) l0_1.length c0_1, .int .i64 a0_2, .int .i64 a0_3, .slice (some ad286) l0_4.length c0_4] 57 (0, 0)) (bk_ BK280) hb); have n1_ := Aside0.mk (below_step (be_ HB) hb); clear BK280; clear HB; have BK280 := n0_; have HB := n1_; clear n0_ n1_; (try clear hb); (try clear hb2); (try clear hk); (try clear hi)) | ((with_reducible refine gate_callee (f := 26) rfl ?_); refine goesL_ (some 121) rfl rfl Try.func26 (by kernel_rfl) rfl #[.int .i64 t301] rfl (by (try simp only [List.map_toArray, List.map_cons, List.map_nil]); first | done | rfl | (simp only [List.length_drop, List.length_take]; rfl)) ?_; (with_reducible refine (thresherlaw12_num.calls t301 t305 _ A79.out).mono ?_); rintro e w' ⟨rfl, ⟨nd, rfl⟩⟩; refine ⟨_, rfl, ?_⟩))
                            go_roundg kj67
                            case measure => have := HK1.out; have := HJ24.out; have := HJ33.out; have := HK4.out; have := HJ67.out; omega
                            case rel => exact ⟨(wrap64 (x10_4 + 1)), eq_, H', ⟨by have := HK1.out; have := HJ24.out; have := HJ33.out; have := HK4.out; have := HJ67.out; omega⟩, ⟨bk_ BK280⟩, ⟨be_ HB⟩⟩
                           ·
                            rw [if_neg c81] at H
                            have c81b0 : (t300 == t304) = false := beq_eq_false_iff_ne.mpr c81
                            have c81b1 : (t300 != t304) = true := bne_iff_ne.mpr c81
                            obtain rfl := Option.some.inj H
                            have hcz84_0 : wc.cell? ⟨gb280, 0, none⟩ = some (.int .i64 a0_0) := bc_ BK280 0
                            have hcz84_1 : wc.cell? ⟨gb280, 1, none⟩ = some (.slice A0_1 l0_1.length c0_1) := bc_ BK280 1
                            have hcz84_2 : wc.cell? ⟨gb280, 2, none⟩ = some (.int .i64 a0_2) := bc_ BK280 2
                            have hcz84_3 : wc.cell? ⟨gb280, 3, none⟩ = some (.int .i64 a0_3) := bc_ BK280 3
                            have hcz84_4 : wc.cell? ⟨gb280, 4, none⟩ = some (.slice (some ad286) l0_4.length c0_4) := bc_ BK280 4
                            have hfz84_0 := blk_frozen BK280.out 0
                            have hfz84_1 := blk_frozen BK280.out 1
                            have hfz84_2 := blk_frozen BK280.out 2
                            have hfz84_3 := blk_frozen BK280.out 3
                            have hfz84_4 := blk_frozen BK280.out 4
                            have p303 : 0 ≤ (t287 : Int) := dc_
                            have q303 : t287 < (l0_1.length : Int) := dc_
                            obtain ⟨ad303, A303_2, c303_2, e303, hx303_0, hx303_1, hx303_2, hl303_2, hi303_2⟩ := at_T61 HR0_1.out t287 p303 q303
                            cases e303
                            replace hx303_0 := (HB.out.cell (World.block_lt_of_cell? w _ hx303_0)).trans hx303_0
                            replace hx303_1 := (HB.out.cell (World.block_lt_of_cell? w _ hx303_1)).trans hx303_1
                            replace hx303_2 := (HB.out.cell (World.block_lt_of_cell? w _ hx303_2)).trans hx303_2
                            have HR303_2 := Aside0.mk hi303_2
                            have HC303_2 := Aside0.mk hl303_2
                            clear hi303_2 hl303_2
                            replace p303 := eq_true p303
                            replace q303 := eq_true q303
                            go_wp2_with (first | ((with_reducible refine gate_callee (f := 34) rfl ?_); refine goesL_ (some 119) rfl rfl Try.func34 (by kernel_rfl) rfl #[.agg #[.int .i64 ((rd_T61 l0_1 t287).f0), .string ((rd_T61 l0_1 t287).f1), .slice A303_2 ((rd_T61 l0_1 t287).f2).length c303_2], .int .i64 x10_4] rfl (by (try simp only [List.map_toArray, List.map_cons, List.map_nil]); first | done | rfl | (simp only [List.length_drop, List.length_take]; rfl)) ?_; (with_reducible refine (thresherref11_Next.calls kj67 ((rd_T61 l0_1 t287).f0) ((rd_T61 l0_1 t287).f1) _ _ ((rd_T61 l0_1 t287).f2) x10_4 t304 _ ?side1 ?side2 A78.out).mono ?_); (case side1 => repeat (first | exact (Kd.C_below HR303_2.out HB.out) | (with_reducible refine Kd.C_alloc ?_ _) | (with_reducible refine Kd.C_drewN ?_ _) | (with_reducible refine Kd.C_drew ?_))); (case side2 => exact HC303_2.out); rintro e w85 ⟨rfl, hb⟩; refine ⟨_, rfl, ?_⟩; have n0_ := Aside0.mk (blk_below (g := gb280) (o := .cells #[.int .i64 a0_0, .slice (some ad303) l0_1.length c0_1, .int .i64 a0_2, .int .i64 a0_3, .slice (some ad286) l0_4.length c0_4] 57 (0, 0)) (bk_ BK280) hb); have n1_ := Aside0.mk (below_step (be_ HB) hb); clear BK280; clear HB; have BK280 := n0_; have HB := n1_; clear n0_ n1_; (try clear hb); (try clear hb2); (try clear hk); (try clear hi)) | ((with_reducible refine gate_callee (f := 26) rfl ?_); refine goesL_ (some 121) rfl rfl Try.func26 (by kernel_rfl) rfl #[.int .i64 t301] rfl (by (try simp only [List.map_toArray, List.map_cons, List.map_nil]); first | done | rfl | (simp only [List.length_drop, List.length_take]; rfl)) ?_; (with_reducible refine (thresherlaw12_num.calls t301 t305 _ A79.out).mono ?_); rintro e w' ⟨rfl, ⟨nd, rfl⟩⟩; refine ⟨_, rfl, ?_⟩))
                            go_ret
                            exact ⟨re_, be_ HB⟩
                          ·
                           rw [if_neg c80] at H
                           have c80b0 : (t305 == 0) = false := beq_eq_false_iff_ne.mpr c80
                           have c80b1 : (t305 != 0) = true := bne_iff_ne.mpr c80
                           obtain rfl := Option.some.inj H
                           have hcz86_0 : wc.cell? ⟨gb280, 0, none⟩ = some (.int .i64 a0_0) := bc_ BK280 0
                           have hcz86_1 : wc.cell? ⟨gb280, 1, none⟩ = some (.slice A0_1 l0_1.length c0_1) := bc_ BK280 1
                           have hcz86_2 : wc.cell? ⟨gb280, 2, none⟩ = some (.int .i64 a0_2) := bc_ BK280 2
                           have hcz86_3 : wc.cell? ⟨gb280, 3, none⟩ = some (.int .i64 a0_3) := bc_ BK280 3
                           have hcz86_4 : wc.cell? ⟨gb280, 4, none⟩ = some (.slice (some ad286) l0_4.length c0_4) := bc_ BK280 4
                           have hfz86_0 := blk_frozen BK280.out 0
                           have hfz86_1 := blk_frozen BK280.out 1
                           have hfz86_2 := blk_frozen BK280.out 2
                           have hfz86_3 := blk_frozen BK280.out 3
                           have hfz86_4 := blk_frozen BK280.out 4
                           have p303 : 0 ≤ (t287 : Int) := dc_
                           have q303 : t287 < (l0_1.length : Int) := dc_
                           obtain ⟨ad303, A303_2, c303_2, e303, hx303_0, hx303_1, hx303_2, hl303_2, hi303_2⟩ := at_T61 HR0_1.out t287 p303 q303
                           cases e303
                           replace hx303_0 := (HB.out.cell (World.block_lt_of_cell? w _ hx303_0)).trans hx303_0
                           replace hx303_1 := (HB.out.cell (World.block_lt_of_cell? w _ hx303_1)).trans hx303_1
                           replace hx303_2 := (HB.out.cell (World.block_lt_of_cell? w _ hx303_2)).trans hx303_2
                           have HR303_2 := Aside0.mk hi303_2
                           have HC303_2 := Aside0.mk hl303_2
                           clear hi303_2 hl303_2
                           replace p303 := eq_true p303
                           replace q303 := eq_true q303
                           go_wp2_with (first | ((with_reducible refine gate_callee (f := 34) rfl ?_); refine goesL_ (some 119) rfl rfl Try.func34 (by kernel_rfl) rfl #[.agg #[.int .i64 ((rd_T61 l0_1 t287).f0), .string ((rd_T61 l0_1 t287).f1), .slice A303_2 ((rd_T61 l0_1 t287).f2).length c303_2], .int .i64 x10_4] rfl (by (try simp only [List.map_toArray, List.map_cons, List.map_nil]); first | done | rfl | (simp only [List.length_drop, List.length_take]; rfl)) ?_; (with_reducible refine (thresherref11_Next.calls kj67 ((rd_T61 l0_1 t287).f0) ((rd_T61 l0_1 t287).f1) _ _ ((rd_T61 l0_1 t287).f2) x10_4 t304 _ ?side1 ?side2 A78.out).mono ?_); (case side1 => repeat (first | exact (Kd.C_below HR303_2.out HB.out) | (with_reducible refine Kd.C_alloc ?_ _) | (with_reducible refine Kd.C_drewN ?_ _) | (with_reducible refine Kd.C_drew ?_))); (case side2 => exact HC303_2.out); rintro e w87 ⟨rfl, hb⟩; refine ⟨_, rfl, ?_⟩; have n0_ := Aside0.mk (blk_below (g := gb280) (o := .cells #[.int .i64 a0_0, .slice (some ad303) l0_1.length c0_1, .int .i64 a0_2, .int .i64 a0_3, .slice (some ad286) l0_4.length c0_4] 57 (0, 0)) (bk_ BK280) hb); have n1_ := Aside0.mk (below_step (be_ HB) hb); clear BK280; clear HB; have BK280 := n0_; have HB := n1_; clear n0_ n1_; (try clear hb); (try clear hb2); (try clear hk); (try clear hi)) | ((with_reducible refine gate_callee (f := 26) rfl ?_); refine goesL_ (some 121) rfl rfl Try.func26 (by kernel_rfl) rfl #[.int .i64 t301] rfl (by (try simp only [List.map_toArray, List.map_cons, List.map_nil]); first | done | rfl | (simp only [List.length_drop, List.length_take]; rfl)) ?_; (with_reducible refine (thresherlaw12_num.calls t301 t305 _ A79.out).mono ?_); rintro e w' ⟨rfl, ⟨nd, rfl⟩⟩; refine ⟨_, rfl, ?_⟩))
                           go_ret
                           exact ⟨re_, be_ HB⟩
                         ·
                          rw [if_neg c77] at H
                          exact absurd H (by simp)
                        ·
                         rw [if_neg c76] at H
                         exact absurd H (by simp)
                       ·
                        rw [if_neg c75] at H
                        have c75b0 : decide (0 ≤ t287) = false := decide_eq_false c75
                        clear c75
                        replace H := Option.bind_eq_some_iff.mp H
                        obtain ⟨t306, A880, H⟩ := H
                        replace H : (if t306 = 3 then (if t300 = 0 then (thresherlaw12_SplitFinds.l1 kj67 t282 x4_1 t287 (wrap64 (x10_4 + 1)) a0_0 l0_1 a0_2 a0_3 l0_4) else (some false)) else (some false)) = some r := H
                        have A88 := Aside0.mk A880
                        clear A880
                        by_cases c89 : t306 = 3
                        ·
                         rw [if_pos c89] at H
                         have c89b0 : (t306 == 3) = true := beq_iff_eq.mpr c89
                         have c89b1 : (t306 != 3) = false := bne_eq_false_iff_eq.mpr c89
                         clear c89
                         by_cases c90 : t300 = 0
                         ·
                          rw [if_pos c90] at H
                          have c90b0 : (t300 == 0) = true := beq_iff_eq.mpr c90
                          have c90b1 : (t300 != 0) = false := bne_eq_false_iff_eq.mpr c90
                          clear c90
                          have H' := Aside0.mk H
                          clear H
                          go_wp2_with (first | ((with_reducible refine gate_callee (f := 26) rfl ?_); refine goesL_ (some 121) rfl rfl Try.func26 (by kernel_rfl) rfl #[.int .i64 t301] rfl (by (try simp only [List.map_toArray, List.map_cons, List.map_nil]); first | done | rfl | (simp only [List.length_drop, List.length_take]; rfl)) ?_; (with_reducible refine (thresherlaw12_num.calls t301 t306 _ A88.out).mono ?_); rintro e w' ⟨rfl, ⟨nd, rfl⟩⟩; refine ⟨_, rfl, ?_⟩))
                          go_roundg kj67
                          case measure => have := HK1.out; have := HJ24.out; have := HJ33.out; have := HK4.out; have := HJ67.out; omega
                          case rel => exact ⟨(wrap64 (x10_4 + 1)), eq_, H', ⟨by have := HK1.out; have := HJ24.out; have := HJ33.out; have := HK4.out; have := HJ67.out; omega⟩, ⟨bk_ BK280⟩, ⟨be_ HB⟩⟩
                         ·
                          rw [if_neg c90] at H
                          have c90b0 : (t300 == 0) = false := beq_eq_false_iff_ne.mpr c90
                          have c90b1 : (t300 != 0) = true := bne_iff_ne.mpr c90
                          obtain rfl := Option.some.inj H
                          go_wp2_with (first | ((with_reducible refine gate_callee (f := 26) rfl ?_); refine goesL_ (some 121) rfl rfl Try.func26 (by kernel_rfl) rfl #[.int .i64 t301] rfl (by (try simp only [List.map_toArray, List.map_cons, List.map_nil]); first | done | rfl | (simp only [List.length_drop, List.length_take]; rfl)) ?_; (with_reducible refine (thresherlaw12_num.calls t301 t306 _ A88.out).mono ?_); rintro e w' ⟨rfl, ⟨nd, rfl⟩⟩; refine ⟨_, rfl, ?_⟩))
                          go_ret
                          exact ⟨re_, be_ HB⟩
                        ·
                         rw [if_neg c89] at H
                         have c89b0 : (t306 == 3) = false := beq_eq_false_iff_ne.mpr c89
                         have c89b1 : (t306 != 3) = true := bne_iff_ne.mpr c89
                         obtain rfl := Option.some.inj H
                         go_wp2_with (first | ((with_reducible refine gate_callee (f := 26) rfl ?_); refine goesL_ (some 121) rfl rfl Try.func26 (by kernel_rfl) rfl #[.int .i64 t301] rfl (by (try simp only [List.map_toArray, List.map_cons, List.map_nil]); first | done | rfl | (simp only [List.length_drop, List.length_take]; rfl)) ?_; (with_reducible refine (thresherlaw12_num.calls t301 t306 _ A88.out).mono ?_); rintro e w' ⟨rfl, ⟨nd, rfl⟩⟩; refine ⟨_, rfl, ?_⟩))
                         go_ret
                         exact ⟨re_, be_ HB⟩
                      ·
                       replace c74 := Bool.eq_false_iff.mpr c74
                       subst c74
                       have H1 : ((thresherlaw12_num.f t301).bind fun t307 => (if t307 = 1 then (if t300 = 0 then (thresherlaw12_SplitFinds.l1 kj67 t282 x4_1 t287 (wrap64 (x10_4 + 1)) a0_0 l0_1 a0_2 a0_3 l0_4) else (some false)) else (some false))) = some r := by rw [if_neg (show ¬ (false = true) by decide)] at H; exact H
                       clear H
                       have H := H1
                       clear H1
                       replace H := Option.bind_eq_some_iff.mp H
                       obtain ⟨t307, A910, H⟩ := H
                       replace H : (if t307 = 1 then (if t300 = 0 then (thresherlaw12_SplitFinds.l1 kj67 t282 x4_1 t287 (wrap64 (x10_4 + 1)) a0_0 l0_1 a0_2 a0_3 l0_4) else (some false)) else (some false)) = some r := H
                       have A91 := Aside0.mk A910
                       clear A910
                       by_cases c92 : t307 = 1
                       ·
                        rw [if_pos c92] at H
                        have c92b0 : (t307 == 1) = true := beq_iff_eq.mpr c92
                        have c92b1 : (t307 != 1) = false := bne_eq_false_iff_eq.mpr c92
                        clear c92
                        by_cases c93 : t300 = 0
                        ·
                         rw [if_pos c93] at H
                         have c93b0 : (t300 == 0) = true := beq_iff_eq.mpr c93
                         have c93b1 : (t300 != 0) = false := bne_eq_false_iff_eq.mpr c93
                         clear c93
                         have H' := Aside0.mk H
                         clear H
                         go_wp2_with (first | ((with_reducible refine gate_callee (f := 26) rfl ?_); refine goesL_ (some 121) rfl rfl Try.func26 (by kernel_rfl) rfl #[.int .i64 t301] rfl (by (try simp only [List.map_toArray, List.map_cons, List.map_nil]); first | done | rfl | (simp only [List.length_drop, List.length_take]; rfl)) ?_; (with_reducible refine (thresherlaw12_num.calls t301 t307 _ A91.out).mono ?_); rintro e w' ⟨rfl, ⟨nd, rfl⟩⟩; refine ⟨_, rfl, ?_⟩))
                         go_roundg kj67
                         case measure => have := HK1.out; have := HJ24.out; have := HJ33.out; have := HK4.out; have := HJ67.out; omega
                         case rel => exact ⟨(wrap64 (x10_4 + 1)), eq_, H', ⟨by have := HK1.out; have := HJ24.out; have := HJ33.out; have := HK4.out; have := HJ67.out; omega⟩, ⟨bk_ BK280⟩, ⟨be_ HB⟩⟩
                        ·
                         rw [if_neg c93] at H
                         have c93b0 : (t300 == 0) = false := beq_eq_false_iff_ne.mpr c93
                         have c93b1 : (t300 != 0) = true := bne_iff_ne.mpr c93
                         obtain rfl := Option.some.inj H
                         go_wp2_with (first | ((with_reducible refine gate_callee (f := 26) rfl ?_); refine goesL_ (some 121) rfl rfl Try.func26 (by kernel_rfl) rfl #[.int .i64 t301] rfl (by (try simp only [List.map_toArray, List.map_cons, List.map_nil]); first | done | rfl | (simp only [List.length_drop, List.length_take]; rfl)) ?_; (with_reducible refine (thresherlaw12_num.calls t301 t307 _ A91.out).mono ?_); rintro e w' ⟨rfl, ⟨nd, rfl⟩⟩; refine ⟨_, rfl, ?_⟩))
                         go_ret
                         exact ⟨re_, be_ HB⟩
                       ·
                        rw [if_neg c92] at H
                        have c92b0 : (t307 == 1) = false := beq_eq_false_iff_ne.mpr c92
                        have c92b1 : (t307 != 1) = true := bne_iff_ne.mpr c92
                        obtain rfl := Option.some.inj H
                        go_wp2_with (first | ((with_reducible refine gate_callee (f := 26) rfl ?_); refine goesL_ (some 121) rfl rfl Try.func26 (by kernel_rfl) rfl #[.int .i64 t301] rfl (by (try simp only [List.map_toArray, List.map_cons, List.map_nil]); first | done | rfl | (simp only [List.length_drop, List.length_take]; rfl)) ?_; (with_reducible refine (thresherlaw12_num.calls t301 t307 _ A91.out).mono ?_); rintro e w' ⟨rfl, ⟨nd, rfl⟩⟩; refine ⟨_, rfl, ?_⟩))
                        go_ret
                        exact ⟨re_, be_ HB⟩
                   ·
                    rw [if_neg c66] at H
                    exact absurd H (by simp)
                  ·
                   rw [if_neg c65] at H
                   exact absurd H (by simp)
                 ·
                  rw [if_neg c64] at H
                  have c64b0 : decide (x10_4 ≤ 4) = false := decide_eq_false c64
                  clear c64
                  obtain ⟨ji94, hji94⟩ : ∃ j_ : Int, (wrap64 (x4_1 + 1)) = j_ := ⟨_, rfl⟩
                  replace H : (if 0 ≤ (ji94) then (if (ji94) ≤ (l0_4.length : Int) then ((split_Recs.f k4 a0_0 l0_1 a0_2 a0_3 (l0_4.take ((ji94) : Int).toNat)).bind fun bt309 => (if t282 = true then (thresherlaw12_SplitFinds.l2 k4 t282 x4_1 bt309.1 bt309.2 0 ([] : List (S32)) 0 a0_0 l0_1 a0_2 a0_3 l0_4) else (thresherlaw12_SplitFinds.j6 k4 t282 x4_1 bt309.1 bt309.2 1 ([] : List (S32)) a0_0 l0_1 a0_2 a0_3 l0_4))) else (none)) else (none)) = some r := by first | (rw [hji94] at H; exact H) | (simp only [hji94] at H ⊢; exact H)
                  have hji94w : (IntKind.i64.wrap (x4_1 + 1)) = ji94 := (i64_w _).trans hji94
                  by_cases c95 : 0 ≤ (ji94)
                  ·
                   rw [if_pos c95] at H
                   have c95b0 := eq_true c95
                   have c95b1 : decide (0 ≤ (ji94)) = true := decide_eq_true c95
                   clear c95
                   by_cases c96 : (ji94) ≤ (l0_4.length : Int)
                   ·
                    rw [if_pos c96] at H
                    have c96b0 := eq_true c96
                    have c96b1 : decide ((ji94) ≤ (l0_4.length : Int)) = true := decide_eq_true c96
                    clear c96
                    replace H := Option.bind_eq_some_iff.mp H
                    obtain ⟨⟨t309, t312⟩, A970, H⟩ := H
                    replace H : (if t282 = true then (thresherlaw12_SplitFinds.l2 k4 t282 x4_1 t309 t312 0 ([] : List (S32)) 0 a0_0 l0_1 a0_2 a0_3 l0_4) else (thresherlaw12_SplitFinds.j6 k4 t282 x4_1 t309 t312 1 ([] : List (S32)) a0_0 l0_1 a0_2 a0_3 l0_4)) = some r := H
                    have A97 := Aside0.mk A970
                    clear A970
                    have HC98 := Aside0.mk H
                    clear H
                    try go_wp2
                    have n0_ := Aside0.mk (blk_drew BK280.out)
                    have n1_ := Aside0.mk (below_drew1 HB.out)
                    clear BK280
                    clear HB
                    have BK280 := n0_
                    have HB := n1_
                    clear n0_ n1_
                    obtain ⟨i0100, hi0100, _, hsz100, _⟩ := info_parts info3
                    obtain ⟨hcut100, hA100, hC100⟩ := print_take_of (P := Try.prog) (Value.int .i64) 0 55 3 .i64 Try.underlying55 hi0100 hsz100 (some ad286) c0_4 l0_4 (ji94) (dc_) (dc_) HC0_4.out
                    have HR308 := Aside0.mk (Kd.C_of_reads (h1 := fun _ => rfl) (hA100 _ (Kd.reads_of_C HR0_4.out)))
                    have HC308 := Aside0.mk hC100
                    clear hA100 hC100 hi0100 hsz100
                    refine start_ (n := 13) (S := fun w' => w'.cell? ⟨gb280, 0, none⟩ = some (.int .i64 a0_0) ∧ w'.cell? ⟨gb280, 1, none⟩ = some (.slice A0_1 l0_1.length c0_1) ∧ w'.cell? ⟨gb280, 2, none⟩ = some (.int .i64 a0_2) ∧ w'.cell? ⟨gb280, 3, none⟩ = some (.int .i64 a0_3) ∧ w'.cell? ⟨gb280, 4, none⟩ = some (.slice (some ad286) l0_4.length c0_4)) (ds := []) #[false, false, false, false, false, false, false, false, false, false, false, false, false] (by kernel_rfl) rfl rfl ⟨bc_ BK280 0, bc_ BK280 1, bc_ BK280 2, bc_ BK280 3, bc_ BK280 4⟩ (fun hHeld => ?_); refine with_tabW thresherlaw12_SplitFinds.tab30 thresherlaw12_SplitFinds.bits30 (fun HT_ HW_ => ?_)
                    generalize wr.drew = w99 at BK280 HB HR308 hHeld ⊢
                    refine pu HT_ 0 130 (zb 13 1) ?_
                    refine pu HT_ 2 132 (zb 13 5) ?_
                    refine pu HT_ 4 134 (zb 13 21) ?_
                    refine pu HT_ 5 135 (zb 13 53) ?_
                    refine tk HT_ HW_ hHeld 1 131 (zb 13 55) (hv := by rintro w' ⟨s0, s1, s2, s3, s4⟩; go_simp; with_reducible rfl) (h := ?_)
                    refine tk HT_ HW_ hHeld 3 133 (zb 13 63) (hv := by rintro w' ⟨s0, s1, s2, s3, s4⟩; go_simp; with_reducible rfl) (h := ?_)
                    refine pu HT_ 6 136 (zb 13 127) ?_
                    refine one_ (i := 7) (N := some 137) (zb 13 255) rfl rfl (one_of HT_.out (by kernel_rfl)) (by decide) (fun K hK => ?_)
                    refine goes_ Try.func35 (by kernel_rfl) rfl #[.agg #[.int .i64 a0_0, .slice A0_1 l0_1.length c0_1, .int .i64 a0_2, .int .i64 a0_3], .slice (some ad286) (l0_4.take ((ji94) : Int).toNat).length c0_4] (by rfl) rfl rfl (by (try simp only [List.map_toArray, List.map_cons, List.map_nil]); first | done | (rw [show (l0_4.take ((ji94) : Int).toNat).length = (ji94).toNat from (by rw [List.length_take]; have h_ : ((ji94) : Int) ≤ (l0_4.length : Int) := dc_; omega)] <;> rfl) | (simp only [hji94]; rfl) | rfl | (simp only [List.length_drop, List.length_take]; rfl)) ?_
                    with_reducible refine (split_Recs.calls k4 a0_0 _ _ l0_1 a0_2 a0_3 _ _ (l0_4.take ((ji94) : Int).toNat) t309 t312 _ ?side1 ?side2 ?side3 ?side4 A97.out).mono ?_
                    (case side1 => repeat (first | exact (Kd.C_below HR0_1.out HB.out) | (with_reducible refine Kd.C_alloc ?_ _) | (with_reducible refine Kd.C_drewN ?_ _) | (with_reducible refine Kd.C_drew ?_)))
                    (case side2 => exact HC0_1.out)
                    (case side3 => repeat (first | exact (Kd.C_below HR308.out HB.out) | (with_reducible refine Kd.C_alloc ?_ _) | (with_reducible refine Kd.C_drewN ?_ _) | (with_reducible refine Kd.C_drew ?_)))
                    (case side4 => exact HC308.out)
                    rintro e w101 ⟨v310, rfl, ho0, hb⟩
                    refine ⟨_, rfl, ?_⟩
                    have n0_ := Aside0.mk (Kd.R_lower ho0 (below_size (be_ HB)))
                    have n1_ := Aside0.mk (blk_below (g := gb280) (o := .cells #[.int .i64 a0_0, .slice A0_1 l0_1.length c0_1, .int .i64 a0_2, .int .i64 a0_3, .slice (some ad286) l0_4.length c0_4] 57 (0, 0)) (bk_ BK280) hb)
                    have n2_ := Aside0.mk (below_step (be_ HB) hb)
                    clear BK280
                    clear HB
                    have HO311 := n0_
                    have BK280 := n1_
                    have HB := n2_
                    clear n0_ n1_ n2_
                    (try clear hb)
                    (try clear hb2)
                    (try clear hk)
                    (try clear hi)
                    (try clear ho0)
                    refine hK.out _ _ ⟨bc_ BK280 0, bc_ BK280 1, bc_ BK280 2, bc_ BK280 3, bc_ BK280 4⟩ (fun hHeld => ?_)
                    clear hK K
                    refine nm 137 ?_
                    refine pu HT_ 8 129 (zb 13 511) ?_
                    refine pu HT_ 9 138 (zb 13 1023) ?_
                    refine pu HT_ 10 139 (zb 13 2047) ?_
                    refine pu HT_ 11 15 (zb 13 4095) ?_
                    refine pu HT_ 12 16 (zb 13 8191) ?_
                    refine done_ (done_of HT_.out (by kernel_rfl)) ?_
                    go_upto_if 140 with (fail)
                    go_cut [17, 18] (fun v17 v18 wc => ∃ (kq : Nat) (x17_97 : Int) (x18_97 : List (S32)), v17 = .int .i64 x17_97 ∧ Aside0 (thresherlaw12_SplitFinds.j6 kq t282 x4_1 t309 t312 x17_97 x18_97 a0_0 l0_1 a0_2 a0_3 l0_4 = some r) ∧ Aside0 (kq ≤ k4) ∧ Aside0 (Kd.R k32 32 wc w.heap.size (fun k_ => some k_ ≠ (v18 : Value).ownBlock) v310 t309) ∧ Aside0 (Kd.R k32 32 wc w.heap.size (fun k_ => some k_ ≠ (v310 : Value).ownBlock) v18 x18_97) ∧ Aside0 (wc.heap[gb280]? = some (.cells #[.int .i64 a0_0, (.slice A0_1 l0_1.length c0_1), .int .i64 a0_2, .int .i64 a0_3, (.slice (some ad286) l0_4.length c0_4)] 57 (0, 0))) ∧ Aside0 (Below w.heap.size w wc))
                    case first =>
                     as_aux_lemma =>
                     have H := HC98.out
                     clear HC98
                     by_cases c102 : t282 = true
                     ·
                      subst c102
                      have H1 : (thresherlaw12_SplitFinds.l2 k4 true x4_1 t309 t312 0 ([] : List (S32)) 0 a0_0 l0_1 a0_2 a0_3 l0_4) = some r := by rw [if_pos rfl] at H; exact H
                      clear H
                      have H := H1
                      clear H1
                      have H' := Aside0.mk H
                      clear H
                      go_wp2
                      go_loopg [17, 18, 19] k4 (fun kq v17 v18 v19 w' => ∃ (x17_5 : Int) (x18_5 : List (S32)) (x19_5 : Int), v17 = .int .i64 x17_5 ∧ v19 = .int .i64 x19_5 ∧ Aside0 (thresherlaw12_SplitFinds.l2 kq true x4_1 t309 t312 x17_5 x18_5 x19_5 a0_0 l0_1 a0_2 a0_3 l0_4 = some r) ∧ Aside0 (kq ≤ k4) ∧ Aside0 (Kd.R k32 32 w' w.heap.size (fun k_ => some k_ ≠ (v18 : Value).ownBlock) v310 t309) ∧ Aside0 (Kd.R k32 32 w' w.heap.size (fun k_ => some k_ ≠ (v310 : Value).ownBlock) v18 x18_5) ∧ Aside0 (w'.heap[gb280]? = some (.cells #[.int .i64 a0_0, (.slice A0_1 l0_1.length c0_1), .int .i64 a0_2, .int .i64 a0_3, (.slice (some ad286) l0_4.length c0_4)] 57 (0, 0))) ∧ Aside0 (Below w.heap.size w w'))
                      case atStart => exact ⟨(0), (([] : List (S32))), (0), eq_, eq_, H', ⟨Nat.le_refl _⟩, ⟨by (with_reducible repeat (first | apply Kd.R_alloc | apply Kd.R_drewN | apply Kd.R_drew)); exact Kd.R_mono HO311.out (fun _ hk => (by simp [Value.ownBlock]))⟩, ⟨by first | exact Kd.R_nil _ _ _ _ _ | exact Kd.N_nil _ _ _ _ _ | exact Kd.V_nil _ _ _ _ _ | exact Kd.Q_nil _ _ _ _ _ | exact Kd.S_nil _ _ _ _ _⟩, ⟨bk_ BK280⟩, ⟨be_ HB⟩⟩
                      case round =>
                       as_aux_lemma =>
                       clear H'
                       (try clear c1); (try clear c2); (try clear p2); (try clear q2); (try clear hx2); (try clear c3); (try clear p3); (try clear q3); (try clear hx3); (try clear c4); (try clear c5); (try clear c6)
                       (try clear p6); (try clear c7); (try clear c8); (try clear c9); (try clear c10); (try clear c10b0); (try clear c10b1); (try clear c10b2); (try clear c23); (try clear c24); (try clear c25); (try clear c26)
                       (try clear c26b0); (try clear c28); (try clear p28); (try clear q28); (try clear hx28); (try clear c29); (try clear p29); (try clear q29); (try clear hx29); (try clear c30); (try clear c30b0); (try clear p30)
                       (try clear q30); (try clear hx30); (try clear c31); (try clear c31b0); (try clear c32); (try clear c34); (try clear c35); (try clear c46); (try clear c47); (try clear c50); (try clear c50b0); (try clear c50b1)
                       (try clear c52); (try clear c53); (try clear c55); (try clear c58); (try clear c60); (try clear c61); (try clear c64); (try clear c64b0); (try clear p64); (try clear c65); (try clear c65b0); (try clear c66)
                       (try clear c66b0); (try clear c71); (try clear c74); (try clear c75); (try clear c75b0); (try clear c76); (try clear c76b0); (try clear c77); (try clear c77b0); (try clear c80); (try clear c80b0); (try clear c80b1)
                       (try clear c81); (try clear c81b0); (try clear c81b1); (try clear c89); (try clear c89b0); (try clear c89b1); (try clear c90); (try clear c90b0); (try clear c90b1); (try clear c92); (try clear c92b0); (try clear c92b1)
                       (try clear c93); (try clear c93b0); (try clear c93b1); (try clear c95); (try clear c95b0); (try clear c95b1); (try clear c96); (try clear c96b0); (try clear c96b1); (try clear c102); (try clear hcz12_0); (try clear hcz12_1)
                       (try clear hcz12_2); (try clear hcz12_3); (try clear hcz12_4); (try clear hcz14_0); (try clear hcz14_1); (try clear hcz14_2); (try clear hcz14_3); (try clear hcz14_4); (try clear hcz16_0); (try clear hcz16_1); (try clear hcz16_2); (try clear hcz16_3)
                       (try clear hcz16_4); (try clear hcz19_0); (try clear hcz19_1); (try clear hcz19_2); (try clear hcz19_3); (try clear hcz19_4); (try clear hcz21_0); (try clear hcz21_1); (try clear hcz21_2); (try clear hcz21_3); (try clear hcz21_4); (try clear hcz23_0)
                       (try clear hcz23_1); (try clear hcz23_2); (try clear hcz23_3); (try clear hcz23_4); (try clear hcz27_0); (try clear hcz27_1); (try clear hcz27_2); (try clear hcz27_3); (try clear hcz27_4); (try clear hcz28_0); (try clear hcz28_1); (try clear hcz28_2)
                       (try clear hcz28_3); (try clear hcz28_4); (try clear hcz48_0); (try clear hcz48_1); (try clear hcz48_2); (try clear hcz54_0); (try clear hcz54_1); (try clear hcz54_2); (try clear hcz56_0); (try clear hcz56_1); (try clear hcz56_2); (try clear hcz5_0)
                       (try clear hcz5_1); (try clear hcz5_2); (try clear hcz5_3); (try clear hcz5_4); (try clear hcz62_0); (try clear hcz62_1); (try clear hcz62_2); (try clear hcz73_0); (try clear hcz73_1); (try clear hcz73_2); (try clear hcz73_3); (try clear hcz73_4)
                       (try clear hcz82_0); (try clear hcz82_1); (try clear hcz82_2); (try clear hcz82_3); (try clear hcz82_4); (try clear hcz84_0); (try clear hcz84_1); (try clear hcz84_2); (try clear hcz84_3); (try clear hcz84_4); (try clear hcz86_0); (try clear hcz86_1)
                       (try clear hcz86_2); (try clear hcz86_3); (try clear hcz86_4); (try clear hfz12_0); (try clear hfz12_1); (try clear hfz12_2); (try clear hfz12_3); (try clear hfz12_4); (try clear hfz14_0); (try clear hfz14_1); (try clear hfz14_2); (try clear hfz14_3)
                       (try clear hfz14_4); (try clear hfz16_0); (try clear hfz16_1); (try clear hfz16_2); (try clear hfz16_3); (try clear hfz16_4); (try clear hfz19_0); (try clear hfz19_1); (try clear hfz19_2); (try clear hfz19_3); (try clear hfz19_4); (try clear hfz21_0)
                       (try clear hfz21_1); (try clear hfz21_2); (try clear hfz21_3); (try clear hfz21_4); (try clear hfz23_0); (try clear hfz23_1); (try clear hfz23_2); (try clear hfz23_3); (try clear hfz23_4); (try clear hfz27_0); (try clear hfz27_1); (try clear hfz27_2)
                       (try clear hfz27_3); (try clear hfz27_4); (try clear hfz28_0); (try clear hfz28_1); (try clear hfz28_2); (try clear hfz28_3); (try clear hfz28_4); (try clear hfz48_0); (try clear hfz48_1); (try clear hfz48_2); (try clear hfz54_0); (try clear hfz54_1)
                       (try clear hfz54_2); (try clear hfz56_0); (try clear hfz56_1); (try clear hfz56_2); (try clear hfz5_0); (try clear hfz5_1); (try clear hfz5_2); (try clear hfz5_3); (try clear hfz5_4); (try clear hfz62_0); (try clear hfz62_1); (try clear hfz62_2)
                       (try clear hfz73_0); (try clear hfz73_1); (try clear hfz73_2); (try clear hfz73_3); (try clear hfz73_4); (try clear hfz82_0); (try clear hfz82_1); (try clear hfz82_2); (try clear hfz82_3); (try clear hfz82_4); (try clear hfz84_0); (try clear hfz84_1)
                       (try clear hfz84_2); (try clear hfz84_3); (try clear hfz84_4); (try clear hfz86_0); (try clear hfz86_1); (try clear hfz86_2); (try clear hfz86_3); (try clear hfz86_4); (try clear hx286_0); (try clear hx288_0); (try clear hx299_0); (try clear hx303_0)
                       (try clear hx303_1); (try clear hx303_2); (try clear p2); (try clear p28); (try clear p286); (try clear p288); (try clear p29); (try clear p299); (try clear p303); (try clear q2); (try clear q28); (try clear q286)
                       (try clear q288); (try clear q29); (try clear q299); (try clear q303)
                       obtain ⟨x17_5, x18_5, x19_5, rfl, rfl, HA, HK5, HO_15, HO_18, BK280, HB⟩ := hrel
                       cases gk with
                       | zero => exact absurd HA.out (by simp [thresherlaw12_SplitFinds.l2])
                       | succ k5 =>
                        have H := HA.out
                        clear HA
                        simp only [thresherlaw12_SplitFinds.l2] at H
                        by_cases c103 : x19_5 ≤ x4_1
                        ·
                         rw [if_pos c103] at H
                         have c103b0 : decide (x19_5 ≤ x4_1) = true := decide_eq_true c103
                         clear c103
                         (first | rw [c103b0] | (simp only [i64_w, i32_w]; rw [c103b0]) | skip)
                         by_cases c104 : 0 ≤ x19_5
                         ·
                          rw [if_pos c104] at H
                          have c104b0 : decide (0 ≤ x19_5) = true := decide_eq_true c104
                          clear c104
                          by_cases c105 : x19_5 < (l0_4.length : Int)
                          ·
                           rw [if_pos c105] at H
                           have c105b0 : decide (x19_5 < (l0_4.length : Int)) = true := decide_eq_true c105
                           clear c105
                           replace H := Option.bind_eq_some_iff.mp H
                           obtain ⟨t314, A1060, H⟩ := H
                           replace H : (if t314 < 0 then (if 3 = 0 then (thresherlaw12_SplitFinds.j6 k5 true x4_1 t309 t312 3 x18_5 a0_0 l0_1 a0_2 a0_3 l0_4) else (thresherlaw12_SplitFinds.j6 k5 true x4_1 t309 t312 3 ([] : List (S32)) a0_0 l0_1 a0_2 a0_3 l0_4)) else (if 0 ≤ t314 then (if t314 < (l0_1.length : Int) then ((thresherref11_Recs.f k5 ((rd_T61 l0_1 t314).f0) ((rd_T61 l0_1 t314).f1) ((rd_T61 l0_1 t314).f2)).bind fun t316 => (if x18_5.length + t316.length < 4398046511104 then (thresherlaw12_SplitFinds.l2 k5 true x4_1 t309 t312 x17_5 (x18_5 ++ t316) (wrap64 (x19_5 + 1)) a0_0 l0_1 a0_2 a0_3 l0_4) else (none))) else (none)) else (none))) = some r := H
                           have A106 := Aside0.mk A1060
                           clear A1060
                           by_cases c107 : t314 < 0
                           ·
                            rw [if_pos c107] at H
                            have c107b0 : decide (t314 < 0) = true := decide_eq_true c107
                            clear c107
                            by_cases c108 : 3 = 0
                            · exact absurd c108 (by decide)
                            ·
                             rw [if_neg c108] at H
                             have c108b0 : (3 == 0) = false := beq_eq_false_iff_ne.mpr c108
                             have c108b1 : (3 != 0) = true := bne_iff_ne.mpr c108
                             have H' := Aside0.mk H
                             clear H
                             try go_wp2
                             have n0_ := Aside0.mk (Kd.R_drew HO_15.out)
                             have n1_ := Aside0.mk (Kd.R_drew HO_18.out)
                             have n2_ := Aside0.mk (blk_drew BK280.out)
                             have n3_ := Aside0.mk (below_drew1 HB.out)
                             clear HO_15
                             clear HO_18
                             clear BK280
                             clear HB
                             have HO_15 := n0_
                             have HO_18 := n1_
                             have BK280 := n2_
                             have HB := n3_
                             clear n0_ n1_ n2_ n3_
                             have p313 : 0 ≤ (x19_5 : Int) := dc_
                             have q313 : x19_5 < (l0_4.length : Int) := dc_
                             obtain ⟨ad313, e313, hx313_0⟩ := Kd.at_int HR0_4.out x19_5 p313 q313
                             have hw313_0 := hx313_0
                             obtain rfl : ad286 = ad313 := (by injection e313)
                             replace hx313_0 := (HB.out.cell (World.block_lt_of_cell? w _ hx313_0)).trans hx313_0
                             replace p313 := eq_true p313
                             replace q313 := eq_true q313
                             refine start_ (n := 9) (S := fun w' => w'.cell? ⟨gb280, 0, none⟩ = some (.int .i64 a0_0) ∧ w'.cell? ⟨gb280, 1, none⟩ = some (.slice A0_1 l0_1.length c0_1) ∧ w'.cell? ⟨gb280, 2, none⟩ = some (.int .i64 a0_2) ∧ w'.cell? ⟨gb280, 3, none⟩ = some (.int .i64 a0_3) ∧ w'.cell? ⟨gb280, 4, none⟩ = some (.slice (some ad286) l0_4.length c0_4) ∧ w'.cell? (ad286.add (x19_5).toNat) = some (.int .i64 (rd l0_4 x19_5))) (ds := []) #[false, false, false, false, false, false, false, false, false] (by kernel_rfl) rfl rfl ⟨bc_ BK280 0, bc_ BK280 1, bc_ BK280 2, bc_ BK280 3, bc_ BK280 4, ((HB.out.cell (World.block_lt_of_cell? w _ hw313_0)).trans hw313_0)⟩ (fun hHeld => ?_); refine with_tabW thresherlaw12_SplitFinds.tab38 thresherlaw12_SplitFinds.bits38 (fun HT_ HW_ => ?_)
                             generalize wr.drew = w111 at HO_15 HO_18 BK280 HB hx313_0 hHeld ⊢
                             refine pu HT_ 0 146 (zb 9 1) ?_
                             refine pu HT_ 2 148 (zb 9 5) ?_
                             refine pu HT_ 4 150 (zb 9 21) ?_
                             refine tk HT_ HW_ hHeld 1 147 (zb 9 23) (hv := by rintro w' ⟨s0, s1, s2, s3, s4, s5⟩; go_simp; with_reducible rfl) (h := ?_)
                             refine tk HT_ HW_ hHeld 3 149 (zb 9 31) (hv := by rintro w' ⟨s0, s1, s2, s3, s4, s5⟩; go_simp; with_reducible rfl) (h := ?_)
                             refine pu HT_ 5 151 (zb 9 63) ?_
                             refine tk HT_ HW_ hHeld 6 152 (zb 9 127) (hv := by rintro w' ⟨s0, s1, s2, s3, s4, s5⟩; go_simp; with_reducible rfl) (h := ?_)
                             refine one_ (i := 7) (N := some 153) (zb 9 255) rfl rfl (one_of HT_.out (by kernel_rfl)) (by decide) (fun K hK => ?_)
                             refine goes_ Try.func29 (by kernel_rfl) rfl #[.agg #[.int .i64 a0_0, .slice A0_1 l0_1.length c0_1, .int .i64 a0_2, .int .i64 a0_3], .int .i64 (rd l0_4 x19_5)] (by rfl) rfl rfl (by (try simp only [List.map_toArray, List.map_cons, List.map_nil]); first | done | rfl | (simp only [List.length_drop, List.length_take]; rfl)) ?_
                             with_reducible refine (thresherref11_Find.calls k5 a0_0 _ _ l0_1 a0_2 a0_3 (rd l0_4 x19_5) t314 _ ?side1 ?side2 A106.out).mono ?_
                             (case side1 => repeat (first | exact (Kd.C_below HR0_1.out HB.out) | (with_reducible refine Kd.C_alloc ?_ _) | (with_reducible refine Kd.C_drewN ?_ _) | (with_reducible refine Kd.C_drew ?_)))
                             (case side2 => exact HC0_1.out)
                             rintro e w112 ⟨rfl, hb⟩
                             refine ⟨_, rfl, ?_⟩
                             have n0_ := Aside0.mk (Kd.R_below (ro_ HO_15) hb)
                             have n1_ := Aside0.mk (Kd.R_below (ro_ HO_18) hb)
                             have n2_ := Aside0.mk (blk_below (g := gb280) (o := .cells #[.int .i64 a0_0, .slice A0_1 l0_1.length c0_1, .int .i64 a0_2, .int .i64 a0_3, .slice (some ad286) l0_4.length c0_4] 57 (0, 0)) (bk_ BK280) hb)
                             have n3_ := Aside0.mk (below_step (be_ HB) hb)
                             clear HO_15
                             clear HO_18
                             clear BK280
                             clear HB
                             have HO_15 := n0_
                             have HO_18 := n1_
                             have BK280 := n2_
                             have HB := n3_
                             clear n0_ n1_ n2_ n3_
                             (try clear hb)
                             (try clear hb2)
                             (try clear hk)
                             (try clear hi)
                             refine hK.out _ _ ⟨bc_ BK280 0, bc_ BK280 1, bc_ BK280 2, bc_ BK280 3, bc_ BK280 4, ((HB.out.cell (World.block_lt_of_cell? w _ hw313_0)).trans hw313_0)⟩ (fun hHeld => ?_)
                             clear hK K
                             refine nm 153 ?_
                             refine pu HT_ 8 20 (zb 9 511) ?_
                             refine done_ (done_of HT_.out (by kernel_rfl)) ?_
                             try go_wp2
                             go_meet
                             case rel => exact ⟨_, (3), (([] : List (S32))), eq_, H', ⟨by have := HK1.out; have := HJ24.out; have := HJ33.out; have := HK4.out; have := HK5.out; first | omega | exact Nat.le_refl _⟩, ⟨by (with_reducible repeat (first | apply Kd.R_alloc | apply Kd.R_drewN | apply Kd.R_drew)); exact Kd.R_mono HO_15.out (fun _ hk => (by simp [Value.ownBlock]))⟩, ⟨by first | exact Kd.R_nil _ _ _ _ _ | exact Kd.N_nil _ _ _ _ _ | exact Kd.V_nil _ _ _ _ _ | exact Kd.Q_nil _ _ _ _ _ | exact Kd.S_nil _ _ _ _ _⟩, ⟨bk_ BK280⟩, ⟨be_ HB⟩⟩
                           ·
                            rw [if_neg c107] at H
                            have c107b0 : decide (t314 < 0) = false := decide_eq_false c107
                            clear c107
                            by_cases c113 : 0 ≤ t314
                            ·
                             rw [if_pos c113] at H
                             have c113b0 : decide (0 ≤ t314) = true := decide_eq_true c113
                             clear c113
                             by_cases c114 : t314 < (l0_1.length : Int)
                             ·
                              rw [if_pos c114] at H
                              have c114b0 : decide (t314 < (l0_1.length : Int)) = true := decide_eq_true c114
                              clear c114
                              replace H := Option.bind_eq_some_iff.mp H
                              obtain ⟨t316, A1150, H⟩ := H
                              replace H : (if x18_5.length + t316.length < 4398046511104 then (thresherlaw12_SplitFinds.l2 k5 true x4_1 t309 t312 x17_5 (x18_5 ++ t316) (wrap64 (x19_5 + 1)) a0_0 l0_1 a0_2 a0_3 l0_4) else (none)) = some r := H
                              have A115 := Aside0.mk A1150
                              clear A1150
                              by_cases c116 : x18_5.length + t316.length < 4398046511104
                              ·
                               rw [if_pos c116] at H
                               have LMc116 := Aside0.mk c116
                               clear c116
                               obtain ⟨y319, hy319⟩ : ∃ y_ : List (S32), y_ = (x18_5 ++ t316) := ⟨_, rfl⟩
                               replace H : (thresherlaw12_SplitFinds.l2 k5 true x4_1 t309 t312 x17_5 y319 (wrap64 (x19_5 + 1)) a0_0 l0_1 a0_2 a0_3 l0_4) = some r := by first | (rw [hy319]; with_reducible exact H) | (have H2_ := (Option.bind_some _ _).symm.trans H; rw [hy319]; with_reducible exact H2_) | (have H2_ := (Option.bind_some _ _).symm.trans H; with_reducible exact H2_) | with_reducible exact H | (rw [hy319]; exact H) | exact H
                               have Ny319 := Aside0.mk hy319
                               clear hy319
                               have H' := Aside0.mk H
                               clear H
                               try go_wp2
                               have n0_ := Aside0.mk (Kd.R_drew HO_15.out)
                               have n1_ := Aside0.mk (Kd.R_drew HO_18.out)
                               have n2_ := Aside0.mk (blk_drew BK280.out)
                               have n3_ := Aside0.mk (below_drew1 HB.out)
                               clear HO_15
                               clear HO_18
                               clear BK280
                               clear HB
                               have HO_15 := n0_
                               have HO_18 := n1_
                               have BK280 := n2_
                               have HB := n3_
                               clear n0_ n1_ n2_ n3_
                               have p313 : 0 ≤ (x19_5 : Int) := dc_
                               have q313 : x19_5 < (l0_4.length : Int) := dc_
                               obtain ⟨ad313, e313, hx313_0⟩ := Kd.at_int HR0_4.out x19_5 p313 q313
                               have hw313_0 := hx313_0
                               obtain rfl : ad286 = ad313 := (by injection e313)
                               replace hx313_0 := (HB.out.cell (World.block_lt_of_cell? w _ hx313_0)).trans hx313_0
                               replace p313 := eq_true p313
                               replace q313 := eq_true q313
                               refine start_ (n := 9) (S := fun w' => w'.cell? ⟨gb280, 0, none⟩ = some (.int .i64 a0_0) ∧ w'.cell? ⟨gb280, 1, none⟩ = some (.slice A0_1 l0_1.length c0_1) ∧ w'.cell? ⟨gb280, 2, none⟩ = some (.int .i64 a0_2) ∧ w'.cell? ⟨gb280, 3, none⟩ = some (.int .i64 a0_3) ∧ w'.cell? ⟨gb280, 4, none⟩ = some (.slice (some ad286) l0_4.length c0_4) ∧ w'.cell? (ad286.add (x19_5).toNat) = some (.int .i64 (rd l0_4 x19_5))) (ds := []) #[false, false, false, false, false, false, false, false, false] (by kernel_rfl) rfl rfl ⟨bc_ BK280 0, bc_ BK280 1, bc_ BK280 2, bc_ BK280 3, bc_ BK280 4, ((HB.out.cell (World.block_lt_of_cell? w _ hw313_0)).trans hw313_0)⟩ (fun hHeld => ?_); refine with_tabW thresherlaw12_SplitFinds.tab38 thresherlaw12_SplitFinds.bits38 (fun HT_ HW_ => ?_)
                               generalize wr.drew = w117 at HO_15 HO_18 BK280 HB hx313_0 hHeld ⊢
                               refine pu HT_ 0 146 (zb 9 1) ?_
                               refine pu HT_ 2 148 (zb 9 5) ?_
                               refine pu HT_ 4 150 (zb 9 21) ?_
                               refine tk HT_ HW_ hHeld 1 147 (zb 9 23) (hv := by rintro w' ⟨s0, s1, s2, s3, s4, s5⟩; go_simp; with_reducible rfl) (h := ?_)
                               refine tk HT_ HW_ hHeld 3 149 (zb 9 31) (hv := by rintro w' ⟨s0, s1, s2, s3, s4, s5⟩; go_simp; with_reducible rfl) (h := ?_)
                               refine pu HT_ 5 151 (zb 9 63) ?_
                               refine tk HT_ HW_ hHeld 6 152 (zb 9 127) (hv := by rintro w' ⟨s0, s1, s2, s3, s4, s5⟩; go_simp; with_reducible rfl) (h := ?_)
                               refine one_ (i := 7) (N := some 153) (zb 9 255) rfl rfl (one_of HT_.out (by kernel_rfl)) (by decide) (fun K hK => ?_)
                               refine goes_ Try.func29 (by kernel_rfl) rfl #[.agg #[.int .i64 a0_0, .slice A0_1 l0_1.length c0_1, .int .i64 a0_2, .int .i64 a0_3], .int .i64 (rd l0_4 x19_5)] (by rfl) rfl rfl (by (try simp only [List.map_toArray, List.map_cons, List.map_nil]); first | done | rfl | (simp only [List.length_drop, List.length_take]; rfl)) ?_
                               with_reducible refine (thresherref11_Find.calls k5 a0_0 _ _ l0_1 a0_2 a0_3 (rd l0_4 x19_5) t314 _ ?side1 ?side2 A106.out).mono ?_
                               (case side1 => repeat (first | exact (Kd.C_below HR0_1.out HB.out) | (with_reducible refine Kd.C_alloc ?_ _) | (with_reducible refine Kd.C_drewN ?_ _) | (with_reducible refine Kd.C_drew ?_)))
                               (case side2 => exact HC0_1.out)
                               rintro e w118 ⟨rfl, hb⟩
                               refine ⟨_, rfl, ?_⟩
                               have n0_ := Aside0.mk (Kd.R_below (ro_ HO_15) hb)
                               have n1_ := Aside0.mk (Kd.R_below (ro_ HO_18) hb)
                               have n2_ := Aside0.mk (blk_below (g := gb280) (o := .cells #[.int .i64 a0_0, .slice A0_1 l0_1.length c0_1, .int .i64 a0_2, .int .i64 a0_3, .slice (some ad286) l0_4.length c0_4] 57 (0, 0)) (bk_ BK280) hb)
                               have n3_ := Aside0.mk (below_step (be_ HB) hb)
                               clear HO_15
                               clear HO_18
                               clear BK280
                               clear HB
                               have HO_15 := n0_
                               have HO_18 := n1_
                               have BK280 := n2_
                               have HB := n3_
                               clear n0_ n1_ n2_ n3_
                               (try clear hb)
                               (try clear hb2)
                               (try clear hk)
                               (try clear hi)
                               refine hK.out _ _ ⟨bc_ BK280 0, bc_ BK280 1, bc_ BK280 2, bc_ BK280 3, bc_ BK280 4, ((HB.out.cell (World.block_lt_of_cell? w _ hw313_0)).trans hw313_0)⟩ (fun hHeld => ?_)
                               clear hK K
                               refine nm 153 ?_
                               refine pu HT_ 8 20 (zb 9 511) ?_
                               refine done_ (done_of HT_.out (by kernel_rfl)) ?_
                               have hcz119_0 : w118.cell? ⟨gb280, 0, none⟩ = some (.int .i64 a0_0) := bc_ BK280 0
                               have hcz119_1 : w118.cell? ⟨gb280, 1, none⟩ = some (.slice A0_1 l0_1.length c0_1) := bc_ BK280 1
                               have hcz119_2 : w118.cell? ⟨gb280, 2, none⟩ = some (.int .i64 a0_2) := bc_ BK280 2
                               have hcz119_3 : w118.cell? ⟨gb280, 3, none⟩ = some (.int .i64 a0_3) := bc_ BK280 3
                               have hcz119_4 : w118.cell? ⟨gb280, 4, none⟩ = some (.slice (some ad286) l0_4.length c0_4) := bc_ BK280 4
                               have hfz119_0 := blk_frozen BK280.out 0
                               have hfz119_1 := blk_frozen BK280.out 1
                               have hfz119_2 := blk_frozen BK280.out 2
                               have hfz119_3 := blk_frozen BK280.out 3
                               have hfz119_4 := blk_frozen BK280.out 4
                               have p315 : 0 ≤ (t314 : Int) := dc_
                               have q315 : t314 < (l0_1.length : Int) := dc_
                               obtain ⟨ad315, A315_2, c315_2, e315, hx315_0, hx315_1, hx315_2, hl315_2, hi315_2⟩ := at_T61 HR0_1.out t314 p315 q315
                               cases e315
                               replace hx315_0 := (HB.out.cell (World.block_lt_of_cell? w _ hx315_0)).trans hx315_0
                               replace hx315_1 := (HB.out.cell (World.block_lt_of_cell? w _ hx315_1)).trans hx315_1
                               replace hx315_2 := (HB.out.cell (World.block_lt_of_cell? w _ hx315_2)).trans hx315_2
                               have HR315_2 := Aside0.mk hi315_2
                               have HC315_2 := Aside0.mk hl315_2
                               clear hi315_2 hl315_2
                               replace p315 := eq_true p315
                               replace q315 := eq_true q315
                               try go_wp2_with (first | ((with_reducible refine gate_callee (f := 36) rfl ?_); refine goesL_ (some 163) rfl rfl Try.func36 (by kernel_rfl) rfl #[.agg #[.int .i64 ((rd_T61 l0_1 t314).f0), .string ((rd_T61 l0_1 t314).f1), .slice A315_2 ((rd_T61 l0_1 t314).f2).length c315_2]] rfl (by (try simp only [List.map_toArray, List.map_cons, List.map_nil]); first | done | rfl | (simp only [List.length_drop, List.length_take]; rfl)) ?_; (with_reducible refine (thresherref11_Recs.calls k5 ((rd_T61 l0_1 t314).f0) ((rd_T61 l0_1 t314).f1) _ _ ((rd_T61 l0_1 t314).f2) t316 _ ?side1 ?side2 A115.out).mono ?_); (case side1 => repeat (first | exact (Kd.C_below HR315_2.out HB.out) | (with_reducible refine Kd.C_alloc ?_ _) | (with_reducible refine Kd.C_drewN ?_ _) | (with_reducible refine Kd.C_drew ?_))); (case side2 => exact HC315_2.out); rintro e w120 ⟨v317, rfl, ho0, hb⟩; refine ⟨_, rfl, ?_⟩; have n0_ := Aside0.mk (Kd.R_elder' (ro_ HO_15) (Kd.R_base ho0) hb); have n1_ := Aside0.mk (Kd.R_elder' (ro_ HO_18) (Kd.R_base ho0) hb); have n2_ := Aside0.mk (Kd.R_lower (Kd.R_new' (Kd.R_new' ho0 (Kd.R_lt (ro_ HO_15))) (Kd.R_lt (ro_ HO_18))) (below_size (be_ HB))); have n3_ := Aside0.mk (blk_below (g := gb280) (o := .cells #[.int .i64 a0_0, .slice (some ad315) l0_1.length c0_1, .int .i64 a0_2, .int .i64 a0_3, .slice (some ad286) l0_4.length c0_4] 57 (0, 0)) (bk_ BK280) hb); have n4_ := Aside0.mk (below_step (be_ HB) hb); clear HO_15; clear HO_18; clear BK280; clear HB; have HO_15 := n0_; have HO_18 := n1_; have HO318 := n2_; have BK280 := n3_; have HB := n4_; clear n0_ n1_ n2_ n3_ n4_; (try clear hb); (try clear hb2); (try clear hk); (try clear hi); (try clear ho0); obtain ⟨Ao122, co122, eo122⟩ := Kd.R_slice HO318.out; subst eo122) | ((with_reducible refine gate_builtin (b := .append) (xs := #[.tmp 156, .tmp 163]) rfl ?_); at_builtin; refine Kd.R_append_rows k32 (w0 := w) w.heap.size rfl (.tmp 156) (.tmp 163) 22 32 (.agg #[(.int .i64 0), (.string ⟨#[]⟩), (.int .i64 0)]) 32 rfl Try.underlying22 info32 rfl (by decide) (by omega) u18 x18_5 t316 _ _ _ (fun k_ => some k_ ≠ (v310 : Value).ownBlock ∧ some k_ ≠ (.slice Ao122 t316.length co122 : Value).ownBlock) (fun _ => False) rfl rfl ?aO ?aR (fun _ _ h => h) (fun _ h => h.elim) ?aF ?aB ?aS ?aL ?_; (case aR => repeat (first | exact (Kd.R_reads' HO318.out).2.2 | (with_reducible refine Kd.C_alloc ?_ _) | (with_reducible refine Kd.C_drewN ?_ _) | (with_reducible refine Kd.C_drew ?_))); (case aB => exact (be_ HB)); (case aF => exact (fun k_ hk => ⟨Kd.fresh' (Kd.R_lt (ro_ HO_15)) k_ hk, Kd.fresh' (Kd.R_lt (ro_ HO318)) k_ hk⟩)); (case aO => exact (ro_ HO_18)); (case aS => exact (below_size (be_ HB))); (case aL => have := LMc116.out; omega); intro v320 w121 ho hb hg hat; rw [← Ny319.out] at ho; have n0_ := Aside0.mk (Kd.R_after (ok := (fun k_ => some k_ ≠ (.slice Ao122 t316.length co122 : Value).ownBlock)) (by (with_reducible repeat (first | apply Kd.R_alloc | apply Kd.R_drewN | apply Kd.R_drew)); exact Kd.R_mono HO_15.out (fun _ hk => ⟨hk.2, hk.1⟩)) hg hat); have n1_ := Aside0.mk (blk_grown (g := gb280) (o := .cells #[.int .i64 a0_0, .slice (some ad315) l0_1.length c0_1, .int .i64 a0_2, .int .i64 a0_3, .slice (some ad286) l0_4.length c0_4] 57 (0, 0)) (bk_ BK280) hg (Kd.R_ne HO_18.out BK280.out (by decide))); have n2_ := Aside0.mk (Kd.R_after (ok := (fun k_ => some k_ ≠ (v310 : Value).ownBlock)) (by (with_reducible repeat (first | apply Kd.R_alloc | apply Kd.R_drewN | apply Kd.R_drew)); exact Kd.R_mono HO318.out (fun _ hk => ⟨hk.1.2, hk.2⟩)) hg hat); have n3_ := Aside0.mk (hb); have n4_ := Aside0.mk (ho); clear HO_15; clear BK280; clear HO318; clear HB; clear HO_18; have HO_15 := n0_; have BK280 := n1_; have HO318 := n2_; have HB := n3_; have HO321 := n4_; clear n0_ n1_ n2_ n3_ n4_; clear ho hb hg hat))
                               go_roundg k5
                               case measure => have := HK1.out; have := HJ24.out; have := HJ33.out; have := HK4.out; have := HK5.out; omega
                               case rel => exact ⟨(x17_5), (y319), (wrap64 (x19_5 + 1)), eq_, eq_, H', ⟨by have := HK1.out; have := HJ24.out; have := HJ33.out; have := HK4.out; have := HK5.out; omega⟩, ⟨by (with_reducible repeat (first | apply Kd.R_alloc | apply Kd.R_drewN | apply Kd.R_drew)); exact Kd.R_mono HO_15.out (fun _ hk => hk.2)⟩, ⟨by (with_reducible repeat (first | apply Kd.R_alloc | apply Kd.R_drewN | apply Kd.R_drew)); exact Kd.R_mono HO321.out (fun _ hk => hk.1)⟩, ⟨bk_ BK280⟩, ⟨be_ HB⟩⟩
                              ·
                               rw [if_neg c116] at H
                               exact absurd H (by simp)
                             ·
                              rw [if_neg c114] at H
                              exact absurd H (by simp)
                            ·
                             rw [if_neg c113] at H
                             exact absurd H (by simp)
                          ·
                           rw [if_neg c105] at H
                           exact absurd H (by simp)
                         ·
                          rw [if_neg c104] at H
                          exact absurd H (by simp)
                        ·
                         rw [if_neg c103] at H
                         have c103b0 : decide (x19_5 ≤ x4_1) = false := decide_eq_false c103
                         clear c103
                         (first | rw [c103b0] | (simp only [i64_w, i32_w]; rw [c103b0]) | skip)
                         by_cases c123 : x17_5 = 0
                         ·
                          rw [if_pos c123] at H
                          have c123b0 : (x17_5 == 0) = true := beq_iff_eq.mpr c123
                          have c123b1 : (x17_5 != 0) = false := bne_eq_false_iff_eq.mpr c123
                          clear c123
                          have H' := Aside0.mk H
                          clear H
                          go_wp2
                          go_meet
                          case rel => exact ⟨_, (x17_5), (x18_5), eq_, H', ⟨by have := HK1.out; have := HJ24.out; have := HJ33.out; have := HK4.out; have := HK5.out; first | omega | exact Nat.le_refl _⟩, ⟨ro_ HO_15⟩, ⟨ro_ HO_18⟩, ⟨bk_ BK280⟩, ⟨be_ HB⟩⟩
                         ·
                          rw [if_neg c123] at H
                          have c123b0 : (x17_5 == 0) = false := beq_eq_false_iff_ne.mpr c123
                          have c123b1 : (x17_5 != 0) = true := bne_iff_ne.mpr c123
                          have H' := Aside0.mk H
                          clear H
                          go_wp2
                          go_meet
                          case rel => exact ⟨_, (x17_5), (([] : List (S32))), eq_, H', ⟨by have := HK1.out; have := HJ24.out; have := HJ33.out; have := HK4.out; have := HK5.out; first | omega | exact Nat.le_refl _⟩, ⟨by (with_reducible repeat (first | apply Kd.R_alloc | apply Kd.R_drewN | apply Kd.R_drew)); exact Kd.R_mono HO_15.out (fun _ hk => (by simp [Value.ownBlock]))⟩, ⟨by first | exact Kd.R_nil _ _ _ _ _ | exact Kd.N_nil _ _ _ _ _ | exact Kd.V_nil _ _ _ _ _ | exact Kd.Q_nil _ _ _ _ _ | exact Kd.S_nil _ _ _ _ _⟩, ⟨bk_ BK280⟩, ⟨be_ HB⟩⟩
                     ·
                      replace c102 := Bool.eq_false_iff.mpr c102
                      subst c102
                      have H1 : (thresherlaw12_SplitFinds.j6 k4 false x4_1 t309 t312 1 ([] : List (S32)) a0_0 l0_1 a0_2 a0_3 l0_4) = some r := by rw [if_neg (show ¬ (false = true) by decide)] at H; exact H
                      clear H
                      have H := H1
                      clear H1
                      have H' := Aside0.mk H
                      clear H
                      go_wp2
                      go_meet
                      case rel => exact ⟨_, (1), (([] : List (S32))), eq_, H', ⟨by have := HK1.out; have := HJ24.out; have := HJ33.out; have := HK4.out; first | omega | exact Nat.le_refl _⟩, ⟨by (with_reducible repeat (first | apply Kd.R_alloc | apply Kd.R_drewN | apply Kd.R_drew)); exact Kd.R_mono HO311.out (fun _ hk => (by simp [Value.ownBlock]))⟩, ⟨by first | exact Kd.R_nil _ _ _ _ _ | exact Kd.N_nil _ _ _ _ _ | exact Kd.V_nil _ _ _ _ _ | exact Kd.Q_nil _ _ _ _ _ | exact Kd.S_nil _ _ _ _ _⟩, ⟨bk_ BK280⟩, ⟨be_ HB⟩⟩
                    case rest =>
                     as_aux_lemma =>
                     clear HC98
                     (try clear c1); (try clear c2); (try clear p2); (try clear q2); (try clear hx2); (try clear c3); (try clear p3); (try clear q3); (try clear hx3); (try clear p6); (try clear c10); (try clear c11)
                     (try clear c12); (try clear p28); (try clear q28); (try clear hx28); (try clear c29); (try clear p29); (try clear q29); (try clear hx29); (try clear p30); (try clear q30); (try clear hx30); (try clear c31)
                     (try clear p31); (try clear q31); (try clear hx31); (try clear c36); (try clear p64); (try clear c102); (try clear c103); (try clear c103b0); (try clear c104); (try clear c104b0); (try clear c105); (try clear c105b0)
                     (try clear c107); (try clear c107b0); (try clear c108); (try clear c108b0); (try clear c108b1); (try clear c113); (try clear c113b0); (try clear c114); (try clear c114b0); (try clear c116); (try clear c123); (try clear c123b0)
                     (try clear c123b1); (try clear hcz119_0); (try clear hcz119_1); (try clear hcz119_2); (try clear hcz119_3); (try clear hcz119_4); (try clear hfz119_0); (try clear hfz119_1); (try clear hfz119_2); (try clear hfz119_3); (try clear hfz119_4); (try clear hfz12_1)
                     (try clear hfz12_2); (try clear hfz12_3); (try clear hfz12_4); (try clear hfz14_0); (try clear hfz14_1); (try clear hfz14_2); (try clear hfz14_3); (try clear hfz14_4); (try clear hfz16_0); (try clear hfz16_1); (try clear hfz16_2); (try clear hfz16_3)
                     (try clear hfz16_4); (try clear hfz19_0); (try clear hfz19_1); (try clear hfz19_2); (try clear hfz19_3); (try clear hfz19_4); (try clear hfz21_0); (try clear hfz21_1); (try clear hfz21_2); (try clear hfz21_3); (try clear hfz21_4); (try clear hfz23_0)
                     (try clear hfz23_1); (try clear hfz23_2); (try clear hfz23_3); (try clear hfz23_4); (try clear hfz27_0); (try clear hfz27_1); (try clear hfz27_2); (try clear hfz27_3); (try clear hfz27_4); (try clear hfz28_0); (try clear hfz28_1); (try clear hfz28_2)
                     (try clear hfz28_3); (try clear hfz28_4); (try clear hfz48_0); (try clear hfz48_1); (try clear hfz48_2); (try clear hfz54_0); (try clear hfz54_1); (try clear hfz54_2); (try clear hfz56_0); (try clear hfz56_1); (try clear hfz56_2); (try clear hfz5_0)
                     (try clear hfz5_1); (try clear hfz5_2); (try clear hfz5_3); (try clear hfz5_4); (try clear hfz62_0); (try clear hfz62_1); (try clear hfz62_2); (try clear hfz73_0); (try clear hfz73_1); (try clear hfz73_2); (try clear hfz73_3); (try clear hfz73_4)
                     (try clear hfz82_0); (try clear hfz82_1); (try clear hfz82_2); (try clear hfz82_3); (try clear hfz82_4); (try clear hfz84_0); (try clear hfz84_1); (try clear hfz84_2); (try clear hfz84_3); (try clear hfz84_4); (try clear hfz86_0); (try clear hfz86_1)
                     (try clear hfz86_2); (try clear hfz86_3); (try clear hfz86_4); (try clear hx286_0); (try clear hx288_0); (try clear hx299_0); (try clear hx303_0); (try clear hx303_1); (try clear hx303_2); (try clear hx313_0); (try clear hx315_0); (try clear hx315_1)
                     (try clear hx315_2); (try clear p2); (try clear p28); (try clear p286); (try clear p288); (try clear p29); (try clear p299); (try clear p303); (try clear p313); (try clear p315); (try clear q2); (try clear q28)
                     (try clear q286); (try clear q288); (try clear q29); (try clear q299); (try clear q303); (try clear q313); (try clear q315)
                     obtain ⟨kq, x17_97, x18_97, rfl, HA, HJ97, HO_15, HO_18, BK280, HB⟩ := hcut
                     cases kq with
                     | zero => exact absurd HA.out (by simp [thresherlaw12_SplitFinds.j6])
                     | succ kj97 =>
                      have H := HA.out
                      clear HA
                      simp only [thresherlaw12_SplitFinds.j6] at H
                      replace H := Option.bind_eq_some_iff.mp H
                      obtain ⟨t322, A1240, H⟩ := H
                      replace H : (if t322 = x17_97 then ((thresherref0_EqRecs.f kj97 t309 x18_97).bind fun t323 => (if t323 = true then ((split_Check.f kj97 a0_0 l0_1 a0_2 a0_3).bind fun t324 => ((thresherlaw12_num.f t324).bind fun t325 => (if ((t325 == 0) != t282) = true then (some false) else (thresherlaw12_SplitFinds.l0 kj97 t282 (wrap64 (x4_1 + 1)) a0_0 l0_1 a0_2 a0_3 l0_4)))) else (some false))) else (some false)) = some r := H
                      have A124 := Aside0.mk A1240
                      clear A1240
                      by_cases c125 : t322 = x17_97
                      ·
                       rw [if_pos c125] at H
                       have c125b0 : (t322 == x17_97) = true := beq_iff_eq.mpr c125
                       have c125b1 : (t322 != x17_97) = false := bne_eq_false_iff_eq.mpr c125
                       clear c125
                       replace H := Option.bind_eq_some_iff.mp H
                       obtain ⟨t323, A1260, H⟩ := H
                       replace H : (if t323 = true then ((split_Check.f kj97 a0_0 l0_1 a0_2 a0_3).bind fun t324 => ((thresherlaw12_num.f t324).bind fun t325 => (if ((t325 == 0) != t282) = true then (some false) else (thresherlaw12_SplitFinds.l0 kj97 t282 (wrap64 (x4_1 + 1)) a0_0 l0_1 a0_2 a0_3 l0_4)))) else (some false)) = some r := H
                       have A126 := Aside0.mk A1260
                       clear A1260
                       by_cases c127 : t323 = true
                       ·
                        subst c127
                        have H1 : ((split_Check.f kj97 a0_0 l0_1 a0_2 a0_3).bind fun t324 => ((thresherlaw12_num.f t324).bind fun t325 => (if ((t325 == 0) != t282) = true then (some false) else (thresherlaw12_SplitFinds.l0 kj97 t282 (wrap64 (x4_1 + 1)) a0_0 l0_1 a0_2 a0_3 l0_4)))) = some r := by rw [if_pos rfl] at H; exact H
                        clear H
                        have H := H1
                        clear H1
                        replace H := Option.bind_eq_some_iff.mp H
                        obtain ⟨t324, A1280, H⟩ := H
                        replace H : ((thresherlaw12_num.f t324).bind fun t325 => (if ((t325 == 0) != t282) = true then (some false) else (thresherlaw12_SplitFinds.l0 kj97 t282 (wrap64 (x4_1 + 1)) a0_0 l0_1 a0_2 a0_3 l0_4))) = some r := H
                        have A128 := Aside0.mk A1280
                        clear A1280
                        replace H := Option.bind_eq_some_iff.mp H
                        obtain ⟨t325, A1290, H⟩ := H
                        replace H : (if ((t325 == 0) != t282) = true then (some false) else (thresherlaw12_SplitFinds.l0 kj97 t282 (wrap64 (x4_1 + 1)) a0_0 l0_1 a0_2 a0_3 l0_4)) = some r := H
                        have A129 := Aside0.mk A1290
                        clear A1290
                        by_cases c130 : ((t325 == 0) != t282) = true
                        ·
                         rw [if_pos c130] at H
                         have c130b0 : ((t325 == 0) != t282) = true := c130
                         (try (have c130b1 : decide ((t325 == 0) = t282) = false := by simpa using c130))
                         (try (have c130b2 : ((t325 == 0) == t282) = false := by simpa using c130))
                         (try (have c130b3 : ¬ ((t325 == 0) = t282) := by simpa using c130))
                         clear c130
                         obtain rfl := Option.some.inj H
                         go_wp2_with (first | ((with_reducible refine gate_callee (f := 26) rfl ?_); refine goesL_ (some 168) rfl rfl Try.func26 (by kernel_rfl) rfl #[.int .i64 t312] rfl (by (try simp only [List.map_toArray, List.map_cons, List.map_nil]); first | done | rfl | (simp only [List.length_drop, List.length_take]; rfl)) ?_; (with_reducible refine (thresherlaw12_num.calls t312 t322 _ A124.out).mono ?_); rintro e w' ⟨rfl, ⟨nd, rfl⟩⟩; refine ⟨_, rfl, ?_⟩; obtain ⟨Ao131, co131, eo131⟩ := Kd.R_slice HO_15.out; subst eo131; obtain ⟨Ao132, co132, eo132⟩ := Kd.R_slice HO_18.out; subst eo132) | (go_at_call 21; (with_reducible refine (thresherref0_EqRecs.calls kj97 _ _ t309 _ _ x18_97 true _ ?side1 ?side2 ?side3 ?side4 A126.out).mono ?_); (case side1 => repeat (first | exact (Kd.R_reads' HO_15.out).2.2 | (with_reducible refine Kd.C_alloc ?_ _) | (with_reducible refine Kd.C_drewN ?_ _) | (with_reducible refine Kd.C_drew ?_))); (case side2 => exact (Kd.R_reads' HO_15.out).2.1); (case side3 => repeat (first | exact (Kd.R_reads' HO_18.out).2.2 | (with_reducible refine Kd.C_alloc ?_ _) | (with_reducible refine Kd.C_drewN ?_ _) | (with_reducible refine Kd.C_drew ?_))); (case side4 => exact (Kd.R_reads' HO_18.out).2.1); rintro e w' ⟨rfl, ⟨nd, rfl⟩⟩; have hcz133_0 : wc.cell? ⟨gb280, 0, none⟩ = some (.int .i64 a0_0) := bc_ BK280 0; have hcz133_1 : wc.cell? ⟨gb280, 1, none⟩ = some (.slice A0_1 l0_1.length c0_1) := bc_ BK280 1; have hcz133_2 : wc.cell? ⟨gb280, 2, none⟩ = some (.int .i64 a0_2) := bc_ BK280 2; have hcz133_3 : wc.cell? ⟨gb280, 3, none⟩ = some (.int .i64 a0_3) := bc_ BK280 3; have hcz133_4 : wc.cell? ⟨gb280, 4, none⟩ = some (.slice (some ad286) l0_4.length c0_4) := bc_ BK280 4; have hfz133_0 := blk_frozen BK280.out 0; have hfz133_1 := blk_frozen BK280.out 1; have hfz133_2 := blk_frozen BK280.out 2; have hfz133_3 := blk_frozen BK280.out 3; have hfz133_4 := blk_frozen BK280.out 4) | (go_at_call 28; (with_reducible refine (split_Check.calls kj97 a0_0 _ _ l0_1 a0_2 a0_3 t324 _ ?side1 ?side2 A128.out).mono ?_); (case side1 => repeat (first | exact (Kd.C_below HR0_1.out (be_ HB)) | (with_reducible refine Kd.C_alloc ?_ _) | (with_reducible refine Kd.C_drewN ?_ _) | (with_reducible refine Kd.C_drew ?_))); (case side2 => exact HC0_1.out); rintro e w134 ⟨rfl, hb⟩; have n0_ := Aside0.mk (Kd.R_below (ro_ HO_15) hb); have n1_ := Aside0.mk (Kd.R_below (ro_ HO_18) hb); have n2_ := Aside0.mk (blk_below (g := gb280) (o := .cells #[.int .i64 a0_0, .slice A0_1 l0_1.length c0_1, .int .i64 a0_2, .int .i64 a0_3, .slice (some ad286) l0_4.length c0_4] 57 (0, 0)) (bk_ BK280) hb); have n3_ := Aside0.mk (below_step (be_ HB) hb); clear HO_15; clear HO_18; clear BK280; clear HB; have HO_15 := n0_; have HO_18 := n1_; have BK280 := n2_; have HB := n3_; clear n0_ n1_ n2_ n3_; (try clear hb); (try clear hb2); (try clear hk); (try clear hi)) | (go_at_call 26; (with_reducible refine (thresherlaw12_num.calls t324 t325 _ A129.out).mono ?_); rintro e w' ⟨rfl, ⟨nd, rfl⟩⟩))
                         go_ret
                         exact ⟨by first | rfl | (simp [errW_none, errW_some] <;> rfl) | (simp only [← hji94]; first | rfl | (simp [errW_none, errW_some] <;> rfl)) | (simp [*, errW_none, errW_some] <;> rfl), be_ HB⟩
                        ·
                         rw [if_neg c130] at H
                         have c130b0 : ((t325 == 0) != t282) = false := by simpa using c130
                         (try (have c130b1 : decide ((t325 == 0) = t282) = true := by simpa using c130))
                         (try (have c130b2 : ((t325 == 0) == t282) = true := by simpa using c130))
                         clear c130
                         have H' := Aside0.mk H
                         clear H
                         go_wp2_with (first | ((with_reducible refine gate_callee (f := 26) rfl ?_); refine goesL_ (some 168) rfl rfl Try.func26 (by kernel_rfl) rfl #[.int .i64 t312] rfl (by (try simp only [List.map_toArray, List.map_cons, List.map_nil]); first | done | rfl | (simp only [List.length_drop, List.length_take]; rfl)) ?_; (with_reducible refine (thresherlaw12_num.calls t312 t322 _ A124.out).mono ?_); rintro e w' ⟨rfl, ⟨nd, rfl⟩⟩; refine ⟨_, rfl, ?_⟩; obtain ⟨Ao135, co135, eo135⟩ := Kd.R_slice HO_15.out; subst eo135; obtain ⟨Ao136, co136, eo136⟩ := Kd.R_slice HO_18.out; subst eo136) | (go_at_call 21; (with_reducible refine (thresherref0_EqRecs.calls kj97 _ _ t309 _ _ x18_97 true _ ?side1 ?side2 ?side3 ?side4 A126.out).mono ?_); (case side1 => repeat (first | exact (Kd.R_reads' HO_15.out).2.2 | (with_reducible refine Kd.C_alloc ?_ _) | (with_reducible refine Kd.C_drewN ?_ _) | (with_reducible refine Kd.C_drew ?_))); (case side2 => exact (Kd.R_reads' HO_15.out).2.1); (case side3 => repeat (first | exact (Kd.R_reads' HO_18.out).2.2 | (with_reducible refine Kd.C_alloc ?_ _) | (with_reducible refine Kd.C_drewN ?_ _) | (with_reducible refine Kd.C_drew ?_))); (case side4 => exact (Kd.R_reads' HO_18.out).2.1); rintro e w' ⟨rfl, ⟨nd, rfl⟩⟩; have hcz137_0 : wc.cell? ⟨gb280, 0, none⟩ = some (.int .i64 a0_0) := bc_ BK280 0; have hcz137_1 : wc.cell? ⟨gb280, 1, none⟩ = some (.slice A0_1 l0_1.length c0_1) := bc_ BK280 1; have hcz137_2 : wc.cell? ⟨gb280, 2, none⟩ = some (.int .i64 a0_2) := bc_ BK280 2; have hcz137_3 : wc.cell? ⟨gb280, 3, none⟩ = some (.int .i64 a0_3) := bc_ BK280 3; have hcz137_4 : wc.cell? ⟨gb280, 4, none⟩ = some (.slice (some ad286) l0_4.length c0_4) := bc_ BK280 4; have hfz137_0 := blk_frozen BK280.out 0; have hfz137_1 := blk_frozen BK280.out 1; have hfz137_2 := blk_frozen BK280.out 2; have hfz137_3 := blk_frozen BK280.out 3; have hfz137_4 := blk_frozen BK280.out 4) | (go_at_call 28; (with_reducible refine (split_Check.calls kj97 a0_0 _ _ l0_1 a0_2 a0_3 t324 _ ?side1 ?side2 A128.out).mono ?_); (case side1 => repeat (first | exact (Kd.C_below HR0_1.out (be_ HB)) | (with_reducible refine Kd.C_alloc ?_ _) | (with_reducible refine Kd.C_drewN ?_ _) | (with_reducible refine Kd.C_drew ?_))); (case side2 => exact HC0_1.out); rintro e w138 ⟨rfl, hb⟩; have n0_ := Aside0.mk (Kd.R_below (ro_ HO_15) hb); have n1_ := Aside0.mk (Kd.R_below (ro_ HO_18) hb); have n2_ := Aside0.mk (blk_below (g := gb280) (o := .cells #[.int .i64 a0_0, .slice A0_1 l0_1.length c0_1, .int .i64 a0_2, .int .i64 a0_3, .slice (some ad286) l0_4.length c0_4] 57 (0, 0)) (bk_ BK280) hb); have n3_ := Aside0.mk (below_step (be_ HB) hb); clear HO_15; clear HO_18; clear BK280; clear HB; have HO_15 := n0_; have HO_18 := n1_; have BK280 := n2_; have HB := n3_; clear n0_ n1_ n2_ n3_; (try clear hb); (try clear hb2); (try clear hk); (try clear hi)) | (go_at_call 26; (with_reducible refine (thresherlaw12_num.calls t324 t325 _ A129.out).mono ?_); rintro e w' ⟨rfl, ⟨nd, rfl⟩⟩))
                         go_roundg kj97
                         case measure => have := HK1.out; have := HJ24.out; have := HJ33.out; have := HK4.out; have := HJ97.out; omega
                         case rel => exact ⟨(wrap64 (x4_1 + 1)), eq_, H', ⟨by have := HK1.out; have := HJ24.out; have := HJ33.out; have := HK4.out; have := HJ97.out; omega⟩, ⟨bk_ BK280⟩, ⟨be_ HB⟩⟩
                       ·
                        replace c127 := Bool.eq_false_iff.mpr c127
                        subst c127
                        have H1 : (some false) = some r := by rw [if_neg (show ¬ (false = true) by decide)] at H; exact H
                        clear H
                        have H := H1
                        clear H1
                        obtain rfl := Option.some.inj H
                        go_wp2_with (first | ((with_reducible refine gate_callee (f := 26) rfl ?_); refine goesL_ (some 168) rfl rfl Try.func26 (by kernel_rfl) rfl #[.int .i64 t312] rfl (by (try simp only [List.map_toArray, List.map_cons, List.map_nil]); first | done | rfl | (simp only [List.length_drop, List.length_take]; rfl)) ?_; (with_reducible refine (thresherlaw12_num.calls t312 t322 _ A124.out).mono ?_); rintro e w' ⟨rfl, ⟨nd, rfl⟩⟩; refine ⟨_, rfl, ?_⟩; obtain ⟨Ao139, co139, eo139⟩ := Kd.R_slice HO_15.out; subst eo139; obtain ⟨Ao140, co140, eo140⟩ := Kd.R_slice HO_18.out; subst eo140) | (go_at_call 21; (with_reducible refine (thresherref0_EqRecs.calls kj97 _ _ t309 _ _ x18_97 false _ ?side1 ?side2 ?side3 ?side4 A126.out).mono ?_); (case side1 => repeat (first | exact (Kd.R_reads' HO_15.out).2.2 | (with_reducible refine Kd.C_alloc ?_ _) | (with_reducible refine Kd.C_drewN ?_ _) | (with_reducible refine Kd.C_drew ?_))); (case side2 => exact (Kd.R_reads' HO_15.out).2.1); (case side3 => repeat (first | exact (Kd.R_reads' HO_18.out).2.2 | (with_reducible refine Kd.C_alloc ?_ _) | (with_reducible refine Kd.C_drewN ?_ _) | (with_reducible refine Kd.C_drew ?_))); (case side4 => exact (Kd.R_reads' HO_18.out).2.1); rintro e w' ⟨rfl, ⟨nd, rfl⟩⟩))
                        go_ret
                        exact ⟨by first | rfl | (simp [errW_none, errW_some] <;> rfl) | (simp only [← hji94]; first | rfl | (simp [errW_none, errW_some] <;> rfl)) | (simp [*, errW_none, errW_some] <;> rfl), be_ HB⟩
                      ·
                       rw [if_neg c125] at H
                       have c125b0 : (t322 == x17_97) = false := beq_eq_false_iff_ne.mpr c125
                       have c125b1 : (t322 != x17_97) = true := bne_iff_ne.mpr c125
                       obtain rfl := Option.some.inj H
                       go_wp2_with (first | ((with_reducible refine gate_callee (f := 26) rfl ?_); refine goesL_ (some 168) rfl rfl Try.func26 (by kernel_rfl) rfl #[.int .i64 t312] rfl (by (try simp only [List.map_toArray, List.map_cons, List.map_nil]); first | done | rfl | (simp only [List.length_drop, List.length_take]; rfl)) ?_; (with_reducible refine (thresherlaw12_num.calls t312 t322 _ A124.out).mono ?_); rintro e w' ⟨rfl, ⟨nd, rfl⟩⟩; refine ⟨_, rfl, ?_⟩))
                       go_ret
                       exact ⟨by first | rfl | (simp [errW_none, errW_some] <;> rfl) | (simp only [← hji94]; first | rfl | (simp [errW_none, errW_some] <;> rfl)) | (simp [*, errW_none, errW_some] <;> rfl), be_ HB⟩
                   ·
                    rw [if_neg c96] at H
                    exact absurd H (by simp)
                  ·
                   rw [if_neg c95] at H
                   exact absurd H (by simp)
         ·
          rw [if_neg c31] at H
          exact absurd H (by simp)
        ·
         rw [if_neg c30] at H
         exact absurd H (by simp)
       ·
        replace c29 := Bool.eq_false_iff.mpr c29
        subst c29
        have H1 : ((thresherlaw12_wakes.f kj24).bind fun t285 => (some t285)) = some r := by rw [if_neg (show ¬ (false = true) by decide)] at H; exact H
        clear H
        have H := H1
        clear H1
        replace H := Option.bind_eq_some_iff.mp H
        obtain ⟨t285, A3640, H⟩ := H
        replace H : (some t285) = some r := H
        have A364 := Aside0.mk A3640
        clear A3640
        obtain rfl := Option.some.inj H
        go_wp2_with (first | ((with_reducible refine gate_callee (f := 27) rfl ?_); refine goesL_ (some 186) rfl rfl Try.func27 (by kernel_rfl) rfl #[] rfl (by (try simp only [List.map_toArray, List.map_cons, List.map_nil]); first | done | rfl | (simp only [List.length_drop, List.length_take]; rfl)) ?_; (with_reducible refine (thresherlaw12_wakes.calls kj24  t285 _ A364.out).mono ?_); rintro e w365 ⟨rfl, hb⟩; refine ⟨_, rfl, ?_⟩; have n0_ := Aside0.mk (blk_below (g := gb280) (o := .cells #[.int .i64 a0_0, .slice A0_1 l0_1.length c0_1, .int .i64 a0_2, .int .i64 a0_3, .slice A0_4 l0_4.length c0_4] 57 (0, 0)) (bk_ BK280) hb); have n1_ := Aside0.mk (below_step (be_ HB) hb); clear BK280; clear HB; have BK280 := n0_; have HB := n1_; clear n0_ n1_; (try clear hb); (try clear hb2); (try clear hk); (try clear hi)))
        go_ret
        exact ⟨re_, be_ HB⟩

end Go.Proofs.Ytgchbhepnfnhpaa.QSplit
