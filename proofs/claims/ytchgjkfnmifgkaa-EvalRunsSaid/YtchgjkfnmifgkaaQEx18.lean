-- Printed for this claim by a turned copy of the kit's print (wip/patch_print.py): a text of this session.
import Derived.Test.YtchgjkfnmifgkaaQEx0
import Derived.Test.YtchgjkfnmifgkaaQEx16
namespace Go.Proofs.Ytchgjkfnmifgkaa.QE
open Go.RowKit Go.Proofs.YtchgjkfnmifgkaaW.PrintWords Go.Proofs.YtchgjkfnmifgkaaW.PrintLast Go.Proofs.YtchgjkfnmifgkaaW.PrintMore
attribute [local go_sem] max2_int min2_int max_two min_two max_three min_three max_four min_four   -- for this text's walks alone
set_option linter.unusedVariables false
set_option linter.unusedSimpArgs false

/-! ### thresherref3_Key: function 51 -/
def thresherref3_Key.f (a0_0 : Int) (a0_1 : ByteArray) : Option (Bool) := some (decide ((a0_1.size : Int) ≤ 64))
set_option maxHeartbeats 8000000 in
set_option maxRecDepth 100000 in
theorem thresherref3_Key.calls (a0_0 : Int) (a0_1 : ByteArray) (r : Bool) (w : World) (h : thresherref3_Key.f a0_0 a0_1 = some r) :
  Calls Try.prog 51 #[.agg #[.int .i64 a0_0, .string a0_1]] w fun e w' => e = .returned (.bool r) ∧ Below w.heap.size w w' := by
 have hu48 := Try.underlying48
 have HB := Aside0.mk (Below.refl w.heap.size w)
 have H : (some (decide ((a0_1.size : Int) ≤ 64))) = some r := h
 clear h
 obtain rfl := Option.some.inj H
 go_enter Try.func51, Try.ntmps51
 go_wp2_with (first | ((with_reducible refine gate_dst (N := 1) rfl ?_); refine box_event ?hg (N := 1) ?hd (cs := #[.int .i64 a0_0, .string a0_1]) (t := 48) ?hr ?_; (case hd => rfl); (case hg => rfl); (case hr => first | (go_simp; done) | (go_simp; rfl)); intro gb385 hg w2 hbox hb; have n0_ := Aside0.mk (below_step (by repeat (first | (with_reducible first | exact HB.out | apply below_alloc | apply pw_below_drewN | apply below_drew1) | exact HB.out)) hb); have n1_ := Aside0.mk (hbox); have n2_ := Aside0.mk ((by rw [hg]; exact (below_size (by repeat (first | (with_reducible first | exact HB.out | apply below_alloc | apply pw_below_drewN | apply below_drew1) | exact HB.out))) : w.heap.size ≤ gb385)); have n3_ := Aside0.mk ((by rw [hg]; exact (below_size (by repeat (first | (with_reducible first | exact HB.out | apply below_alloc | apply pw_below_drewN | apply below_drew1) | exact HB.out))) : w.heap.size ≤ gb385)); clear HB; have HB := n0_; have BK385 := n1_; have GW385 := n2_; have GE385 := n3_; clear n0_ n1_ n2_ n3_; clear hb hbox hg; have hcz3_0 : w2.cell? ⟨gb385, 0, none⟩ = some (.int .i64 a0_0) := (blk_cell BK385.out 0).trans rfl; have hcz3_1 : w2.cell? ⟨gb385, 1, none⟩ = some (.string a0_1) := (blk_cell BK385.out 1).trans rfl; have hfz3_0 := blk_frozen BK385.out 0; have hfz3_1 := blk_frozen BK385.out 1))
 go_ret
 exact ⟨by first | rfl | (simp [errW_none, errW_some] <;> rfl) | (simp [*, errW_none, errW_some] <;> rfl), by repeat (first | (with_reducible first | exact HB.out | apply below_alloc | apply pw_below_drewN | apply below_drew1 | refine below_set ?_ GE385.out) | exact HB.out)⟩

/-! ### thresherref6_MayRun: function 41 -/
def thresherref6_MayRun.f (a0_0 : Int) (a0_1 : ByteArray) (a0_2 : Int) (a1 : Int) : Option (Bool) := (thresherref3_Key.f a0_0 a0_1).bind fun t387 => (if t387 = true then ((thresherref0_Num.f a1 2000).bind fun t388 => (some t388)) else (some false))
set_option maxHeartbeats 8000000 in
set_option maxRecDepth 100000 in
theorem thresherref6_MayRun.calls (a0_0 : Int) (a0_1 : ByteArray) (a0_2 : Int) (a1 : Int) (r : Bool) (w : World) (h : thresherref6_MayRun.f a0_0 a0_1 a0_2 a1 = some r) :
  Calls Try.prog 41 #[.agg #[.int .i64 a0_0, .string a0_1, .int .i64 a0_2], .int .i64 a1] w fun e w' => e = .returned (.bool r) ∧ Below w.heap.size w w' := by
 have hu50 := Try.underlying50
 have hu48 := Try.underlying48
 have HB := Aside0.mk (Below.refl w.heap.size w)
 have H : ((thresherref3_Key.f a0_0 a0_1).bind fun t387 => (if t387 = true then ((thresherref0_Num.f a1 2000).bind fun t388 => (some t388)) else (some false))) = some r := h
 clear h
 replace H := Option.bind_eq_some_iff.mp H
 obtain ⟨t387, A30, H⟩ := H
 replace H : (if t387 = true then ((thresherref0_Num.f a1 2000).bind fun t388 => (some t388)) else (some false)) = some r := H
 have A3 := Aside0.mk A30
 clear A30
 by_cases c4 : t387 = true
 ·
  subst c4
  have H1 : ((thresherref0_Num.f a1 2000).bind fun t388 => (some t388)) = some r := by rw [if_pos rfl] at H; exact H
  clear H
  have H := H1
  clear H1
  replace H := Option.bind_eq_some_iff.mp H
  obtain ⟨t388, A50, H⟩ := H
  replace H : (some t388) = some r := H
  have A5 := Aside0.mk A50
  clear A50
  obtain rfl := Option.some.inj H
  go_enter Try.func41, Try.ntmps41
  go_wp2_with (first | ((with_reducible refine gate_dst (N := 2) rfl ?_); refine box_event ?hg (N := 2) ?hd (cs := #[.int .i64 a0_0, .string a0_1, .int .i64 a0_2]) (t := 50) ?hr ?_; (case hd => rfl); (case hg => rfl); (case hr => first | (go_simp; done) | (go_simp; rfl)); intro gb386 hg w6 hbox hb; have n0_ := Aside0.mk (below_step (by repeat (first | (with_reducible first | exact HB.out | apply below_alloc | apply pw_below_drewN | apply below_drew1) | exact HB.out)) hb); have n1_ := Aside0.mk (hbox); have n2_ := Aside0.mk ((by rw [hg]; exact (below_size (by repeat (first | (with_reducible first | exact HB.out | apply below_alloc | apply pw_below_drewN | apply below_drew1) | exact HB.out))) : w.heap.size ≤ gb386)); have n3_ := Aside0.mk ((by rw [hg]; exact (below_size (by repeat (first | (with_reducible first | exact HB.out | apply below_alloc | apply pw_below_drewN | apply below_drew1) | exact HB.out))) : w.heap.size ≤ gb386)); clear HB; have HB := n0_; have BK386 := n1_; have GW386 := n2_; have GE386 := n3_; clear n0_ n1_ n2_ n3_; clear hb hbox hg; have hcz7_0 : w6.cell? ⟨gb386, 0, none⟩ = some (.int .i64 a0_0) := (blk_cell BK386.out 0).trans rfl; have hcz7_1 : w6.cell? ⟨gb386, 1, none⟩ = some (.string a0_1) := (blk_cell BK386.out 1).trans rfl; have hcz7_2 : w6.cell? ⟨gb386, 2, none⟩ = some (.int .i64 a0_2) := (blk_cell BK386.out 2).trans rfl; have hfz7_0 := blk_frozen BK386.out 0; have hfz7_1 := blk_frozen BK386.out 1; have hfz7_2 := blk_frozen BK386.out 2) | ((with_reducible refine gate_callee (f := 51) rfl ?_); refine goesL_ (some 7) rfl rfl Try.func51 (by kernel_rfl) rfl #[.agg #[.int .i64 a0_0, .string a0_1]] rfl (by (try simp only [List.map_toArray, List.map_cons, List.map_nil]); first | done | rfl | (simp only [List.length_drop, List.length_take]; rfl)) ?_; (with_reducible refine (thresherref3_Key.calls a0_0 a0_1 true _ A3.out).mono ?_); rintro e w8 ⟨rfl, hb⟩; refine ⟨_, rfl, ?_⟩; have n0_ := Aside0.mk (blk_below (g := gb386) (o := .cells #[.int .i64 a0_0, .string a0_1, .int .i64 a0_2] 50 (0, 0)) (by (with_reducible repeat (first | refine blk_drewN ?_ _ | refine blk_drew ?_ | refine blk_alloc ?_ _)); exact BK386.out) hb); have n1_ := Aside0.mk (below_step (by repeat (first | (with_reducible first | exact HB.out | apply below_alloc | apply pw_below_drewN | apply below_drew1 | refine below_set ?_ GE386.out) | exact HB.out)) hb); clear BK386; clear HB; have BK386 := n0_; have HB := n1_; clear n0_ n1_; (try clear hb); (try clear hb2); (try clear hk); (try clear hi)) | (go_at_call 27; (with_reducible refine (thresherref0_Num.calls a1 2000 t388 _ A5.out).mono ?_); rintro e w' ⟨rfl, ⟨nd, rfl⟩⟩))
  go_ret
  exact ⟨by first | rfl | (simp [errW_none, errW_some] <;> rfl) | (simp [*, errW_none, errW_some] <;> rfl), by repeat (first | (with_reducible first | exact HB.out | apply below_alloc | apply pw_below_drewN | apply below_drew1 | refine below_set ?_ GE386.out) | exact HB.out)⟩
 ·
  replace c4 := Bool.eq_false_iff.mpr c4
  subst c4
  have H1 : (some false) = some r := by rw [if_neg (show ¬ (false = true) by decide)] at H; exact H
  clear H
  have H := H1
  clear H1
  obtain rfl := Option.some.inj H
  go_enter Try.func41, Try.ntmps41
  go_wp2_with (first | ((with_reducible refine gate_dst (N := 2) rfl ?_); refine box_event ?hg (N := 2) ?hd (cs := #[.int .i64 a0_0, .string a0_1, .int .i64 a0_2]) (t := 50) ?hr ?_; (case hd => rfl); (case hg => rfl); (case hr => first | (go_simp; done) | (go_simp; rfl)); intro gb386 hg w9 hbox hb; have n0_ := Aside0.mk (below_step (by repeat (first | (with_reducible first | exact HB.out | apply below_alloc | apply pw_below_drewN | apply below_drew1) | exact HB.out)) hb); have n1_ := Aside0.mk (hbox); have n2_ := Aside0.mk ((by rw [hg]; exact (below_size (by repeat (first | (with_reducible first | exact HB.out | apply below_alloc | apply pw_below_drewN | apply below_drew1) | exact HB.out))) : w.heap.size ≤ gb386)); have n3_ := Aside0.mk ((by rw [hg]; exact (below_size (by repeat (first | (with_reducible first | exact HB.out | apply below_alloc | apply pw_below_drewN | apply below_drew1) | exact HB.out))) : w.heap.size ≤ gb386)); clear HB; have HB := n0_; have BK386 := n1_; have GW386 := n2_; have GE386 := n3_; clear n0_ n1_ n2_ n3_; clear hb hbox hg; have hcz10_0 : w9.cell? ⟨gb386, 0, none⟩ = some (.int .i64 a0_0) := (blk_cell BK386.out 0).trans rfl; have hcz10_1 : w9.cell? ⟨gb386, 1, none⟩ = some (.string a0_1) := (blk_cell BK386.out 1).trans rfl; have hcz10_2 : w9.cell? ⟨gb386, 2, none⟩ = some (.int .i64 a0_2) := (blk_cell BK386.out 2).trans rfl; have hfz10_0 := blk_frozen BK386.out 0; have hfz10_1 := blk_frozen BK386.out 1; have hfz10_2 := blk_frozen BK386.out 2) | ((with_reducible refine gate_callee (f := 51) rfl ?_); refine goesL_ (some 7) rfl rfl Try.func51 (by kernel_rfl) rfl #[.agg #[.int .i64 a0_0, .string a0_1]] rfl (by (try simp only [List.map_toArray, List.map_cons, List.map_nil]); first | done | rfl | (simp only [List.length_drop, List.length_take]; rfl)) ?_; (with_reducible refine (thresherref3_Key.calls a0_0 a0_1 false _ A3.out).mono ?_); rintro e w11 ⟨rfl, hb⟩; refine ⟨_, rfl, ?_⟩; have n0_ := Aside0.mk (blk_below (g := gb386) (o := .cells #[.int .i64 a0_0, .string a0_1, .int .i64 a0_2] 50 (0, 0)) (by (with_reducible repeat (first | refine blk_drewN ?_ _ | refine blk_drew ?_ | refine blk_alloc ?_ _)); exact BK386.out) hb); have n1_ := Aside0.mk (below_step (by repeat (first | (with_reducible first | exact HB.out | apply below_alloc | apply pw_below_drewN | apply below_drew1 | refine below_set ?_ GE386.out) | exact HB.out)) hb); clear BK386; clear HB; have BK386 := n0_; have HB := n1_; clear n0_ n1_; (try clear hb); (try clear hb2); (try clear hk); (try clear hi)))
  go_ret
  exact ⟨by first | rfl | (simp [errW_none, errW_some] <;> rfl) | (simp [*, errW_none, errW_some] <;> rfl), by repeat (first | (with_reducible first | exact HB.out | apply below_alloc | apply pw_below_drewN | apply below_drew1 | refine below_set ?_ GE386.out) | exact HB.out)⟩

-- NOT PRINTED: function 67 (thresherref6_machine_pop)

/-! ### thresherref6_truth: function 69 -/
def thresherref6_truth.f (a0 : Bool) : Option (Int) := if a0 = true then (some 1) else (some 0)
set_option maxHeartbeats 8000000 in
set_option maxRecDepth 100000 in
theorem thresherref6_truth.calls (a0 : Bool) (r : Int) (w : World) (h : thresherref6_truth.f a0 = some r) :
  Calls Try.prog 69 #[.bool a0] w fun e w' => e = .returned (.int .i64 r) ∧ Drawn0 w w' := by
 have H : (if a0 = true then (some 1) else (some 0)) = some r := h
 clear h
 by_cases c2 : a0 = true
 ·
  subst c2
  have H1 : (some 1) = some r := by rw [if_pos rfl] at H; exact H
  clear H
  have H := H1
  clear H1
  obtain rfl := Option.some.inj H
  go_enter Try.func69, Try.ntmps69
  go_wp2
  go_ret
  exact ⟨by first | rfl | (simp; done) | (simp [*]; done), by repeat (first | exact Drawn0.refl _ | apply Drawn0.step)⟩
 ·
  replace c2 := Bool.eq_false_iff.mpr c2
  subst c2
  have H1 : (some 0) = some r := by rw [if_neg (show ¬ (false = true) by decide)] at H; exact H
  clear H
  have H := H1
  clear H1
  obtain rfl := Option.some.inj H
  go_enter Try.func69, Try.ntmps69
  go_wp2
  go_ret
  exact ⟨by first | rfl | (simp; done) | (simp [*]; done), by repeat (first | exact Drawn0.refl _ | apply Drawn0.step)⟩

/-! ### thresherref6_divide: function 74 -/
def thresherref6_divide.f (a0 : Int) (a1 : Int) : Option (Int × Int) := if a1 = 0 then (some (0, 0)) else (if a1 = (-1) then (some (wrap64 (IntKind.u64.wrap ((Go.bits .xor .u64 18446744073709551615 (IntKind.u64.wrap (a0))) + 1)), 0)) else (some (wrap64 (Int.tdiv a0 a1), Int.tmod a0 a1)))
set_option maxHeartbeats 8000000 in
set_option maxRecDepth 100000 in
theorem thresherref6_divide.calls (a0 : Int) (a1 : Int) (r1 : Int) (r2 : Int) (w : World) (h : thresherref6_divide.f a0 a1 = some (r1, r2)) :
  Calls Try.prog 74 #[.int .i64 a0, .int .i64 a1] w fun e w' => e = .returned (.tuple #[.int .i64 r1, .int .i64 r2]) ∧ Drawn0 w w' := by
 have H : (if a1 = 0 then (some (0, 0)) else (if a1 = (-1) then (some (wrap64 (IntKind.u64.wrap ((Go.bits .xor .u64 18446744073709551615 (IntKind.u64.wrap (a0))) + 1)), 0)) else (some (wrap64 (Int.tdiv a0 a1), Int.tmod a0 a1)))) = some (r1, r2) := h
 clear h
 by_cases c3 : a1 = 0
 ·
  rw [if_pos c3] at H
  have c3b0 : (a1 == 0) = true := beq_iff_eq.mpr c3
  have c3b1 : (a1 != 0) = false := bne_eq_false_iff_eq.mpr c3
  clear c3
  simp only [Option.some.injEq, Prod.mk.injEq] at H
  obtain ⟨rfl, rfl⟩ := H
  go_enter Try.func74, Try.ntmps74
  go_wp2
  repeat (go_quiet (fail); try go_wp2)
  go_ret2
  exact ⟨by first | rfl | (simp; done) | (simp [*]; done), by repeat (first | exact Drawn0.refl _ | apply Drawn0.step)⟩
 ·
  rw [if_neg c3] at H
  have c3b0 : (a1 == 0) = false := beq_eq_false_iff_ne.mpr c3
  have c3b1 : (a1 != 0) = true := bne_iff_ne.mpr c3
  by_cases c4 : a1 = (-1)
  ·
   rw [if_pos c4] at H
   have c4b0 : (a1 == (-1)) = true := beq_iff_eq.mpr c4
   have c4b1 : (a1 != (-1)) = false := bne_eq_false_iff_eq.mpr c4
   clear c4
   simp only [Option.some.injEq, Prod.mk.injEq] at H
   obtain ⟨rfl, rfl⟩ := H
   go_enter Try.func74, Try.ntmps74
   go_wp2
   repeat (go_quiet (fail); try go_wp2)
   go_ret2
   exact ⟨by first | rfl | (simp; done) | (simp [*]; done), by repeat (first | exact Drawn0.refl _ | apply Drawn0.step)⟩
  ·
   rw [if_neg c4] at H
   have c4b0 : (a1 == (-1)) = false := beq_eq_false_iff_ne.mpr c4
   have c4b1 : (a1 != (-1)) = true := bne_iff_ne.mpr c4
   simp only [Option.some.injEq, Prod.mk.injEq] at H
   obtain ⟨rfl, rfl⟩ := H
   go_enter Try.func74, Try.ntmps74
   go_wp2
   repeat (go_quiet (fail); try go_wp2)
   go_ret2
   exact ⟨by first | rfl | (simp; done) | (simp [*]; done), by repeat (first | exact Drawn0.refl _ | apply Drawn0.step)⟩

/-! ### thresherref1_Shift: function 75 -/
def thresherref1_Shift.f (a0 : Int) (a1 : Int) (a2 : Int) : Option (Int) := if a2 = 0 then (if 0 ≤ (Go.bits .and .u64 (IntKind.u64.wrap (a1)) 63) then (some (shl .i64 a0 (Go.bits .and .u64 (IntKind.u64.wrap (a1)) 63))) else (none)) else (if a2 = 1 then (if 0 ≤ (Go.bits .and .u64 (IntKind.u64.wrap (a1)) 63) then (some (shr .i64 a0 (Go.bits .and .u64 (IntKind.u64.wrap (a1)) 63))) else (none)) else (if 0 ≤ (Go.bits .and .u64 (IntKind.u64.wrap (a1)) 63) then (some (wrap64 (shr .u64 (IntKind.u64.wrap (a0)) (Go.bits .and .u64 (IntKind.u64.wrap (a1)) 63)))) else (none)))
set_option maxHeartbeats 8000000 in
set_option maxRecDepth 100000 in
theorem thresherref1_Shift.calls (a0 : Int) (a1 : Int) (a2 : Int) (r : Int) (w : World) (h : thresherref1_Shift.f a0 a1 a2 = some r) :
  Calls Try.prog 75 #[.int .i64 a0, .int .i64 a1, .int .i64 a2] w fun e w' => e = .returned (.int .i64 r) ∧ Drawn0 w w' := by
 have H : (if a2 = 0 then (if 0 ≤ (Go.bits .and .u64 (IntKind.u64.wrap (a1)) 63) then (some (shl .i64 a0 (Go.bits .and .u64 (IntKind.u64.wrap (a1)) 63))) else (none)) else (if a2 = 1 then (if 0 ≤ (Go.bits .and .u64 (IntKind.u64.wrap (a1)) 63) then (some (shr .i64 a0 (Go.bits .and .u64 (IntKind.u64.wrap (a1)) 63))) else (none)) else (if 0 ≤ (Go.bits .and .u64 (IntKind.u64.wrap (a1)) 63) then (some (wrap64 (shr .u64 (IntKind.u64.wrap (a0)) (Go.bits .and .u64 (IntKind.u64.wrap (a1)) 63)))) else (none)))) = some r := h
 clear h
 by_cases c4 : a2 = 0
 ·
  rw [if_pos c4] at H
  have c4b0 : (a2 == 0) = true := beq_iff_eq.mpr c4
  have c4b1 : (a2 != 0) = false := bne_eq_false_iff_eq.mpr c4
  clear c4
  obtain ⟨ji5, hji5⟩ : ∃ j_ : Int, (Go.bits .and .u64 (IntKind.u64.wrap (a1)) 63) = j_ := ⟨_, rfl⟩
  replace H : (if 0 ≤ (ji5) then (some (shl .i64 a0 (ji5))) else (none)) = some r := by first | (rw [hji5] at H; exact H) | (simp only [hji5] at H ⊢; exact H)
  by_cases c6 : 0 ≤ (ji5)
  ·
   rw [if_pos c6] at H
   have c6b0 := eq_true c6
   have c6b1 : decide (0 ≤ (ji5)) = true := decide_eq_true c6
   clear c6
   obtain ⟨ji7, hji7⟩ : ∃ j_ : Int, (shl .i64 a0 (ji5)) = j_ := ⟨_, rfl⟩
   replace H : (some ji7) = some r := by first | (rw [hji7] at H; exact H) | (simp only [hji7] at H ⊢; exact H)
   have hji7_ : (IntKind.i64.wrap (a0 * 2 ^ min (ji5).toNat 64)) = ji7 := hji7
   have hji7z : (ji5) ≤ 64 → (IntKind.i64.wrap (a0 * 2 ^ (ji5).toNat)) = ji7 := shl_small hji7
   have hji7y : (wrap64 (a0 * 2 ^ min (ji5).toNat 64)) = ji7 := (i64_w _).symm.trans hji7_
   have hji7x : (ji5) ≤ 64 → (wrap64 (a0 * 2 ^ (ji5).toNat)) = ji7 := fun h_ => (i64_w _).symm.trans (hji7z h_)
   obtain rfl := Option.some.inj H
   go_enter Try.func75, Try.ntmps75
   go_wp2
   go_ret
   exact ⟨by first | rfl | (simp; done) | (simp only [← hji5, ← hji7] <;> (first | rfl | simp)) | (simp [*]; done), by repeat (first | exact Drawn0.refl _ | apply Drawn0.step)⟩
  ·
   rw [if_neg c6] at H
   exact absurd H (by simp)
 ·
  rw [if_neg c4] at H
  have c4b0 : (a2 == 0) = false := beq_eq_false_iff_ne.mpr c4
  have c4b1 : (a2 != 0) = true := bne_iff_ne.mpr c4
  by_cases c8 : a2 = 1
  ·
   rw [if_pos c8] at H
   have c8b0 : (a2 == 1) = true := beq_iff_eq.mpr c8
   have c8b1 : (a2 != 1) = false := bne_eq_false_iff_eq.mpr c8
   clear c8
   obtain ⟨ji9, hji9⟩ : ∃ j_ : Int, (Go.bits .and .u64 (IntKind.u64.wrap (a1)) 63) = j_ := ⟨_, rfl⟩
   replace H : (if 0 ≤ (ji9) then (some (shr .i64 a0 (ji9))) else (none)) = some r := by first | (rw [hji9] at H; exact H) | (simp only [hji9] at H ⊢; exact H)
   by_cases c10 : 0 ≤ (ji9)
   ·
    rw [if_pos c10] at H
    have c10b0 := eq_true c10
    have c10b1 : decide (0 ≤ (ji9)) = true := decide_eq_true c10
    clear c10
    obtain ⟨ji11, hji11⟩ : ∃ j_ : Int, (shr .i64 a0 (ji9)) = j_ := ⟨_, rfl⟩
    replace H : (some ji11) = some r := by first | (rw [hji11] at H; exact H) | (simp only [hji11] at H ⊢; exact H)
    have hji11_ : (a0 / 2 ^ min (ji9).toNat 64) = ji11 := hji11
    have hji11z : (ji9) ≤ 64 → (a0 / 2 ^ (ji9).toNat) = ji11 := shr_small hji11
    obtain rfl := Option.some.inj H
    go_enter Try.func75, Try.ntmps75
    go_wp2
    go_ret
    exact ⟨by first | rfl | (simp; done) | (simp only [← hji9, ← hji11] <;> (first | rfl | simp)) | (simp [*]; done), by repeat (first | exact Drawn0.refl _ | apply Drawn0.step)⟩
   ·
    rw [if_neg c10] at H
    exact absurd H (by simp)
  ·
   rw [if_neg c8] at H
   have c8b0 : (a2 == 1) = false := beq_eq_false_iff_ne.mpr c8
   have c8b1 : (a2 != 1) = true := bne_iff_ne.mpr c8
   obtain ⟨ji12, hji12⟩ : ∃ j_ : Int, (Go.bits .and .u64 (IntKind.u64.wrap (a1)) 63) = j_ := ⟨_, rfl⟩
   replace H : (if 0 ≤ (ji12) then (some (wrap64 (shr .u64 (IntKind.u64.wrap (a0)) (ji12)))) else (none)) = some r := by first | (rw [hji12] at H; exact H) | (simp only [hji12] at H ⊢; exact H)
   by_cases c13 : 0 ≤ (ji12)
   ·
    rw [if_pos c13] at H
    have c13b0 := eq_true c13
    have c13b1 : decide (0 ≤ (ji12)) = true := decide_eq_true c13
    clear c13
    obtain ⟨ji14, hji14⟩ : ∃ j_ : Int, (shr .u64 (IntKind.u64.wrap (a0)) (ji12)) = j_ := ⟨_, rfl⟩
    replace H : (some (wrap64 (ji14))) = some r := by first | (rw [hji14] at H; exact H) | (simp only [hji14] at H ⊢; exact H)
    have hji14_ : ((IntKind.u64.wrap (a0)) / 2 ^ min (ji12).toNat 64) = ji14 := hji14
    have hji14z : (ji12) ≤ 64 → ((IntKind.u64.wrap (a0)) / 2 ^ (ji12).toNat) = ji14 := shr_small hji14
    obtain rfl := Option.some.inj H
    go_enter Try.func75, Try.ntmps75
    go_wp2
    go_ret
    exact ⟨by first | rfl | (simp; done) | (simp only [← hji12, ← hji14] <;> (first | rfl | simp)) | (simp [*]; done), by repeat (first | exact Drawn0.refl _ | apply Drawn0.step)⟩
   ·
    rw [if_neg c13] at H
    exact absurd H (by simp)

/-! ### thresherref6_binary: function 68 -/
def thresherref6_binary.f (a0 : Int) (a1 : Int) (a2 : Int) : Option (Int) := (thresherref6_divide.f a1 a2).bind fun bt390 => (if a0 = 5 then (some (wrap64 (a1 + a2))) else (if a0 = 6 then (some (wrap64 (a1 - a2))) else (if a0 = 7 then (some (wrap64 (a1 * a2))) else (if a0 = 8 then (some bt390.1) else (if a0 = 9 then (some bt390.2) else (if a0 = 10 then (some (Go.bits .and .i64 a1 a2)) else (if a0 = 11 then (some (Go.bits .or .i64 a1 a2)) else (if a0 = 12 then (some (Go.bits .xor .i64 a1 a2)) else (if a0 = 13 then ((thresherref1_Shift.f a1 a2 0).bind fun t392 => (some t392)) else (if a0 = 14 then ((thresherref1_Shift.f a1 a2 1).bind fun t393 => (some t393)) else (if a0 = 15 then ((thresherref1_Shift.f a1 a2 2).bind fun t394 => (some t394)) else (if a0 = 16 then ((thresherref6_truth.f (decide (a1 < a2))).bind fun t395 => (some t395)) else ((thresherref6_truth.f (a1 == a2)).bind fun t396 => (some t396))))))))))))))
set_option maxHeartbeats 8000000 in
set_option maxRecDepth 100000 in
theorem thresherref6_binary.calls (a0 : Int) (a1 : Int) (a2 : Int) (r : Int) (w : World) (h : thresherref6_binary.f a0 a1 a2 = some r) :
  Calls Try.prog 68 #[.int .i64 a0, .int .i64 a1, .int .i64 a2] w fun e w' => e = .returned (.int .i64 r) ∧ Drawn0 w w' := by
 have H : ((thresherref6_divide.f a1 a2).bind fun bt390 => (if a0 = 5 then (some (wrap64 (a1 + a2))) else (if a0 = 6 then (some (wrap64 (a1 - a2))) else (if a0 = 7 then (some (wrap64 (a1 * a2))) else (if a0 = 8 then (some bt390.1) else (if a0 = 9 then (some bt390.2) else (if a0 = 10 then (some (Go.bits .and .i64 a1 a2)) else (if a0 = 11 then (some (Go.bits .or .i64 a1 a2)) else (if a0 = 12 then (some (Go.bits .xor .i64 a1 a2)) else (if a0 = 13 then ((thresherref1_Shift.f a1 a2 0).bind fun t392 => (some t392)) else (if a0 = 14 then ((thresherref1_Shift.f a1 a2 1).bind fun t393 => (some t393)) else (if a0 = 15 then ((thresherref1_Shift.f a1 a2 2).bind fun t394 => (some t394)) else (if a0 = 16 then ((thresherref6_truth.f (decide (a1 < a2))).bind fun t395 => (some t395)) else ((thresherref6_truth.f (a1 == a2)).bind fun t396 => (some t396))))))))))))))) = some r := h
 clear h
 replace H := Option.bind_eq_some_iff.mp H
 obtain ⟨⟨t390, t391⟩, A40, H⟩ := H
 replace H : (if a0 = 5 then (some (wrap64 (a1 + a2))) else (if a0 = 6 then (some (wrap64 (a1 - a2))) else (if a0 = 7 then (some (wrap64 (a1 * a2))) else (if a0 = 8 then (some t390) else (if a0 = 9 then (some t391) else (if a0 = 10 then (some (Go.bits .and .i64 a1 a2)) else (if a0 = 11 then (some (Go.bits .or .i64 a1 a2)) else (if a0 = 12 then (some (Go.bits .xor .i64 a1 a2)) else (if a0 = 13 then ((thresherref1_Shift.f a1 a2 0).bind fun t392 => (some t392)) else (if a0 = 14 then ((thresherref1_Shift.f a1 a2 1).bind fun t393 => (some t393)) else (if a0 = 15 then ((thresherref1_Shift.f a1 a2 2).bind fun t394 => (some t394)) else (if a0 = 16 then ((thresherref6_truth.f (decide (a1 < a2))).bind fun t395 => (some t395)) else ((thresherref6_truth.f (a1 == a2)).bind fun t396 => (some t396)))))))))))))) = some r := H
 have A4 := Aside0.mk A40
 clear A40
 by_cases c5 : a0 = 5
 ·
  rw [if_pos c5] at H
  have c5b0 : (a0 == 5) = true := beq_iff_eq.mpr c5
  have c5b1 : (a0 != 5) = false := bne_eq_false_iff_eq.mpr c5
  clear c5
  obtain rfl := Option.some.inj H
  go_enter Try.func68, Try.ntmps68
  go_wp2_with (first | ((with_reducible refine gate_callee (f := 74) rfl ?_); refine goesL_ (some 12) rfl rfl Try.func74 (by kernel_rfl) rfl #[.int .i64 a1, .int .i64 a2] rfl (by (try simp only [List.map_toArray, List.map_cons, List.map_nil]); first | done | rfl | (simp only [List.length_drop, List.length_take]; rfl)) ?_; (with_reducible refine (thresherref6_divide.calls a1 a2 t390 t391 _ A4.out).mono ?_); rintro e w' ⟨rfl, ⟨nd, rfl⟩⟩; refine ⟨_, rfl, ?_⟩))
  go_ret
  exact ⟨by first | rfl | (simp; done) | (simp [*]; done), by repeat (first | exact Drawn0.refl _ | apply Drawn0.step)⟩
 ·
  rw [if_neg c5] at H
  have c5b0 : (a0 == 5) = false := beq_eq_false_iff_ne.mpr c5
  have c5b1 : (a0 != 5) = true := bne_iff_ne.mpr c5
  by_cases c6 : a0 = 6
  ·
   rw [if_pos c6] at H
   have c6b0 : (a0 == 6) = true := beq_iff_eq.mpr c6
   have c6b1 : (a0 != 6) = false := bne_eq_false_iff_eq.mpr c6
   clear c6
   obtain rfl := Option.some.inj H
   go_enter Try.func68, Try.ntmps68
   go_wp2_with (first | ((with_reducible refine gate_callee (f := 74) rfl ?_); refine goesL_ (some 12) rfl rfl Try.func74 (by kernel_rfl) rfl #[.int .i64 a1, .int .i64 a2] rfl (by (try simp only [List.map_toArray, List.map_cons, List.map_nil]); first | done | rfl | (simp only [List.length_drop, List.length_take]; rfl)) ?_; (with_reducible refine (thresherref6_divide.calls a1 a2 t390 t391 _ A4.out).mono ?_); rintro e w' ⟨rfl, ⟨nd, rfl⟩⟩; refine ⟨_, rfl, ?_⟩))
   go_ret
   exact ⟨by first | rfl | (simp; done) | (simp [*]; done), by repeat (first | exact Drawn0.refl _ | apply Drawn0.step)⟩
  ·
   rw [if_neg c6] at H
   have c6b0 : (a0 == 6) = false := beq_eq_false_iff_ne.mpr c6
   have c6b1 : (a0 != 6) = true := bne_iff_ne.mpr c6
   by_cases c7 : a0 = 7
   ·
    rw [if_pos c7] at H
    have c7b0 : (a0 == 7) = true := beq_iff_eq.mpr c7
    have c7b1 : (a0 != 7) = false := bne_eq_false_iff_eq.mpr c7
    clear c7
    obtain rfl := Option.some.inj H
    go_enter Try.func68, Try.ntmps68
    go_wp2_with (first | ((with_reducible refine gate_callee (f := 74) rfl ?_); refine goesL_ (some 12) rfl rfl Try.func74 (by kernel_rfl) rfl #[.int .i64 a1, .int .i64 a2] rfl (by (try simp only [List.map_toArray, List.map_cons, List.map_nil]); first | done | rfl | (simp only [List.length_drop, List.length_take]; rfl)) ?_; (with_reducible refine (thresherref6_divide.calls a1 a2 t390 t391 _ A4.out).mono ?_); rintro e w' ⟨rfl, ⟨nd, rfl⟩⟩; refine ⟨_, rfl, ?_⟩))
    go_ret
    exact ⟨by first | rfl | (simp; done) | (simp [*]; done), by repeat (first | exact Drawn0.refl _ | apply Drawn0.step)⟩
   ·
    rw [if_neg c7] at H
    have c7b0 : (a0 == 7) = false := beq_eq_false_iff_ne.mpr c7
    have c7b1 : (a0 != 7) = true := bne_iff_ne.mpr c7
    by_cases c8 : a0 = 8
    ·
     rw [if_pos c8] at H
     have c8b0 : (a0 == 8) = true := beq_iff_eq.mpr c8
     have c8b1 : (a0 != 8) = false := bne_eq_false_iff_eq.mpr c8
     clear c8
     obtain rfl := Option.some.inj H
     go_enter Try.func68, Try.ntmps68
     go_wp2_with (first | ((with_reducible refine gate_callee (f := 74) rfl ?_); refine goesL_ (some 12) rfl rfl Try.func74 (by kernel_rfl) rfl #[.int .i64 a1, .int .i64 a2] rfl (by (try simp only [List.map_toArray, List.map_cons, List.map_nil]); first | done | rfl | (simp only [List.length_drop, List.length_take]; rfl)) ?_; (with_reducible refine (thresherref6_divide.calls a1 a2 t390 t391 _ A4.out).mono ?_); rintro e w' ⟨rfl, ⟨nd, rfl⟩⟩; refine ⟨_, rfl, ?_⟩))
     go_ret
     exact ⟨by first | rfl | (simp; done) | (simp [*]; done), by repeat (first | exact Drawn0.refl _ | apply Drawn0.step)⟩
    ·
     rw [if_neg c8] at H
     have c8b0 : (a0 == 8) = false := beq_eq_false_iff_ne.mpr c8
     have c8b1 : (a0 != 8) = true := bne_iff_ne.mpr c8
     by_cases c9 : a0 = 9
     ·
      rw [if_pos c9] at H
      have c9b0 : (a0 == 9) = true := beq_iff_eq.mpr c9
      have c9b1 : (a0 != 9) = false := bne_eq_false_iff_eq.mpr c9
      clear c9
      obtain rfl := Option.some.inj H
      go_enter Try.func68, Try.ntmps68
      go_wp2_with (first | ((with_reducible refine gate_callee (f := 74) rfl ?_); refine goesL_ (some 12) rfl rfl Try.func74 (by kernel_rfl) rfl #[.int .i64 a1, .int .i64 a2] rfl (by (try simp only [List.map_toArray, List.map_cons, List.map_nil]); first | done | rfl | (simp only [List.length_drop, List.length_take]; rfl)) ?_; (with_reducible refine (thresherref6_divide.calls a1 a2 t390 t391 _ A4.out).mono ?_); rintro e w' ⟨rfl, ⟨nd, rfl⟩⟩; refine ⟨_, rfl, ?_⟩))
      go_ret
      exact ⟨by first | rfl | (simp; done) | (simp [*]; done), by repeat (first | exact Drawn0.refl _ | apply Drawn0.step)⟩
     ·
      rw [if_neg c9] at H
      have c9b0 : (a0 == 9) = false := beq_eq_false_iff_ne.mpr c9
      have c9b1 : (a0 != 9) = true := bne_iff_ne.mpr c9
      by_cases c10 : a0 = 10
      ·
       rw [if_pos c10] at H
       have c10b0 : (a0 == 10) = true := beq_iff_eq.mpr c10
       have c10b1 : (a0 != 10) = false := bne_eq_false_iff_eq.mpr c10
       clear c10
       obtain rfl := Option.some.inj H
       go_enter Try.func68, Try.ntmps68
       go_wp2_with (first | ((with_reducible refine gate_callee (f := 74) rfl ?_); refine goesL_ (some 12) rfl rfl Try.func74 (by kernel_rfl) rfl #[.int .i64 a1, .int .i64 a2] rfl (by (try simp only [List.map_toArray, List.map_cons, List.map_nil]); first | done | rfl | (simp only [List.length_drop, List.length_take]; rfl)) ?_; (with_reducible refine (thresherref6_divide.calls a1 a2 t390 t391 _ A4.out).mono ?_); rintro e w' ⟨rfl, ⟨nd, rfl⟩⟩; refine ⟨_, rfl, ?_⟩))
       go_ret
       exact ⟨by first | rfl | (simp; done) | (simp [*]; done), by repeat (first | exact Drawn0.refl _ | apply Drawn0.step)⟩
      ·
       rw [if_neg c10] at H
       have c10b0 : (a0 == 10) = false := beq_eq_false_iff_ne.mpr c10
       have c10b1 : (a0 != 10) = true := bne_iff_ne.mpr c10
       by_cases c11 : a0 = 11
       ·
        rw [if_pos c11] at H
        have c11b0 : (a0 == 11) = true := beq_iff_eq.mpr c11
        have c11b1 : (a0 != 11) = false := bne_eq_false_iff_eq.mpr c11
        clear c11
        obtain rfl := Option.some.inj H
        go_enter Try.func68, Try.ntmps68
        go_wp2_with (first | ((with_reducible refine gate_callee (f := 74) rfl ?_); refine goesL_ (some 12) rfl rfl Try.func74 (by kernel_rfl) rfl #[.int .i64 a1, .int .i64 a2] rfl (by (try simp only [List.map_toArray, List.map_cons, List.map_nil]); first | done | rfl | (simp only [List.length_drop, List.length_take]; rfl)) ?_; (with_reducible refine (thresherref6_divide.calls a1 a2 t390 t391 _ A4.out).mono ?_); rintro e w' ⟨rfl, ⟨nd, rfl⟩⟩; refine ⟨_, rfl, ?_⟩))
        go_ret
        exact ⟨by first | rfl | (simp; done) | (simp [*]; done), by repeat (first | exact Drawn0.refl _ | apply Drawn0.step)⟩
       ·
        rw [if_neg c11] at H
        have c11b0 : (a0 == 11) = false := beq_eq_false_iff_ne.mpr c11
        have c11b1 : (a0 != 11) = true := bne_iff_ne.mpr c11
        by_cases c12 : a0 = 12
        ·
         rw [if_pos c12] at H
         have c12b0 : (a0 == 12) = true := beq_iff_eq.mpr c12
         have c12b1 : (a0 != 12) = false := bne_eq_false_iff_eq.mpr c12
         clear c12
         obtain rfl := Option.some.inj H
         go_enter Try.func68, Try.ntmps68
         go_wp2_with (first | ((with_reducible refine gate_callee (f := 74) rfl ?_); refine goesL_ (some 12) rfl rfl Try.func74 (by kernel_rfl) rfl #[.int .i64 a1, .int .i64 a2] rfl (by (try simp only [List.map_toArray, List.map_cons, List.map_nil]); first | done | rfl | (simp only [List.length_drop, List.length_take]; rfl)) ?_; (with_reducible refine (thresherref6_divide.calls a1 a2 t390 t391 _ A4.out).mono ?_); rintro e w' ⟨rfl, ⟨nd, rfl⟩⟩; refine ⟨_, rfl, ?_⟩))
         go_ret
         exact ⟨by first | rfl | (simp; done) | (simp [*]; done), by repeat (first | exact Drawn0.refl _ | apply Drawn0.step)⟩
        ·
         rw [if_neg c12] at H
         have c12b0 : (a0 == 12) = false := beq_eq_false_iff_ne.mpr c12
         have c12b1 : (a0 != 12) = true := bne_iff_ne.mpr c12
         by_cases c13 : a0 = 13
         ·
          rw [if_pos c13] at H
          have c13b0 : (a0 == 13) = true := beq_iff_eq.mpr c13
          have c13b1 : (a0 != 13) = false := bne_eq_false_iff_eq.mpr c13
          clear c13
          replace H := Option.bind_eq_some_iff.mp H
          obtain ⟨t392, A140, H⟩ := H
          replace H : (some t392) = some r := H
          have A14 := Aside0.mk A140
          clear A140
          obtain rfl := Option.some.inj H
          go_enter Try.func68, Try.ntmps68
          go_wp2_with (first | ((with_reducible refine gate_callee (f := 74) rfl ?_); refine goesL_ (some 12) rfl rfl Try.func74 (by kernel_rfl) rfl #[.int .i64 a1, .int .i64 a2] rfl (by (try simp only [List.map_toArray, List.map_cons, List.map_nil]); first | done | rfl | (simp only [List.length_drop, List.length_take]; rfl)) ?_; (with_reducible refine (thresherref6_divide.calls a1 a2 t390 t391 _ A4.out).mono ?_); rintro e w' ⟨rfl, ⟨nd, rfl⟩⟩; refine ⟨_, rfl, ?_⟩) | ((with_reducible refine gate_callee (f := 75) rfl ?_); refine goesL_ (some 56) rfl rfl Try.func75 (by kernel_rfl) rfl #[.int .i64 a1, .int .i64 a2, .int .i64 0] rfl (by (try simp only [List.map_toArray, List.map_cons, List.map_nil]); first | done | rfl | (simp only [List.length_drop, List.length_take]; rfl)) ?_; (with_reducible refine (thresherref1_Shift.calls a1 a2 0 t392 _ A14.out).mono ?_); rintro e w' ⟨rfl, ⟨nd, rfl⟩⟩; refine ⟨_, rfl, ?_⟩))
          go_ret
          exact ⟨by first | rfl | (simp; done) | (simp [*]; done), by repeat (first | exact Drawn0.refl _ | apply Drawn0.step)⟩
         ·
          rw [if_neg c13] at H
          have c13b0 : (a0 == 13) = false := beq_eq_false_iff_ne.mpr c13
          have c13b1 : (a0 != 13) = true := bne_iff_ne.mpr c13
          by_cases c15 : a0 = 14
          ·
           rw [if_pos c15] at H
           have c15b0 : (a0 == 14) = true := beq_iff_eq.mpr c15
           have c15b1 : (a0 != 14) = false := bne_eq_false_iff_eq.mpr c15
           clear c15
           replace H := Option.bind_eq_some_iff.mp H
           obtain ⟨t393, A160, H⟩ := H
           replace H : (some t393) = some r := H
           have A16 := Aside0.mk A160
           clear A160
           obtain rfl := Option.some.inj H
           go_enter Try.func68, Try.ntmps68
           go_wp2_with (first | ((with_reducible refine gate_callee (f := 74) rfl ?_); refine goesL_ (some 12) rfl rfl Try.func74 (by kernel_rfl) rfl #[.int .i64 a1, .int .i64 a2] rfl (by (try simp only [List.map_toArray, List.map_cons, List.map_nil]); first | done | rfl | (simp only [List.length_drop, List.length_take]; rfl)) ?_; (with_reducible refine (thresherref6_divide.calls a1 a2 t390 t391 _ A4.out).mono ?_); rintro e w' ⟨rfl, ⟨nd, rfl⟩⟩; refine ⟨_, rfl, ?_⟩) | ((with_reducible refine gate_callee (f := 75) rfl ?_); refine goesL_ (some 61) rfl rfl Try.func75 (by kernel_rfl) rfl #[.int .i64 a1, .int .i64 a2, .int .i64 1] rfl (by (try simp only [List.map_toArray, List.map_cons, List.map_nil]); first | done | rfl | (simp only [List.length_drop, List.length_take]; rfl)) ?_; (with_reducible refine (thresherref1_Shift.calls a1 a2 1 t393 _ A16.out).mono ?_); rintro e w' ⟨rfl, ⟨nd, rfl⟩⟩; refine ⟨_, rfl, ?_⟩))
           go_ret
           exact ⟨by first | rfl | (simp; done) | (simp [*]; done), by repeat (first | exact Drawn0.refl _ | apply Drawn0.step)⟩
          ·
           rw [if_neg c15] at H
           have c15b0 : (a0 == 14) = false := beq_eq_false_iff_ne.mpr c15
           have c15b1 : (a0 != 14) = true := bne_iff_ne.mpr c15
           by_cases c17 : a0 = 15
           ·
            rw [if_pos c17] at H
            have c17b0 : (a0 == 15) = true := beq_iff_eq.mpr c17
            have c17b1 : (a0 != 15) = false := bne_eq_false_iff_eq.mpr c17
            clear c17
            replace H := Option.bind_eq_some_iff.mp H
            obtain ⟨t394, A180, H⟩ := H
            replace H : (some t394) = some r := H
            have A18 := Aside0.mk A180
            clear A180
            obtain rfl := Option.some.inj H
            go_enter Try.func68, Try.ntmps68
            go_wp2_with (first | ((with_reducible refine gate_callee (f := 74) rfl ?_); refine goesL_ (some 12) rfl rfl Try.func74 (by kernel_rfl) rfl #[.int .i64 a1, .int .i64 a2] rfl (by (try simp only [List.map_toArray, List.map_cons, List.map_nil]); first | done | rfl | (simp only [List.length_drop, List.length_take]; rfl)) ?_; (with_reducible refine (thresherref6_divide.calls a1 a2 t390 t391 _ A4.out).mono ?_); rintro e w' ⟨rfl, ⟨nd, rfl⟩⟩; refine ⟨_, rfl, ?_⟩) | ((with_reducible refine gate_callee (f := 75) rfl ?_); refine goesL_ (some 66) rfl rfl Try.func75 (by kernel_rfl) rfl #[.int .i64 a1, .int .i64 a2, .int .i64 2] rfl (by (try simp only [List.map_toArray, List.map_cons, List.map_nil]); first | done | rfl | (simp only [List.length_drop, List.length_take]; rfl)) ?_; (with_reducible refine (thresherref1_Shift.calls a1 a2 2 t394 _ A18.out).mono ?_); rintro e w' ⟨rfl, ⟨nd, rfl⟩⟩; refine ⟨_, rfl, ?_⟩))
            go_ret
            exact ⟨by first | rfl | (simp; done) | (simp [*]; done), by repeat (first | exact Drawn0.refl _ | apply Drawn0.step)⟩
           ·
            rw [if_neg c17] at H
            have c17b0 : (a0 == 15) = false := beq_eq_false_iff_ne.mpr c17
            have c17b1 : (a0 != 15) = true := bne_iff_ne.mpr c17
            by_cases c19 : a0 = 16
            ·
             rw [if_pos c19] at H
             have c19b0 : (a0 == 16) = true := beq_iff_eq.mpr c19
             have c19b1 : (a0 != 16) = false := bne_eq_false_iff_eq.mpr c19
             clear c19
             replace H := Option.bind_eq_some_iff.mp H
             obtain ⟨t395, A200, H⟩ := H
             replace H : (some t395) = some r := H
             have A20 := Aside0.mk A200
             clear A200
             obtain rfl := Option.some.inj H
             go_enter Try.func68, Try.ntmps68
             go_wp2_with (first | ((with_reducible refine gate_callee (f := 74) rfl ?_); refine goesL_ (some 12) rfl rfl Try.func74 (by kernel_rfl) rfl #[.int .i64 a1, .int .i64 a2] rfl (by (try simp only [List.map_toArray, List.map_cons, List.map_nil]); first | done | rfl | (simp only [List.length_drop, List.length_take]; rfl)) ?_; (with_reducible refine (thresherref6_divide.calls a1 a2 t390 t391 _ A4.out).mono ?_); rintro e w' ⟨rfl, ⟨nd, rfl⟩⟩; refine ⟨_, rfl, ?_⟩) | ((with_reducible refine gate_callee (f := 69) rfl ?_); refine goesL_ (some 72) rfl rfl Try.func69 (by kernel_rfl) rfl #[.bool (decide (a1 < a2))] rfl (by (try simp only [List.map_toArray, List.map_cons, List.map_nil]); first | done | rfl | (simp only [List.length_drop, List.length_take]; rfl)) ?_; (with_reducible refine (thresherref6_truth.calls (decide (a1 < a2)) t395 _ A20.out).mono ?_); rintro e w' ⟨rfl, ⟨nd, rfl⟩⟩; refine ⟨_, rfl, ?_⟩))
             go_ret
             exact ⟨by first | rfl | (simp; done) | (simp [*]; done), by repeat (first | exact Drawn0.refl _ | apply Drawn0.step)⟩
            ·
             rw [if_neg c19] at H
             have c19b0 : (a0 == 16) = false := beq_eq_false_iff_ne.mpr c19
             have c19b1 : (a0 != 16) = true := bne_iff_ne.mpr c19
             replace H := Option.bind_eq_some_iff.mp H
             obtain ⟨t396, A210, H⟩ := H
             replace H : (some t396) = some r := H
             have A21 := Aside0.mk A210
             clear A210
             obtain rfl := Option.some.inj H
             go_enter Try.func68, Try.ntmps68
             go_wp2_with (first | ((with_reducible refine gate_callee (f := 74) rfl ?_); refine goesL_ (some 12) rfl rfl Try.func74 (by kernel_rfl) rfl #[.int .i64 a1, .int .i64 a2] rfl (by (try simp only [List.map_toArray, List.map_cons, List.map_nil]); first | done | rfl | (simp only [List.length_drop, List.length_take]; rfl)) ?_; (with_reducible refine (thresherref6_divide.calls a1 a2 t390 t391 _ A4.out).mono ?_); rintro e w' ⟨rfl, ⟨nd, rfl⟩⟩; refine ⟨_, rfl, ?_⟩) | ((with_reducible refine gate_callee (f := 69) rfl ?_); refine goesL_ (some 76) rfl rfl Try.func69 (by kernel_rfl) rfl #[.bool (a1 == a2)] rfl (by (try simp only [List.map_toArray, List.map_cons, List.map_nil]); first | done | rfl | (simp only [List.length_drop, List.length_take]; rfl)) ?_; (with_reducible refine (thresherref6_truth.calls (a1 == a2) t396 _ A21.out).mono ?_); rintro e w' ⟨rfl, ⟨nd, rfl⟩⟩; refine ⟨_, rfl, ?_⟩))
             go_ret
             exact ⟨by first | rfl | (simp; done) | (simp [*]; done), by repeat (first | exact Drawn0.refl _ | apply Drawn0.step)⟩

/-! ### thresherref1_Cut: function 70 -/
def thresherref1_Cut.f (a0 : Int) (a1 : Int) (a2 : Bool) : Option (Int) := if 0 ≤ a1 then (if a2 = true then (if 0 ≤ (wrap64 (a1 - 1)) then (if (shr .u64 (Go.bits .and .u64 (IntKind.u64.wrap (a0)) (IntKind.u64.wrap ((shl .u64 1 a1) - 1))) (wrap64 (a1 - 1))) = 1 then (some (wrap64 (Go.bits .or .u64 (Go.bits .and .u64 (IntKind.u64.wrap (a0)) (IntKind.u64.wrap ((shl .u64 1 a1) - 1))) (shl .u64 18446744073709551615 a1)))) else (some (wrap64 (Go.bits .and .u64 (IntKind.u64.wrap (a0)) (IntKind.u64.wrap ((shl .u64 1 a1) - 1)))))) else (none)) else (some (wrap64 (Go.bits .and .u64 (IntKind.u64.wrap (a0)) (IntKind.u64.wrap ((shl .u64 1 a1) - 1)))))) else (none)
set_option maxHeartbeats 8000000 in
set_option maxRecDepth 100000 in
theorem thresherref1_Cut.calls (a0 : Int) (a1 : Int) (a2 : Bool) (r : Int) (w : World) (h : thresherref1_Cut.f a0 a1 a2 = some r) :
  Calls Try.prog 70 #[.int .i64 a0, .int .i64 a1, .bool a2] w fun e w' => e = .returned (.int .i64 r) ∧ Drawn0 w w' := by
 have H : (if 0 ≤ a1 then (if a2 = true then (if 0 ≤ (wrap64 (a1 - 1)) then (if (shr .u64 (Go.bits .and .u64 (IntKind.u64.wrap (a0)) (IntKind.u64.wrap ((shl .u64 1 a1) - 1))) (wrap64 (a1 - 1))) = 1 then (some (wrap64 (Go.bits .or .u64 (Go.bits .and .u64 (IntKind.u64.wrap (a0)) (IntKind.u64.wrap ((shl .u64 1 a1) - 1))) (shl .u64 18446744073709551615 a1)))) else (some (wrap64 (Go.bits .and .u64 (IntKind.u64.wrap (a0)) (IntKind.u64.wrap ((shl .u64 1 a1) - 1)))))) else (none)) else (some (wrap64 (Go.bits .and .u64 (IntKind.u64.wrap (a0)) (IntKind.u64.wrap ((shl .u64 1 a1) - 1)))))) else (none)) = some r := h
 clear h
 by_cases c4 : 0 ≤ a1
 ·
  rw [if_pos c4] at H
  have c4b0 := eq_true c4
  have c4b1 : decide (0 ≤ a1) = true := decide_eq_true c4
  clear c4
  obtain ⟨ji5, hji5⟩ : ∃ j_ : Int, (shl .u64 1 a1) = j_ := ⟨_, rfl⟩
  replace H : (if a2 = true then (if 0 ≤ (wrap64 (a1 - 1)) then (if (shr .u64 (Go.bits .and .u64 (IntKind.u64.wrap (a0)) (IntKind.u64.wrap ((ji5) - 1))) (wrap64 (a1 - 1))) = 1 then (some (wrap64 (Go.bits .or .u64 (Go.bits .and .u64 (IntKind.u64.wrap (a0)) (IntKind.u64.wrap ((ji5) - 1))) (shl .u64 18446744073709551615 a1)))) else (some (wrap64 (Go.bits .and .u64 (IntKind.u64.wrap (a0)) (IntKind.u64.wrap ((ji5) - 1)))))) else (none)) else (some (wrap64 (Go.bits .and .u64 (IntKind.u64.wrap (a0)) (IntKind.u64.wrap ((ji5) - 1)))))) = some r := by first | (rw [hji5] at H; exact H) | (simp only [hji5] at H ⊢; exact H)
  have hji5_ : (IntKind.u64.wrap (1 * 2 ^ min a1.toNat 64)) = ji5 := hji5
  have hji5z : a1 ≤ 64 → (IntKind.u64.wrap (1 * 2 ^ a1.toNat)) = ji5 := shl_small hji5
  have hji5u : (IntKind.u64.wrap (2 ^ min a1.toNat 64)) = ji5 := by have h_ := hji5_; rw [Int.one_mul] at h_; exact h_
  have hji5v : a1 ≤ 64 → (IntKind.u64.wrap (2 ^ a1.toNat)) = ji5 := fun hle_ => by have h_ := hji5z hle_; rw [Int.one_mul] at h_; exact h_
  by_cases c6 : a2 = true
  ·
   subst c6
   have H1 : (if 0 ≤ (wrap64 (a1 - 1)) then (if (shr .u64 (Go.bits .and .u64 (IntKind.u64.wrap (a0)) (IntKind.u64.wrap ((ji5) - 1))) (wrap64 (a1 - 1))) = 1 then (some (wrap64 (Go.bits .or .u64 (Go.bits .and .u64 (IntKind.u64.wrap (a0)) (IntKind.u64.wrap ((ji5) - 1))) (shl .u64 18446744073709551615 a1)))) else (some (wrap64 (Go.bits .and .u64 (IntKind.u64.wrap (a0)) (IntKind.u64.wrap ((ji5) - 1)))))) else (none)) = some r := by rw [if_pos rfl] at H; exact H
   clear H
   have H := H1
   clear H1
   obtain ⟨ji7, hji7⟩ : ∃ j_ : Int, (wrap64 (a1 - 1)) = j_ := ⟨_, rfl⟩
   replace H : (if 0 ≤ (ji7) then (if (shr .u64 (Go.bits .and .u64 (IntKind.u64.wrap (a0)) (IntKind.u64.wrap ((ji5) - 1))) (ji7)) = 1 then (some (wrap64 (Go.bits .or .u64 (Go.bits .and .u64 (IntKind.u64.wrap (a0)) (IntKind.u64.wrap ((ji5) - 1))) (shl .u64 18446744073709551615 a1)))) else (some (wrap64 (Go.bits .and .u64 (IntKind.u64.wrap (a0)) (IntKind.u64.wrap ((ji5) - 1)))))) else (none)) = some r := by first | (rw [hji7] at H; exact H) | (simp only [hji7] at H ⊢; exact H)
   have hji7w : (IntKind.i64.wrap (a1 - 1)) = ji7 := (i64_w _).trans hji7
   by_cases c8 : 0 ≤ (ji7)
   ·
    rw [if_pos c8] at H
    have c8b0 := eq_true c8
    have c8b1 : decide (0 ≤ (ji7)) = true := decide_eq_true c8
    clear c8
    obtain ⟨ji9, hji9⟩ : ∃ j_ : Int, (shr .u64 (Go.bits .and .u64 (IntKind.u64.wrap (a0)) (IntKind.u64.wrap ((ji5) - 1))) (ji7)) = j_ := ⟨_, rfl⟩
    replace H : (if (ji9) = 1 then (some (wrap64 (Go.bits .or .u64 (Go.bits .and .u64 (IntKind.u64.wrap (a0)) (IntKind.u64.wrap ((ji5) - 1))) (shl .u64 18446744073709551615 a1)))) else (some (wrap64 (Go.bits .and .u64 (IntKind.u64.wrap (a0)) (IntKind.u64.wrap ((ji5) - 1)))))) = some r := by first | (rw [hji9] at H; exact H) | (simp only [hji9] at H ⊢; exact H)
    have hji9_ : ((Go.bits .and .u64 (IntKind.u64.wrap (a0)) (IntKind.u64.wrap ((ji5) - 1))) / 2 ^ min (ji7).toNat 64) = ji9 := hji9
    have hji9z : (ji7) ≤ 64 → ((Go.bits .and .u64 (IntKind.u64.wrap (a0)) (IntKind.u64.wrap ((ji5) - 1))) / 2 ^ (ji7).toNat) = ji9 := shr_small hji9
    by_cases c10 : (ji9) = 1
    ·
     rw [if_pos c10] at H
     have c10b0 : ((ji9) == 1) = true := beq_iff_eq.mpr c10
     have c10b1 : ((ji9) != 1) = false := bne_eq_false_iff_eq.mpr c10
     clear c10
     have c11b0 := eq_true (of_decide_eq_true (by first | (with_reducible assumption) | assumption) : 0 ≤ a1)
     obtain ⟨ji12, hji12⟩ : ∃ j_ : Int, (shl .u64 18446744073709551615 a1) = j_ := ⟨_, rfl⟩
     replace H : (some (wrap64 (Go.bits .or .u64 (Go.bits .and .u64 (IntKind.u64.wrap (a0)) (IntKind.u64.wrap ((ji5) - 1))) (ji12)))) = some r := by first | (rw [hji12] at H; exact H) | (simp only [hji12] at H ⊢; exact H)
     have hji12_ : (IntKind.u64.wrap (18446744073709551615 * 2 ^ min a1.toNat 64)) = ji12 := hji12
     have hji12z : a1 ≤ 64 → (IntKind.u64.wrap (18446744073709551615 * 2 ^ a1.toNat)) = ji12 := shl_small hji12
     obtain rfl := Option.some.inj H
     go_enter Try.func70, Try.ntmps70
     go_wp2
     go_ret
     exact ⟨by first | rfl | (simp; done) | (simp only [← hji5, ← hji7, ← hji9, ← hji12] <;> (first | rfl | simp)) | (simp [*]; done), by repeat (first | exact Drawn0.refl _ | apply Drawn0.step)⟩
    ·
     rw [if_neg c10] at H
     have c10b0 : ((ji9) == 1) = false := beq_eq_false_iff_ne.mpr c10
     have c10b1 : ((ji9) != 1) = true := bne_iff_ne.mpr c10
     obtain rfl := Option.some.inj H
     go_enter Try.func70, Try.ntmps70
     go_wp2
     go_ret
     exact ⟨by first | rfl | (simp; done) | (simp only [← hji5, ← hji7, ← hji9] <;> (first | rfl | simp)) | (simp [*]; done), by repeat (first | exact Drawn0.refl _ | apply Drawn0.step)⟩
   ·
    rw [if_neg c8] at H
    exact absurd H (by simp)
  ·
   replace c6 := Bool.eq_false_iff.mpr c6
   subst c6
   have H1 : (some (wrap64 (Go.bits .and .u64 (IntKind.u64.wrap (a0)) (IntKind.u64.wrap ((ji5) - 1))))) = some r := by rw [if_neg (show ¬ (false = true) by decide)] at H; exact H
   clear H
   have H := H1
   clear H1
   obtain rfl := Option.some.inj H
   go_enter Try.func70, Try.ntmps70
   go_wp2
   go_ret
   exact ⟨by first | rfl | (simp; done) | (simp only [← hji5] <;> (first | rfl | simp)) | (simp [*]; done), by repeat (first | exact Drawn0.refl _ | apply Drawn0.step)⟩
 ·
  rw [if_neg c4] at H
  exact absurd H (by simp)

-- NOT PRINTED: function 56 (thresherref6_machine_op)

-- NOT PRINTED: function 52 (thresherref6_machine_run)

end Go.Proofs.Ytchgjkfnmifgkaa.QE
