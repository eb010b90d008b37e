-- Printed for this claim by a turned copy of the kit's print (wip/patch_print.py): a text of this session.
import Derived.Test.YtchgjkfnmifgkaaQEx0
import Derived.Test.YtchgjkfnmifgkaaQEx1
import Derived.Test.YtchgjkfnmifgkaaEvRun
namespace Go.Proofs.Ytchgjkfnmifgkaa.QE
open Go.RowKit Go.Proofs.YtchgjkfnmifgkaaW.PrintWords Go.Proofs.YtchgjkfnmifgkaaW.PrintLast Go.Proofs.YtchgjkfnmifgkaaW.PrintMore
attribute [local go_sem] max2_int min2_int max_two min_two max_three min_three max_four min_four   -- for this text's walks alone
set_option linter.unusedVariables false
set_option linter.unusedSimpArgs false

attribute [local go_sem high] eqA50
/-! ### thresherlaw8_num: function 26 -/
def thresherlaw8_num.f (a0 : Int) : Option (Int) := some a0
set_option maxHeartbeats 8000000 in
set_option maxRecDepth 100000 in
theorem thresherlaw8_num.calls (a0 : Int) (r : Int) (w : World) (h : thresherlaw8_num.f a0 = some r) :
  Calls Try.prog 26 #[.int .i64 a0] w fun e w' => e = .returned (.int .i64 r) ∧ Drawn0 w w' := by
 have H : (some a0) = some r := h
 clear h
 obtain rfl := Option.some.inj H
 go_enter Try.func26, Try.ntmps26
 go_wp2
 go_ret
 exact ⟨by first | rfl | (simp; done) | (simp [*]; done), by repeat (first | exact Drawn0.refl _ | apply Drawn0.step)⟩

/-! ### thresherlaw8_wakes: function 24 -/
def thresherlaw8_wakes.f (k : Nat)  : Option (Bool) := (eval_Run.f k (([(⟨2, 0, ([] : List (S34))⟩ : S34), (⟨4, 0, ([] : List (S34))⟩ : S34), (⟨30, 0, ([] : List (S34))⟩ : S34)] : List (S34))) 1 (⟨#[120]⟩ : ByteArray) 2 5).bind fun bt276 => ((thresherlaw8_num.f bt276.2.2).bind fun t281 => (if t281 = 0 then (if bt276.2.1 = 2 then (if (bt276.1.length : Int) = 1 then (if 0 < (bt276.1.length : Int) then (some ((((rd_T50 bt276.1 0).f0.f0) == 1 && ((((rd_T50 bt276.1 0).f0.f1).toList) == ([120] : List UInt8))) && (((rd_T50 bt276.1 0).f1) == 2))) else (none)) else (some false)) else (some false)) else (some false)))
theorem thresherlaw8_wakes.mono : ∀ k, LeO (thresherlaw8_wakes.f k ) (thresherlaw8_wakes.f (k + 1) ) := by
 intro  k
 unfold thresherlaw8_wakes.f
 repeat' first
   | (with_reducible exact eval_Run.mono _ _ _ _ _ _)
   | (with_reducible exact LeO.refl _)
   | (with_reducible exact LeO.none _)
   | (with_reducible refine LeO.ite ?_ ?_)
   | (with_reducible refine LeO.bind ?_ (fun _ => ?_))
   | exact eval_Run.mono _ _ _ _ _ _
   | exact LeO.none _
   | refine LeO.ite ?_ ?_
   | refine LeO.bind ?_ (fun _ => ?_)
set_option maxHeartbeats 8000000 in
set_option maxRecDepth 100000 in
theorem thresherlaw8_wakes.calls (k : Nat)  (r : Bool) (w : World) (h : thresherlaw8_wakes.f k  = some r) :
  Calls Try.prog 24 #[] w fun e w' => e = .returned (.bool r) ∧ Below w.heap.size w w' := by
 have hu34 := Try.underlying34
 have hu48 := Try.underlying48
 have hu50 := Try.underlying50
 have HB := Aside0.mk (Below.refl w.heap.size w)
 have H : ((eval_Run.f k (([(⟨2, 0, ([] : List (S34))⟩ : S34), (⟨4, 0, ([] : List (S34))⟩ : S34), (⟨30, 0, ([] : List (S34))⟩ : S34)] : List (S34))) 1 (⟨#[120]⟩ : ByteArray) 2 5).bind fun bt276 => ((thresherlaw8_num.f bt276.2.2).bind fun t281 => (if t281 = 0 then (if bt276.2.1 = 2 then (if (bt276.1.length : Int) = 1 then (if 0 < (bt276.1.length : Int) then (some ((((rd_T50 bt276.1 0).f0.f0) == 1 && ((((rd_T50 bt276.1 0).f0.f1).toList) == ([120] : List UInt8))) && (((rd_T50 bt276.1 0).f1) == 2))) else (none)) else (some false)) else (some false)) else (some false)))) = some r := h
 clear h
 obtain ⟨y273, hy273⟩ : ∃ y_ : List (S34), y_ = (([(⟨2, 0, ([] : List (S34))⟩ : S34), (⟨4, 0, ([] : List (S34))⟩ : S34), (⟨30, 0, ([] : List (S34))⟩ : S34)] : List (S34))) := ⟨_, rfl⟩
 replace H : ((eval_Run.f k y273 1 (⟨#[120]⟩ : ByteArray) 2 5).bind fun bt276 => ((thresherlaw8_num.f bt276.2.2).bind fun t281 => (if t281 = 0 then (if bt276.2.1 = 2 then (if (bt276.1.length : Int) = 1 then (if 0 < (bt276.1.length : Int) then (some ((((rd_T50 bt276.1 0).f0.f0) == 1 && ((((rd_T50 bt276.1 0).f0.f1).toList) == ([120] : List UInt8))) && (((rd_T50 bt276.1 0).f1) == 2))) else (none)) else (some false)) else (some false)) else (some false)))) = some r := by first | (rw [hy273]; with_reducible exact H) | (have H2_ := (Option.bind_some _ _).symm.trans H; rw [hy273]; with_reducible exact H2_) | (have H2_ := (Option.bind_some _ _).symm.trans H; with_reducible exact H2_) | with_reducible exact H | (rw [hy273]; exact H) | exact H
 have Ny273 := Aside0.mk hy273
 clear hy273
 replace H := Option.bind_eq_some_iff.mp H
 obtain ⟨⟨t276, t279, t280⟩, A10, H⟩ := H
 replace H : ((thresherlaw8_num.f t280).bind fun t281 => (if t281 = 0 then (if t279 = 2 then (if (t276.length : Int) = 1 then (if 0 < (t276.length : Int) then (some ((((rd_T50 t276 0).f0.f0) == 1 && ((((rd_T50 t276 0).f0.f1).toList) == ([120] : List UInt8))) && (((rd_T50 t276 0).f1) == 2))) else (none)) else (some false)) else (some false)) else (some false))) = some r := H
 have A1 := Aside0.mk A10
 clear A10
 replace H := Option.bind_eq_some_iff.mp H
 obtain ⟨t281, A20, H⟩ := H
 replace H : (if t281 = 0 then (if t279 = 2 then (if (t276.length : Int) = 1 then (if 0 < (t276.length : Int) then (some ((((rd_T50 t276 0).f0.f0) == 1 && ((((rd_T50 t276 0).f0.f1).toList) == ([120] : List UInt8))) && (((rd_T50 t276 0).f1) == 2))) else (none)) else (some false)) else (some false)) else (some false)) = some r := H
 have A2 := Aside0.mk A20
 clear A20
 by_cases c3 : t281 = 0
 ·
  rw [if_pos c3] at H
  have c3b0 : (t281 == 0) = true := beq_iff_eq.mpr c3
  have c3b1 : (t281 != 0) = false := bne_eq_false_iff_eq.mpr c3
  clear c3
  by_cases c4 : t279 = 2
  ·
   rw [if_pos c4] at H
   have c4b0 : (t279 == 2) = true := beq_iff_eq.mpr c4
   have c4b1 : (t279 != 2) = false := bne_eq_false_iff_eq.mpr c4
   clear c4
   by_cases c5 : (t276.length : Int) = 1
   ·
    rw [if_pos c5] at H
    have c5b0 : ((t276.length : Int) == 1) = true := beq_iff_eq.mpr c5
    have c5b1 : ((t276.length : Int) != 1) = false := bne_eq_false_iff_eq.mpr c5
    clear c5
    by_cases c6 : 0 < (t276.length : Int)
    ·
     rw [if_pos c6] at H
     have c6b0 : decide (0 < (t276.length : Int)) = true := decide_eq_true c6
     have c6b1 : decide (0 < t276.length) = true := decide_eq_true (by omega)
     clear c6
     obtain rfl := Option.some.inj H
     go_enter Try.func24, Try.ntmps24
     go_wp2_with (first | ((with_reducible refine gate_dst (N := 8) rfl ?_); (try (refine gate_guard (by rfl) ?_; dsimp only)); refine Kd.R_lit k34 _ 34 ?hg (N := 8) ?hd (xs := ([(⟨2, 0, ([] : List (S34))⟩ : S34), (⟨4, 0, ([] : List (S34))⟩ : S34), (⟨30, 0, ([] : List (S34))⟩ : S34)] : List (S34))) (inner := [.int .i64 2, .int .i64 0, .slice none 0 0, .int .i64 4, .int .i64 0, .slice none 0 0, .int .i64 30, .int .i64 0, .slice none 0 0]) (ok := fun _ => True) (okp := fun _ => True) ?hr ?hp (fun _ hk => hk) trivial (Below.refl _ _) (Nat.le_refl _) (by simp) ?_; (case hd => rfl); (case hg => rfl); (case hr => first | (go_simp; done) | (go_simp; rfl)); (case hp => exact (Reps.c3 (show Kd.M k34 _ _ _ (⟨2, 0, ([] : List (S34))⟩ : S34) [.int .i64 2, .int .i64 0, .slice none 0 0] from (k34_mkM _ _ _ (⟨2, 0, ([] : List (S34))⟩ : S34) (Kd.R_nil _ _ _ _ _))) (Reps.c3 (show Kd.M k34 _ _ _ (⟨4, 0, ([] : List (S34))⟩ : S34) [.int .i64 4, .int .i64 0, .slice none 0 0] from (k34_mkM _ _ _ (⟨4, 0, ([] : List (S34))⟩ : S34) (Kd.R_nil _ _ _ _ _))) (Reps.c3 (show Kd.M k34 _ _ _ (⟨30, 0, ([] : List (S34))⟩ : S34) [.int .i64 30, .int .i64 0, .slice none 0 0] from (k34_mkM _ _ _ (⟨30, 0, ([] : List (S34))⟩ : S34) (Kd.R_nil _ _ _ _ _))) (Reps.none _ _))))); intro v274 w7 ho8 hb hg_ hnew_; clear hg_ hnew_; (first | rw [← Ny273.out] at ho8 | (simp only [Int.reduceToNat] at ho8; rw [← Ny273.out] at ho8)); have n0_ := Aside0.mk (Kd.R_lower ho8 (below_size (by repeat (first | (with_reducible first | exact HB.out | apply below_alloc | apply pw_below_drewN | apply below_drew1) | exact HB.out)))); have n1_ := Aside0.mk (below_step (by repeat (first | (with_reducible first | exact HB.out | apply below_alloc | apply pw_below_drewN | apply below_drew1) | exact HB.out)) hb); clear HB; have HO275 := n0_; have HB := n1_; clear n0_ n1_; clear hb ho8; obtain ⟨Ao9, co9, eo9⟩ := Kd.R_slice HO275.out; subst eo9) | ((with_reducible refine gate_callee (f := 25) rfl ?_); refine goesL_ (some 11) rfl rfl Try.func25 (by kernel_rfl) rfl #[.slice Ao9 y273.length co9, .agg #[.int .i64 1, .string (⟨#[120]⟩ : ByteArray), .int .i64 2], .int .i64 5] rfl (by (try simp only [List.map_toArray, List.map_cons, List.map_nil]); first | done | rfl | (simp only [List.length_drop, List.length_take]; rfl)) ?_; (with_reducible refine (eval_Run.calls k _ _ y273 1 (⟨#[120]⟩ : ByteArray) 2 5 t276 t279 t280 _ ?side1 ?side2 A1.out).mono ?_); (case side1 => repeat (first | exact (Kd.R_reads' HO275.out).2.2 | (with_reducible refine Kd.C_alloc ?_ _) | (with_reducible refine Kd.C_drewN ?_ _) | (with_reducible refine Kd.C_drew ?_))); (case side2 => exact (Kd.R_reads' HO275.out).2.1); rintro e w10 ⟨v277, rfl, ho0, hb⟩; refine ⟨_, rfl, ?_⟩; have n0_ := Aside0.mk (Kd.R_below (by (with_reducible repeat (first | apply Kd.R_alloc | apply Kd.R_drewN | apply Kd.R_drew)); exact HO275.out) hb); have n1_ := Aside0.mk (Kd.R_lower ho0 (below_size (by repeat (first | (with_reducible first | exact HB.out | apply below_alloc | apply pw_below_drewN | apply below_drew1) | exact HB.out)))); have n2_ := Aside0.mk (below_step (by repeat (first | (with_reducible first | exact HB.out | apply below_alloc | apply pw_below_drewN | apply below_drew1) | exact HB.out)) hb); clear HO275; clear HB; have HO275 := n0_; have HO278 := n1_; have HB := n2_; clear n0_ n1_ n2_; (try clear hb); (try clear hb2); (try clear hk); (try clear hi); (try clear ho0)) | ((with_reducible refine gate_callee (f := 26) rfl ?_); refine goesL_ (some 16) rfl rfl Try.func26 (by kernel_rfl) rfl #[.int .i64 t280] rfl (by (try simp only [List.map_toArray, List.map_cons, List.map_nil]); first | done | rfl | (simp only [List.length_drop, List.length_take]; rfl)) ?_; (with_reducible refine (thresherlaw8_num.calls t280 t281 _ A2.out).mono ?_); rintro e w' ⟨rfl, ⟨nd, rfl⟩⟩; refine ⟨_, rfl, ?_⟩; obtain ⟨Ao11, co11, eo11⟩ := Kd.R_slice HO278.out; subst eo11; have p282 : 0 ≤ (0 : Int) := (by omega); have q282 : 0 < (t276.length : Int) := of_decide_eq_true (by first | (with_reducible assumption) | assumption); obtain ⟨ad282, e282, hx282_0, hx282_1, hx282_2⟩ := at_T50 (Kd.R_reads' HO278.out).2.2 0 p282 q282; cases e282; have qi282 : (0 < t276.length) = True := eq_true (by omega); (try rw [show ((0 : Int)).toNat = 0 from rfl] at hx282_0); (try rw [show 0 * 3 = 0 from rfl] at hx282_0); (try rw [Addr.add_zero'] at hx282_0); (try rw [show ((0 : Int)).toNat = 0 from rfl] at hx282_1); (try rw [show 0 * 3 = 0 from rfl] at hx282_1); (try rw [Addr.add_zero'] at hx282_1); (try rw [show ((0 : Int)).toNat = 0 from rfl] at hx282_2); (try rw [show 0 * 3 = 0 from rfl] at hx282_2); (try rw [Addr.add_zero'] at hx282_2); replace p282 := eq_true p282; replace q282 := eq_true q282))
     go_ret
     exact ⟨by first | rfl | (simp [errW_none, errW_some] <;> rfl) | (simp [*, errW_none, errW_some] <;> rfl), by repeat (first | (with_reducible first | exact HB.out | apply below_alloc | apply pw_below_drewN | apply below_drew1) | exact HB.out)⟩
    ·
     rw [if_neg c6] at H
     exact absurd H (by simp)
   ·
    rw [if_neg c5] at H
    have c5b0 : ((t276.length : Int) == 1) = false := beq_eq_false_iff_ne.mpr c5
    have c5b1 : ((t276.length : Int) != 1) = true := bne_iff_ne.mpr c5
    obtain rfl := Option.some.inj H
    go_enter Try.func24, Try.ntmps24
    go_wp2_with (first | ((with_reducible refine gate_dst (N := 8) rfl ?_); (try (refine gate_guard (by rfl) ?_; dsimp only)); refine Kd.R_lit k34 _ 34 ?hg (N := 8) ?hd (xs := ([(⟨2, 0, ([] : List (S34))⟩ : S34), (⟨4, 0, ([] : List (S34))⟩ : S34), (⟨30, 0, ([] : List (S34))⟩ : S34)] : List (S34))) (inner := [.int .i64 2, .int .i64 0, .slice none 0 0, .int .i64 4, .int .i64 0, .slice none 0 0, .int .i64 30, .int .i64 0, .slice none 0 0]) (ok := fun _ => True) (okp := fun _ => True) ?hr ?hp (fun _ hk => hk) trivial (Below.refl _ _) (Nat.le_refl _) (by simp) ?_; (case hd => rfl); (case hg => rfl); (case hr => first | (go_simp; done) | (go_simp; rfl)); (case hp => exact (Reps.c3 (show Kd.M k34 _ _ _ (⟨2, 0, ([] : List (S34))⟩ : S34) [.int .i64 2, .int .i64 0, .slice none 0 0] from (k34_mkM _ _ _ (⟨2, 0, ([] : List (S34))⟩ : S34) (Kd.R_nil _ _ _ _ _))) (Reps.c3 (show Kd.M k34 _ _ _ (⟨4, 0, ([] : List (S34))⟩ : S34) [.int .i64 4, .int .i64 0, .slice none 0 0] from (k34_mkM _ _ _ (⟨4, 0, ([] : List (S34))⟩ : S34) (Kd.R_nil _ _ _ _ _))) (Reps.c3 (show Kd.M k34 _ _ _ (⟨30, 0, ([] : List (S34))⟩ : S34) [.int .i64 30, .int .i64 0, .slice none 0 0] from (k34_mkM _ _ _ (⟨30, 0, ([] : List (S34))⟩ : S34) (Kd.R_nil _ _ _ _ _))) (Reps.none _ _))))); intro v274 w12 ho13 hb hg_ hnew_; clear hg_ hnew_; (first | rw [← Ny273.out] at ho13 | (simp only [Int.reduceToNat] at ho13; rw [← Ny273.out] at ho13)); have n0_ := Aside0.mk (Kd.R_lower ho13 (below_size (by repeat (first | (with_reducible first | exact HB.out | apply below_alloc | apply pw_below_drewN | apply below_drew1) | exact HB.out)))); have n1_ := Aside0.mk (below_step (by repeat (first | (with_reducible first | exact HB.out | apply below_alloc | apply pw_below_drewN | apply below_drew1) | exact HB.out)) hb); clear HB; have HO275 := n0_; have HB := n1_; clear n0_ n1_; clear hb ho13; obtain ⟨Ao14, co14, eo14⟩ := Kd.R_slice HO275.out; subst eo14) | ((with_reducible refine gate_callee (f := 25) rfl ?_); refine goesL_ (some 11) rfl rfl Try.func25 (by kernel_rfl) rfl #[.slice Ao14 y273.length co14, .agg #[.int .i64 1, .string (⟨#[120]⟩ : ByteArray), .int .i64 2], .int .i64 5] rfl (by (try simp only [List.map_toArray, List.map_cons, List.map_nil]); first | done | rfl | (simp only [List.length_drop, List.length_take]; rfl)) ?_; (with_reducible refine (eval_Run.calls k _ _ y273 1 (⟨#[120]⟩ : ByteArray) 2 5 t276 t279 t280 _ ?side1 ?side2 A1.out).mono ?_); (case side1 => repeat (first | exact (Kd.R_reads' HO275.out).2.2 | (with_reducible refine Kd.C_alloc ?_ _) | (with_reducible refine Kd.C_drewN ?_ _) | (with_reducible refine Kd.C_drew ?_))); (case side2 => exact (Kd.R_reads' HO275.out).2.1); rintro e w15 ⟨v277, rfl, ho0, hb⟩; refine ⟨_, rfl, ?_⟩; have n0_ := Aside0.mk (Kd.R_below (by (with_reducible repeat (first | apply Kd.R_alloc | apply Kd.R_drewN | apply Kd.R_drew)); exact HO275.out) hb); have n1_ := Aside0.mk (Kd.R_lower ho0 (below_size (by repeat (first | (with_reducible first | exact HB.out | apply below_alloc | apply pw_below_drewN | apply below_drew1) | exact HB.out)))); have n2_ := Aside0.mk (below_step (by repeat (first | (with_reducible first | exact HB.out | apply below_alloc | apply pw_below_drewN | apply below_drew1) | exact HB.out)) hb); clear HO275; clear HB; have HO275 := n0_; have HO278 := n1_; have HB := n2_; clear n0_ n1_ n2_; (try clear hb); (try clear hb2); (try clear hk); (try clear hi); (try clear ho0)) | ((with_reducible refine gate_callee (f := 26) rfl ?_); refine goesL_ (some 16) rfl rfl Try.func26 (by kernel_rfl) rfl #[.int .i64 t280] rfl (by (try simp only [List.map_toArray, List.map_cons, List.map_nil]); first | done | rfl | (simp only [List.length_drop, List.length_take]; rfl)) ?_; (with_reducible refine (thresherlaw8_num.calls t280 t281 _ A2.out).mono ?_); rintro e w' ⟨rfl, ⟨nd, rfl⟩⟩; refine ⟨_, rfl, ?_⟩; obtain ⟨Ao16, co16, eo16⟩ := Kd.R_slice HO278.out; subst eo16))
    go_ret
    exact ⟨by first | rfl | (simp [errW_none, errW_some] <;> rfl) | (simp [*, errW_none, errW_some] <;> rfl), by repeat (first | (with_reducible first | exact HB.out | apply below_alloc | apply pw_below_drewN | apply below_drew1) | exact HB.out)⟩
  ·
   rw [if_neg c4] at H
   have c4b0 : (t279 == 2) = false := beq_eq_false_iff_ne.mpr c4
   have c4b1 : (t279 != 2) = true := bne_iff_ne.mpr c4
   obtain rfl := Option.some.inj H
   go_enter Try.func24, Try.ntmps24
   go_wp2_with (first | ((with_reducible refine gate_dst (N := 8) rfl ?_); (try (refine gate_guard (by rfl) ?_; dsimp only)); refine Kd.R_lit k34 _ 34 ?hg (N := 8) ?hd (xs := ([(⟨2, 0, ([] : List (S34))⟩ : S34), (⟨4, 0, ([] : List (S34))⟩ : S34), (⟨30, 0, ([] : List (S34))⟩ : S34)] : List (S34))) (inner := [.int .i64 2, .int .i64 0, .slice none 0 0, .int .i64 4, .int .i64 0, .slice none 0 0, .int .i64 30, .int .i64 0, .slice none 0 0]) (ok := fun _ => True) (okp := fun _ => True) ?hr ?hp (fun _ hk => hk) trivial (Below.refl _ _) (Nat.le_refl _) (by simp) ?_; (case hd => rfl); (case hg => rfl); (case hr => first | (go_simp; done) | (go_simp; rfl)); (case hp => exact (Reps.c3 (show Kd.M k34 _ _ _ (⟨2, 0, ([] : List (S34))⟩ : S34) [.int .i64 2, .int .i64 0, .slice none 0 0] from (k34_mkM _ _ _ (⟨2, 0, ([] : List (S34))⟩ : S34) (Kd.R_nil _ _ _ _ _))) (Reps.c3 (show Kd.M k34 _ _ _ (⟨4, 0, ([] : List (S34))⟩ : S34) [.int .i64 4, .int .i64 0, .slice none 0 0] from (k34_mkM _ _ _ (⟨4, 0, ([] : List (S34))⟩ : S34) (Kd.R_nil _ _ _ _ _))) (Reps.c3 (show Kd.M k34 _ _ _ (⟨30, 0, ([] : List (S34))⟩ : S34) [.int .i64 30, .int .i64 0, .slice none 0 0] from (k34_mkM _ _ _ (⟨30, 0, ([] : List (S34))⟩ : S34) (Kd.R_nil _ _ _ _ _))) (Reps.none _ _))))); intro v274 w17 ho18 hb hg_ hnew_; clear hg_ hnew_; (first | rw [← Ny273.out] at ho18 | (simp only [Int.reduceToNat] at ho18; rw [← Ny273.out] at ho18)); have n0_ := Aside0.mk (Kd.R_lower ho18 (below_size (by repeat (first | (with_reducible first | exact HB.out | apply below_alloc | apply pw_below_drewN | apply below_drew1) | exact HB.out)))); have n1_ := Aside0.mk (below_step (by repeat (first | (with_reducible first | exact HB.out | apply below_alloc | apply pw_below_drewN | apply below_drew1) | exact HB.out)) hb); clear HB; have HO275 := n0_; have HB := n1_; clear n0_ n1_; clear hb ho18; obtain ⟨Ao19, co19, eo19⟩ := Kd.R_slice HO275.out; subst eo19) | ((with_reducible refine gate_callee (f := 25) rfl ?_); refine goesL_ (some 11) rfl rfl Try.func25 (by kernel_rfl) rfl #[.slice Ao19 y273.length co19, .agg #[.int .i64 1, .string (⟨#[120]⟩ : ByteArray), .int .i64 2], .int .i64 5] rfl (by (try simp only [List.map_toArray, List.map_cons, List.map_nil]); first | done | rfl | (simp only [List.length_drop, List.length_take]; rfl)) ?_; (with_reducible refine (eval_Run.calls k _ _ y273 1 (⟨#[120]⟩ : ByteArray) 2 5 t276 t279 t280 _ ?side1 ?side2 A1.out).mono ?_); (case side1 => repeat (first | exact (Kd.R_reads' HO275.out).2.2 | (with_reducible refine Kd.C_alloc ?_ _) | (with_reducible refine Kd.C_drewN ?_ _) | (with_reducible refine Kd.C_drew ?_))); (case side2 => exact (Kd.R_reads' HO275.out).2.1); rintro e w20 ⟨v277, rfl, ho0, hb⟩; refine ⟨_, rfl, ?_⟩; have n0_ := Aside0.mk (Kd.R_below (by (with_reducible repeat (first | apply Kd.R_alloc | apply Kd.R_drewN | apply Kd.R_drew)); exact HO275.out) hb); have n1_ := Aside0.mk (Kd.R_lower ho0 (below_size (by repeat (first | (with_reducible first | exact HB.out | apply below_alloc | apply pw_below_drewN | apply below_drew1) | exact HB.out)))); have n2_ := Aside0.mk (below_step (by repeat (first | (with_reducible first | exact HB.out | apply below_alloc | apply pw_below_drewN | apply below_drew1) | exact HB.out)) hb); clear HO275; clear HB; have HO275 := n0_; have HO278 := n1_; have HB := n2_; clear n0_ n1_ n2_; (try clear hb); (try clear hb2); (try clear hk); (try clear hi); (try clear ho0)) | ((with_reducible refine gate_callee (f := 26) rfl ?_); refine goesL_ (some 16) rfl rfl Try.func26 (by kernel_rfl) rfl #[.int .i64 t280] rfl (by (try simp only [List.map_toArray, List.map_cons, List.map_nil]); first | done | rfl | (simp only [List.length_drop, List.length_take]; rfl)) ?_; (with_reducible refine (thresherlaw8_num.calls t280 t281 _ A2.out).mono ?_); rintro e w' ⟨rfl, ⟨nd, rfl⟩⟩; refine ⟨_, rfl, ?_⟩))
   go_ret
   exact ⟨by first | rfl | (simp [errW_none, errW_some] <;> rfl) | (simp [*, errW_none, errW_some] <;> rfl), by repeat (first | (with_reducible first | exact HB.out | apply below_alloc | apply pw_below_drewN | apply below_drew1) | exact HB.out)⟩
 ·
  rw [if_neg c3] at H
  have c3b0 : (t281 == 0) = false := beq_eq_false_iff_ne.mpr c3
  have c3b1 : (t281 != 0) = true := bne_iff_ne.mpr c3
  obtain rfl := Option.some.inj H
  go_enter Try.func24, Try.ntmps24
  go_wp2_with (first | ((with_reducible refine gate_dst (N := 8) rfl ?_); (try (refine gate_guard (by rfl) ?_; dsimp only)); refine Kd.R_lit k34 _ 34 ?hg (N := 8) ?hd (xs := ([(⟨2, 0, ([] : List (S34))⟩ : S34), (⟨4, 0, ([] : List (S34))⟩ : S34), (⟨30, 0, ([] : List (S34))⟩ : S34)] : List (S34))) (inner := [.int .i64 2, .int .i64 0, .slice none 0 0, .int .i64 4, .int .i64 0, .slice none 0 0, .int .i64 30, .int .i64 0, .slice none 0 0]) (ok := fun _ => True) (okp := fun _ => True) ?hr ?hp (fun _ hk => hk) trivial (Below.refl _ _) (Nat.le_refl _) (by simp) ?_; (case hd => rfl); (case hg => rfl); (case hr => first | (go_simp; done) | (go_simp; rfl)); (case hp => exact (Reps.c3 (show Kd.M k34 _ _ _ (⟨2, 0, ([] : List (S34))⟩ : S34) [.int .i64 2, .int .i64 0, .slice none 0 0] from (k34_mkM _ _ _ (⟨2, 0, ([] : List (S34))⟩ : S34) (Kd.R_nil _ _ _ _ _))) (Reps.c3 (show Kd.M k34 _ _ _ (⟨4, 0, ([] : List (S34))⟩ : S34) [.int .i64 4, .int .i64 0, .slice none 0 0] from (k34_mkM _ _ _ (⟨4, 0, ([] : List (S34))⟩ : S34) (Kd.R_nil _ _ _ _ _))) (Reps.c3 (show Kd.M k34 _ _ _ (⟨30, 0, ([] : List (S34))⟩ : S34) [.int .i64 30, .int .i64 0, .slice none 0 0] from (k34_mkM _ _ _ (⟨30, 0, ([] : List (S34))⟩ : S34) (Kd.R_nil _ _ _ _ _))) (Reps.none _ _))))); intro v274 w21 ho22 hb hg_ hnew_; clear hg_ hnew_; (first | rw [← Ny273.out] at ho22 | (simp only [Int.reduceToNat] at ho22; rw [← Ny273.out] at ho22)); have n0_ := Aside0.mk (Kd.R_lower ho22 (below_size (by repeat (first | (with_reducible first | exact HB.out | apply below_alloc | apply pw_below_drewN | apply below_drew1) | exact HB.out)))); have n1_ := Aside0.mk (below_step (by repeat (first | (with_reducible first | exact HB.out | apply below_alloc | apply pw_below_drewN | apply below_drew1) | exact HB.out)) hb); clear HB; have HO275 := n0_; have HB := n1_; clear n0_ n1_; clear hb ho22; obtain ⟨Ao23, co23, eo23⟩ := Kd.R_slice HO275.out; subst eo23) | ((with_reducible refine gate_callee (f := 25) rfl ?_); refine goesL_ (some 11) rfl rfl Try.func25 (by kernel_rfl) rfl #[.slice Ao23 y273.length co23, .agg #[.int .i64 1, .string (⟨#[120]⟩ : ByteArray), .int .i64 2], .int .i64 5] rfl (by (try simp only [List.map_toArray, List.map_cons, List.map_nil]); first | done | rfl | (simp only [List.length_drop, List.length_take]; rfl)) ?_; (with_reducible refine (eval_Run.calls k _ _ y273 1 (⟨#[120]⟩ : ByteArray) 2 5 t276 t279 t280 _ ?side1 ?side2 A1.out).mono ?_); (case side1 => repeat (first | exact (Kd.R_reads' HO275.out).2.2 | (with_reducible refine Kd.C_alloc ?_ _) | (with_reducible refine Kd.C_drewN ?_ _) | (with_reducible refine Kd.C_drew ?_))); (case side2 => exact (Kd.R_reads' HO275.out).2.1); rintro e w24 ⟨v277, rfl, ho0, hb⟩; refine ⟨_, rfl, ?_⟩; have n0_ := Aside0.mk (Kd.R_below (by (with_reducible repeat (first | apply Kd.R_alloc | apply Kd.R_drewN | apply Kd.R_drew)); exact HO275.out) hb); have n1_ := Aside0.mk (Kd.R_lower ho0 (below_size (by repeat (first | (with_reducible first | exact HB.out | apply below_alloc | apply pw_below_drewN | apply below_drew1) | exact HB.out)))); have n2_ := Aside0.mk (below_step (by repeat (first | (with_reducible first | exact HB.out | apply below_alloc | apply pw_below_drewN | apply below_drew1) | exact HB.out)) hb); clear HO275; clear HB; have HO275 := n0_; have HO278 := n1_; have HB := n2_; clear n0_ n1_ n2_; (try clear hb); (try clear hb2); (try clear hk); (try clear hi); (try clear ho0)) | ((with_reducible refine gate_callee (f := 26) rfl ?_); refine goesL_ (some 16) rfl rfl Try.func26 (by kernel_rfl) rfl #[.int .i64 t280] rfl (by (try simp only [List.map_toArray, List.map_cons, List.map_nil]); first | done | rfl | (simp only [List.length_drop, List.length_take]; rfl)) ?_; (with_reducible refine (thresherlaw8_num.calls t280 t281 _ A2.out).mono ?_); rintro e w' ⟨rfl, ⟨nd, rfl⟩⟩; refine ⟨_, rfl, ?_⟩))
  go_ret
  exact ⟨by first | rfl | (simp [errW_none, errW_some] <;> rfl) | (simp [*, errW_none, errW_some] <;> rfl), by repeat (first | (with_reducible first | exact HB.out | apply below_alloc | apply pw_below_drewN | apply below_drew1) | exact HB.out)⟩

end Go.Proofs.Ytchgjkfnmifgkaa.QE
