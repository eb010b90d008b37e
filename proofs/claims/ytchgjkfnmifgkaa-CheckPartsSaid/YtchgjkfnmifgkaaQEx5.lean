-- Printed for this claim by a turned copy of the kit's print (wip/patch_print.py): a text of this session.
import Derived.Test.YtchgjkfnmifgkaaQEx0
import Derived.Test.YtchgjkfnmifgkaaQEx2
import Derived.Test.YtchgjkfnmifgkaaQEx3
import Derived.Test.YtchgjkfnmifgkaaQEx4
import Derived.Test.YtchgjkfnmifgkaaHNeed
namespace Go.Proofs.Ytchgjkfnmifgkaa.QE
open Go.RowKit Go.Proofs.YtchgjkfnmifgkaaW.PrintWords Go.Proofs.YtchgjkfnmifgkaaW.PrintLast Go.Proofs.YtchgjkfnmifgkaaW.PrintMore
attribute [local go_sem] max2_int min2_int max_two min_two max_three min_three max_four min_four   -- for this text's walks alone
set_option linter.unusedVariables false
set_option linter.unusedSimpArgs false

/-! ### thresherlaw7_CheckParts: function 3 -/
mutual
def thresherlaw7_CheckParts.l0 : Nat → Bool → Int → List ByteArray → List (S34) → Option (Bool)
  | 0, _, _, _, _ => none
  | k + 1, x4, x5, x136000, x136001 => if x5 ≤ (x136001.length : Int) then (if x5 < 40 then (thresherlaw7_CheckParts.j1 k x4 x5 x4 x136000 x136001) else (thresherlaw7_CheckParts.j1 k x4 x5 false x136000 x136001)) else (thresherlaw7_CheckParts.j1 k x4 x5 false x136000 x136001)
def thresherlaw7_CheckParts.j1 : Nat → Bool → Int → Bool → List ByteArray → List (S34) → Option (Bool)
  | 0, _, _, _, _, _ => none
  | k + 1, x4, x5, x39, x136000, x136001 => if x39 = true then (if 0 ≤ x5 then (if x5 ≤ (x136001.length : Int) then ((check_Need.f k (x136001.take (x5 : Int).toNat)).bind fun bt143 => ((check_Need.f k (x136001.drop (x5 : Int).toNat)).bind fun bt150 => ((thresherlaw7_num.f bt143.2.2).bind fun t153 => (if t153 = 0 then ((thresherlaw7_num.f bt150.2.2).bind fun t154 => (thresherlaw7_CheckParts.j2 k x4 x5 bt143.1 bt143.2.1 bt150.1 bt150.2.1 (t154 != 0) x136000 x136001)) else (thresherlaw7_CheckParts.j2 k x4 x5 bt143.1 bt143.2.1 bt150.1 bt150.2.1 true x136000 x136001))))) else (none)) else (none)) else (thresherlaw7_CheckParts.l1 k (([(([(⟨5, 0, ([] : List (S34))⟩ : S34)] : List (S34))), (([(⟨4, 0, ([] : List (S34))⟩ : S34), (⟨28, 0, (([(⟨4, 0, ([] : List (S34))⟩ : S34)] : List (S34)))⟩ : S34)] : List (S34))), (([(⟨4, 0, ([] : List (S34))⟩ : S34), (⟨4, 0, ([] : List (S34))⟩ : S34), (⟨28, 0, (([(⟨27, 0, ([] : List (S34))⟩ : S34), (⟨4, 0, ([] : List (S34))⟩ : S34)] : List (S34)))⟩ : S34)] : List (S34))), (([(⟨26, 0, ([] : List (S34))⟩ : S34)] : List (S34))), (([(⟨4, 0, ([] : List (S34))⟩ : S34), (⟨30, 0, ([] : List (S34))⟩ : S34)] : List (S34)))] : List (List (S34)))) 0)
def thresherlaw7_CheckParts.j2 : Nat → Bool → Int → Int → Int → Int → Int → Bool → List ByteArray → List (S34) → Option (Bool)
  | 0, _, _, _, _, _, _, _, _, _ => none
  | k + 1, x4, x5, x6, x7, x9, x10, x67, x136000, x136001 => if x67 = true then (thresherlaw7_CheckParts.l0 k x4 (wrap64 (x5 + 1)) x136000 x136001) else ((check_Need.f k x136001).bind fun bt155 => (if (wrap64 (x6 + x10)) > 16 then ((thresherlaw7_num.f bt155.2.2).bind fun t158 => (if t158 = 9 then (thresherlaw7_CheckParts.l0 k x4 (wrap64 (x5 + 1)) x136000 x136001) else (some false))) else ((thresherlaw7_num.f bt155.2.2).bind fun t159 => (if t159 = 0 then (if bt155.1 = (wrap64 (x6 + x9)) then (if bt155.2.1 = (mx x7 (wrap64 (x6 + x10))) then (if x6 < 0 then (some false) else (if x7 < x6 then (some false) else (thresherlaw7_CheckParts.l0 k x4 (wrap64 (x5 + 1)) x136000 x136001))) else (some false)) else (some false)) else (some false)))))
def thresherlaw7_CheckParts.l1 : Nat → List (List (S34)) → Int → Option (Bool)
  | 0, _, _ => none
  | k + 1, x15, x16 => if x16 < (x15.length : Int) then (if 0 ≤ x16 then ((check_Need.f k (rd_L3 x15 x16)).bind fun bt187 => ((thresherlaw7_num.f bt187.2.2).bind fun t190 => (if t190 = 9 then (thresherlaw7_CheckParts.l1 k x15 (wrap64 (x16 + 1))) else (some false)))) else (none)) else ((thresherlaw0_Within.f 3 2).bind fun t184 => (if t184 = 1 then ((thresherlaw7_wakes.f k).bind fun t185 => (some t185)) else (some false)))
end
def thresherlaw7_CheckParts.f (k : Nat) (l0_0 : List ByteArray) (l0_1 : List (S34)) : Option (Bool) := (thresherref6_Ops.f k l0_1).bind fun bt136 => ((thresherlaw6_Heavy.f k l0_0 l0_1).bind fun t138 => (if t138 = true then (some true) else (thresherlaw7_CheckParts.l0 k bt136.2 0 l0_0 l0_1)))
theorem thresherlaw7_CheckParts.mono_l : ∀ k, (∀ y0 y1 y2 y3, LeO (thresherlaw7_CheckParts.l0 k y0 y1 y2 y3) (thresherlaw7_CheckParts.l0 (k + 1) y0 y1 y2 y3)) ∧ (∀ y0 y1 y2 y3 y4, LeO (thresherlaw7_CheckParts.j1 k y0 y1 y2 y3 y4) (thresherlaw7_CheckParts.j1 (k + 1) y0 y1 y2 y3 y4)) ∧ (∀ y0 y1 y2 y3 y4 y5 y6 y7 y8, LeO (thresherlaw7_CheckParts.j2 k y0 y1 y2 y3 y4 y5 y6 y7 y8) (thresherlaw7_CheckParts.j2 (k + 1) y0 y1 y2 y3 y4 y5 y6 y7 y8)) ∧ (∀ y0 y1, LeO (thresherlaw7_CheckParts.l1 k y0 y1) (thresherlaw7_CheckParts.l1 (k + 1) y0 y1))
  | 0 => ⟨fun _ _ _ _ r h => by simp [thresherlaw7_CheckParts.l0] at h, fun _ _ _ _ _ r h => by simp [thresherlaw7_CheckParts.j1] at h, fun _ _ _ _ _ _ _ _ _ r h => by simp [thresherlaw7_CheckParts.j2] at h, fun _ _ r h => by simp [thresherlaw7_CheckParts.l1] at h⟩
  | k + 1 => by
    obtain ⟨ih0, ih1, ih2, ih3⟩ := thresherlaw7_CheckParts.mono_l k
    refine ⟨?_, ?_, ?_, ?_⟩
    · intro y0 y1 y2 y3
      unfold thresherlaw7_CheckParts.l0
      repeat' first
      | (with_reducible exact ih0 _ _ _ _)
      | (with_reducible exact ih1 _ _ _ _ _)
      | (with_reducible exact ih2 _ _ _ _ _ _ _ _ _)
      | (with_reducible exact ih3 _ _)
      | (with_reducible exact check_Need.mono _ _)
      | (with_reducible exact thresherlaw6_Heavy.mono _ _ _)
      | (with_reducible exact thresherlaw7_wakes.mono _)
      | (with_reducible exact thresherref6_Ops.mono _ _)
      | (with_reducible exact LeO.refl _)
      | (with_reducible exact LeO.none _)
      | (with_reducible refine LeO.ite ?_ ?_)
      | (with_reducible refine LeO.bind ?_ (fun _ => ?_))
      | exact ih0 _ _ _ _
      | exact ih1 _ _ _ _ _
      | exact ih2 _ _ _ _ _ _ _ _ _
      | exact ih3 _ _
      | exact check_Need.mono _ _
      | exact thresherlaw6_Heavy.mono _ _ _
      | exact thresherlaw7_wakes.mono _
      | exact thresherref6_Ops.mono _ _
      | exact LeO.none _
      | refine LeO.ite ?_ ?_
      | refine LeO.bind ?_ (fun _ => ?_)
    · intro y0 y1 y2 y3 y4
      unfold thresherlaw7_CheckParts.j1
      repeat' first
      | (with_reducible exact ih0 _ _ _ _)
      | (with_reducible exact ih1 _ _ _ _ _)
      | (with_reducible exact ih2 _ _ _ _ _ _ _ _ _)
      | (with_reducible exact ih3 _ _)
      | (with_reducible exact check_Need.mono _ _)
      | (with_reducible exact thresherlaw6_Heavy.mono _ _ _)
      | (with_reducible exact thresherlaw7_wakes.mono _)
      | (with_reducible exact thresherref6_Ops.mono _ _)
      | (with_reducible exact LeO.refl _)
      | (with_reducible exact LeO.none _)
      | (with_reducible refine LeO.ite ?_ ?_)
      | (with_reducible refine LeO.bind ?_ (fun _ => ?_))
      | exact ih0 _ _ _ _
      | exact ih1 _ _ _ _ _
      | exact ih2 _ _ _ _ _ _ _ _ _
      | exact ih3 _ _
      | exact check_Need.mono _ _
      | exact thresherlaw6_Heavy.mono _ _ _
      | exact thresherlaw7_wakes.mono _
      | exact thresherref6_Ops.mono _ _
      | exact LeO.none _
      | refine LeO.ite ?_ ?_
      | refine LeO.bind ?_ (fun _ => ?_)
    · intro y0 y1 y2 y3 y4 y5 y6 y7 y8
      unfold thresherlaw7_CheckParts.j2
      repeat' first
      | (with_reducible exact ih0 _ _ _ _)
      | (with_reducible exact ih1 _ _ _ _ _)
      | (with_reducible exact ih2 _ _ _ _ _ _ _ _ _)
      | (with_reducible exact ih3 _ _)
      | (with_reducible exact check_Need.mono _ _)
      | (with_reducible exact thresherlaw6_Heavy.mono _ _ _)
      | (with_reducible exact thresherlaw7_wakes.mono _)
      | (with_reducible exact thresherref6_Ops.mono _ _)
      | (with_reducible exact LeO.refl _)
      | (with_reducible exact LeO.none _)
      | (with_reducible refine LeO.ite ?_ ?_)
      | (with_reducible refine LeO.bind ?_ (fun _ => ?_))
      | exact ih0 _ _ _ _
      | exact ih1 _ _ _ _ _
      | exact ih2 _ _ _ _ _ _ _ _ _
      | exact ih3 _ _
      | exact check_Need.mono _ _
      | exact thresherlaw6_Heavy.mono _ _ _
      | exact thresherlaw7_wakes.mono _
      | exact thresherref6_Ops.mono _ _
      | exact LeO.none _
      | refine LeO.ite ?_ ?_
      | refine LeO.bind ?_ (fun _ => ?_)
    · intro y0 y1
      unfold thresherlaw7_CheckParts.l1
      repeat' first
      | (with_reducible exact ih0 _ _ _ _)
      | (with_reducible exact ih1 _ _ _ _ _)
      | (with_reducible exact ih2 _ _ _ _ _ _ _ _ _)
      | (with_reducible exact ih3 _ _)
      | (with_reducible exact check_Need.mono _ _)
      | (with_reducible exact thresherlaw6_Heavy.mono _ _ _)
      | (with_reducible exact thresherlaw7_wakes.mono _)
      | (with_reducible exact thresherref6_Ops.mono _ _)
      | (with_reducible exact LeO.refl _)
      | (with_reducible exact LeO.none _)
      | (with_reducible refine LeO.ite ?_ ?_)
      | (with_reducible refine LeO.bind ?_ (fun _ => ?_))
      | exact ih0 _ _ _ _
      | exact ih1 _ _ _ _ _
      | exact ih2 _ _ _ _ _ _ _ _ _
      | exact ih3 _ _
      | exact check_Need.mono _ _
      | exact thresherlaw6_Heavy.mono _ _ _
      | exact thresherlaw7_wakes.mono _
      | exact thresherref6_Ops.mono _ _
      | exact LeO.none _
      | refine LeO.ite ?_ ?_
      | refine LeO.bind ?_ (fun _ => ?_)
theorem thresherlaw7_CheckParts.mono : ∀ a0 a1 k, LeO (thresherlaw7_CheckParts.f k a0 a1) (thresherlaw7_CheckParts.f (k + 1) a0 a1) := by
  intro a0 a1 k
  obtain ⟨ih0, ih1, ih2, ih3⟩ := thresherlaw7_CheckParts.mono_l k
  unfold thresherlaw7_CheckParts.f
  repeat' first
      | (with_reducible exact ih0 _ _ _ _)
      | (with_reducible exact ih1 _ _ _ _ _)
      | (with_reducible exact ih2 _ _ _ _ _ _ _ _ _)
      | (with_reducible exact ih3 _ _)
      | (with_reducible exact check_Need.mono _ _)
      | (with_reducible exact thresherlaw6_Heavy.mono _ _ _)
      | (with_reducible exact thresherlaw7_wakes.mono _)
      | (with_reducible exact thresherref6_Ops.mono _ _)
      | (with_reducible exact LeO.refl _)
      | (with_reducible exact LeO.none _)
      | (with_reducible refine LeO.ite ?_ ?_)
      | (with_reducible refine LeO.bind ?_ (fun _ => ?_))
      | exact ih0 _ _ _ _
      | exact ih1 _ _ _ _ _
      | exact ih2 _ _ _ _ _ _ _ _ _
      | exact ih3 _ _
      | exact check_Need.mono _ _
      | exact thresherlaw6_Heavy.mono _ _ _
      | exact thresherlaw7_wakes.mono _
      | exact thresherref6_Ops.mono _ _
      | exact LeO.none _
      | refine LeO.ite ?_ ?_
      | refine LeO.bind ?_ (fun _ => ?_)
set_option maxHeartbeats 8000000 in
set_option maxRecDepth 100000 in
theorem thresherlaw7_CheckParts.calls (k : Nat) (A0_0 : Option Addr) (c0_0 : Nat) (l0_0 : List ByteArray) (A0_1 : Option Addr) (c0_1 : Nat) (l0_1 : List (S34)) (r : Bool) (w : World) (hr0_0 : Kd.C Kd.string w A0_0 l0_0.length l0_0) (hc0_0 : l0_0.length ≤ c0_0) (hr0_1 : Kd.C k34 w A0_1 l0_1.length l0_1) (hc0_1 : l0_1.length ≤ c0_1) (h : thresherlaw7_CheckParts.f k l0_0 l0_1 = some r) :
    Calls Try.prog 3 #[.agg #[.slice A0_0 l0_0.length c0_0, .slice A0_1 l0_1.length c0_1]] w fun e w' => e = .returned (.bool r) ∧ Below w.heap.size w w' := by
  have hu25 := Try.underlying25
  have hu34 := Try.underlying34
  have HR0_0 := Aside0.mk hr0_0
  have HC0_0 := Aside0.mk hc0_0
  clear hr0_0 hc0_0
  have HR0_1 := Aside0.mk hr0_1
  have HC0_1 := Aside0.mk hc0_1
  clear hr0_1 hc0_1
  have HB := Aside0.mk (Below.refl w.heap.size w)
  have H : ((thresherref6_Ops.f k l0_1).bind fun bt136 => ((thresherlaw6_Heavy.f k l0_0 l0_1).bind fun t138 => (if t138 = true then (some true) else (thresherlaw7_CheckParts.l0 k bt136.2 0 l0_0 l0_1)))) = some r := h
  clear h
  replace H := Option.bind_eq_some_iff.mp H
  obtain ⟨⟨t136, t137⟩, A20, H⟩ := H
  replace H : ((thresherlaw6_Heavy.f k l0_0 l0_1).bind fun t138 => (if t138 = true then (some true) else (thresherlaw7_CheckParts.l0 k t137 0 l0_0 l0_1))) = some r := H
  have A2 := Aside0.mk A20
  clear A20
  replace H := Option.bind_eq_some_iff.mp H
  obtain ⟨t138, A30, H⟩ := H
  replace H : (if t138 = true then (some true) else (thresherlaw7_CheckParts.l0 k t137 0 l0_0 l0_1)) = some r := H
  have A3 := Aside0.mk A30
  clear A30
  by_cases c4 : t138 = true
  · subst c4
    have H1 : (some true) = some r := by rw [if_pos rfl] at H; exact H
    clear H
    have H := H1
    clear H1
    obtain rfl := Option.some.inj H
    go_enter Try.func3, Try.ntmps3
    go_wp2_with (first | ((with_reducible refine gate_dst (N := 1) rfl ?_); (try (refine gate_guard (by rfl) ?_; dsimp only)); refine box_event ?hg (N := 1) ?hd (cs := #[.slice A0_0 l0_0.length c0_0, .slice A0_1 l0_1.length c0_1]) (t := 25) ?hr ?_; (case hd => rfl); (case hg => rfl); (case hr => first | (go_simp; done) | (go_simp; rfl)); intro gb135 hg w5 hbox hb; have n0_ := Aside0.mk (below_step (by repeat (first | (with_reducible first | exact HB.out | apply below_alloc | apply pw_below_drewN | apply below_drew1) | exact HB.out)) hb); have n1_ := Aside0.mk (hbox); have n2_ := Aside0.mk ((by rw [hg]; exact (below_size (by repeat (first | (with_reducible first | exact HB.out | apply below_alloc | apply pw_below_drewN | apply below_drew1) | exact HB.out))) : w.heap.size ≤ gb135)); have n3_ := Aside0.mk ((by rw [hg]; exact (below_size (by repeat (first | (with_reducible first | exact HB.out | apply below_alloc | apply pw_below_drewN | apply below_drew1) | exact HB.out))) : w.heap.size ≤ gb135)); clear HB; have HB := n0_; have BK135 := n1_; have GW135 := n2_; have GE135 := n3_; clear n0_ n1_ n2_ n3_; clear hb hbox hg; have hcz6_0 : w5.cell? ⟨gb135, 0, none⟩ = some (.slice A0_0 l0_0.length c0_0) := (blk_cell BK135.out 0).trans rfl; have hcz6_1 : w5.cell? ⟨gb135, 1, none⟩ = some (.slice A0_1 l0_1.length c0_1) := (blk_cell BK135.out 1).trans rfl; have hfz6_0 := blk_frozen BK135.out 0; have hfz6_1 := blk_frozen BK135.out 1) | ((with_reducible refine gate_callee (f := 14) rfl ?_); refine goesL_ (some 23) rfl rfl Try.func14 (by kernel_rfl) rfl #[.slice A0_1 l0_1.length c0_1] rfl (by (try simp only [List.map_toArray, List.map_cons, List.map_nil]); first | done | rfl | (simp only [List.length_drop, List.length_take]; rfl)) ?_; (with_reducible refine (thresherref6_Ops.calls k _ _ l0_1 t136 t137 _ ?side1 ?side2 A2.out).mono ?_); (case side1 => repeat (first | exact (Kd.C_below HR0_1.out HB.out) | (with_reducible refine Kd.C_alloc ?_ _) | (with_reducible refine Kd.C_drewN ?_ _) | (with_reducible refine Kd.C_drew ?_))); (case side2 => exact HC0_1.out); rintro e w7 ⟨rfl, hb⟩; refine ⟨_, rfl, ?_⟩; have n0_ := Aside0.mk (blk_below (g := gb135) (o := .cells #[.slice A0_0 l0_0.length c0_0, .slice A0_1 l0_1.length c0_1] 25 (0, 0)) (by (with_reducible repeat (first | refine blk_drewN ?_ _ | refine blk_drew ?_ | refine blk_alloc ?_ _)); exact BK135.out) hb); have n1_ := Aside0.mk (below_step (by repeat (first | (with_reducible first | exact HB.out | apply below_alloc | apply pw_below_drewN | apply below_drew1 | refine below_set ?_ GE135.out) | exact HB.out)) hb); clear BK135; clear HB; have BK135 := n0_; have HB := n1_; clear n0_ n1_; (try clear hb); (try clear hb2); (try clear hk); (try clear hi); have hcz8_0 : w7.cell? ⟨gb135, 0, none⟩ = some (.slice A0_0 l0_0.length c0_0) := (blk_cell BK135.out 0).trans rfl; have hcz8_1 : w7.cell? ⟨gb135, 1, none⟩ = some (.slice A0_1 l0_1.length c0_1) := (blk_cell BK135.out 1).trans rfl; have hfz8_0 := blk_frozen BK135.out 0; have hfz8_1 := blk_frozen BK135.out 1) | ((with_reducible refine gate_callee (f := 15) rfl ?_); refine goesL_ (some 27) rfl rfl Try.func15 (by kernel_rfl) rfl #[.agg #[.slice A0_0 l0_0.length c0_0, .slice A0_1 l0_1.length c0_1]] rfl (by (try simp only [List.map_toArray, List.map_cons, List.map_nil]); first | done | rfl | (simp only [List.length_drop, List.length_take]; rfl)) ?_; (with_reducible refine (thresherlaw6_Heavy.calls k _ _ l0_0 _ _ l0_1 true _ ?side1 ?side2 ?side3 ?side4 A3.out).mono ?_); (case side1 => repeat (first | exact (Kd.C_below HR0_0.out HB.out) | (with_reducible refine Kd.C_alloc ?_ _) | (with_reducible refine Kd.C_drewN ?_ _) | (with_reducible refine Kd.C_drew ?_))); (case side2 => exact HC0_0.out); (case side3 => repeat (first | exact (Kd.C_below HR0_1.out HB.out) | (with_reducible refine Kd.C_alloc ?_ _) | (with_reducible refine Kd.C_drewN ?_ _) | (with_reducible refine Kd.C_drew ?_))); (case side4 => exact HC0_1.out); rintro e w9 ⟨rfl, hb⟩; refine ⟨_, rfl, ?_⟩; have n0_ := Aside0.mk (blk_below (g := gb135) (o := .cells #[.slice A0_0 l0_0.length c0_0, .slice A0_1 l0_1.length c0_1] 25 (0, 0)) (by (with_reducible repeat (first | refine blk_drewN ?_ _ | refine blk_drew ?_ | refine blk_alloc ?_ _)); exact BK135.out) hb); have n1_ := Aside0.mk (below_step (by repeat (first | (with_reducible first | exact HB.out | apply below_alloc | apply pw_below_drewN | apply below_drew1 | refine below_set ?_ GE135.out) | exact HB.out)) hb); clear BK135; clear HB; have BK135 := n0_; have HB := n1_; clear n0_ n1_; (try clear hb); (try clear hb2); (try clear hk); (try clear hi)))
    go_ret
    exact ⟨by first | rfl | (simp [errW_none, errW_some] <;> rfl) | (simp [*, errW_none, errW_some] <;> rfl), by repeat (first | (with_reducible first | exact HB.out | apply below_alloc | apply pw_below_drewN | apply below_drew1 | refine below_set ?_ GE135.out) | exact HB.out)⟩
  · replace c4 := Bool.eq_false_iff.mpr c4
    subst c4
    have H1 : (thresherlaw7_CheckParts.l0 k t137 0 l0_0 l0_1) = some r := by rw [if_neg (show ¬ (false = true) by decide)] at H; exact H
    clear H
    have H := H1
    clear H1
    have H' := Aside0.mk H
    clear H
    go_enter Try.func3, Try.ntmps3
    go_wp2_with (first | ((with_reducible refine gate_dst (N := 1) rfl ?_); (try (refine gate_guard (by rfl) ?_; dsimp only)); refine box_event ?hg (N := 1) ?hd (cs := #[.slice A0_0 l0_0.length c0_0, .slice A0_1 l0_1.length c0_1]) (t := 25) ?hr ?_; (case hd => rfl); (case hg => rfl); (case hr => first | (go_simp; done) | (go_simp; rfl)); intro gb135 hg w10 hbox hb; have n0_ := Aside0.mk (below_step (by repeat (first | (with_reducible first | exact HB.out | apply below_alloc | apply pw_below_drewN | apply below_drew1) | exact HB.out)) hb); have n1_ := Aside0.mk (hbox); have n2_ := Aside0.mk ((by rw [hg]; exact (below_size (by repeat (first | (with_reducible first | exact HB.out | apply below_alloc | apply pw_below_drewN | apply below_drew1) | exact HB.out))) : w.heap.size ≤ gb135)); have n3_ := Aside0.mk ((by rw [hg]; exact (below_size (by repeat (first | (with_reducible first | exact HB.out | apply below_alloc | apply pw_below_drewN | apply below_drew1) | exact HB.out))) : w.heap.size ≤ gb135)); clear HB; have HB := n0_; have BK135 := n1_; have GW135 := n2_; have GE135 := n3_; clear n0_ n1_ n2_ n3_; clear hb hbox hg; have hcz11_0 : w10.cell? ⟨gb135, 0, none⟩ = some (.slice A0_0 l0_0.length c0_0) := (blk_cell BK135.out 0).trans rfl; have hcz11_1 : w10.cell? ⟨gb135, 1, none⟩ = some (.slice A0_1 l0_1.length c0_1) := (blk_cell BK135.out 1).trans rfl; have hfz11_0 := blk_frozen BK135.out 0; have hfz11_1 := blk_frozen BK135.out 1) | ((with_reducible refine gate_callee (f := 14) rfl ?_); refine goesL_ (some 23) rfl rfl Try.func14 (by kernel_rfl) rfl #[.slice A0_1 l0_1.length c0_1] rfl (by (try simp only [List.map_toArray, List.map_cons, List.map_nil]); first | done | rfl | (simp only [List.length_drop, List.length_take]; rfl)) ?_; (with_reducible refine (thresherref6_Ops.calls k _ _ l0_1 t136 t137 _ ?side1 ?side2 A2.out).mono ?_); (case side1 => repeat (first | exact (Kd.C_below HR0_1.out HB.out) | (with_reducible refine Kd.C_alloc ?_ _) | (with_reducible refine Kd.C_drewN ?_ _) | (with_reducible refine Kd.C_drew ?_))); (case side2 => exact HC0_1.out); rintro e w12 ⟨rfl, hb⟩; refine ⟨_, rfl, ?_⟩; have n0_ := Aside0.mk (blk_below (g := gb135) (o := .cells #[.slice A0_0 l0_0.length c0_0, .slice A0_1 l0_1.length c0_1] 25 (0, 0)) (by (with_reducible repeat (first | refine blk_drewN ?_ _ | refine blk_drew ?_ | refine blk_alloc ?_ _)); exact BK135.out) hb); have n1_ := Aside0.mk (below_step (by repeat (first | (with_reducible first | exact HB.out | apply below_alloc | apply pw_below_drewN | apply below_drew1 | refine below_set ?_ GE135.out) | exact HB.out)) hb); clear BK135; clear HB; have BK135 := n0_; have HB := n1_; clear n0_ n1_; (try clear hb); (try clear hb2); (try clear hk); (try clear hi); have hcz13_0 : w12.cell? ⟨gb135, 0, none⟩ = some (.slice A0_0 l0_0.length c0_0) := (blk_cell BK135.out 0).trans rfl; have hcz13_1 : w12.cell? ⟨gb135, 1, none⟩ = some (.slice A0_1 l0_1.length c0_1) := (blk_cell BK135.out 1).trans rfl; have hfz13_0 := blk_frozen BK135.out 0; have hfz13_1 := blk_frozen BK135.out 1) | ((with_reducible refine gate_callee (f := 15) rfl ?_); refine goesL_ (some 27) rfl rfl Try.func15 (by kernel_rfl) rfl #[.agg #[.slice A0_0 l0_0.length c0_0, .slice A0_1 l0_1.length c0_1]] rfl (by (try simp only [List.map_toArray, List.map_cons, List.map_nil]); first | done | rfl | (simp only [List.length_drop, List.length_take]; rfl)) ?_; (with_reducible refine (thresherlaw6_Heavy.calls k _ _ l0_0 _ _ l0_1 false _ ?side1 ?side2 ?side3 ?side4 A3.out).mono ?_); (case side1 => repeat (first | exact (Kd.C_below HR0_0.out HB.out) | (with_reducible refine Kd.C_alloc ?_ _) | (with_reducible refine Kd.C_drewN ?_ _) | (with_reducible refine Kd.C_drew ?_))); (case side2 => exact HC0_0.out); (case side3 => repeat (first | exact (Kd.C_below HR0_1.out HB.out) | (with_reducible refine Kd.C_alloc ?_ _) | (with_reducible refine Kd.C_drewN ?_ _) | (with_reducible refine Kd.C_drew ?_))); (case side4 => exact HC0_1.out); rintro e w14 ⟨rfl, hb⟩; refine ⟨_, rfl, ?_⟩; have n0_ := Aside0.mk (blk_below (g := gb135) (o := .cells #[.slice A0_0 l0_0.length c0_0, .slice A0_1 l0_1.length c0_1] 25 (0, 0)) (by (with_reducible repeat (first | refine blk_drewN ?_ _ | refine blk_drew ?_ | refine blk_alloc ?_ _)); exact BK135.out) hb); have n1_ := Aside0.mk (below_step (by repeat (first | (with_reducible first | exact HB.out | apply below_alloc | apply pw_below_drewN | apply below_drew1 | refine below_set ?_ GE135.out) | exact HB.out)) hb); clear BK135; clear HB; have BK135 := n0_; have HB := n1_; clear n0_ n1_; (try clear hb); (try clear hb2); (try clear hk); (try clear hi)))
    go_loopg [5] k (fun kq v5 w' => ∃ (x5_1 : Int), v5 = .int .i64 x5_1 ∧ Aside0 (thresherlaw7_CheckParts.l0 kq t137 x5_1 l0_0 l0_1 = some r) ∧ Aside0 (kq ≤ k) ∧ Aside0 (w'.heap[gb135]? = some (.cells #[(.slice A0_0 l0_0.length c0_0), (.slice A0_1 l0_1.length c0_1)] 25 (0, 0))) ∧ Aside0 (Below w.heap.size w w'))
    case atStart => exact ⟨(0), (by first | rfl | (simp; done) | (simp [*]; done)), H', ⟨Nat.le_refl _⟩, ⟨by (with_reducible repeat (first | refine blk_drewN ?_ _ | refine blk_drew ?_ | refine blk_alloc ?_ _)); exact BK135.out⟩, ⟨by repeat (first | (with_reducible first | exact HB.out | apply below_alloc | apply pw_below_drewN | apply below_drew1 | refine below_set ?_ GE135.out) | exact HB.out)⟩⟩
    case round =>
      clear H'
      try clear c1
      try clear p2
      try clear c3
      try clear c4
      try clear c14
      try clear hcz11_0
      try clear hcz11_1
      try clear hcz13_0
      try clear hcz13_1
      try clear hcz6_0
      try clear hcz6_1
      try clear hcz8_0
      try clear hcz8_1
      try clear hfz11_0
      try clear hfz11_1
      try clear hfz13_0
      try clear hfz13_1
      try clear hfz6_0
      try clear hfz6_1
      try clear hfz8_0
      try clear hfz8_1
      obtain ⟨x5_1, rfl, HA, HK1, BK135, HB⟩ := hrel
      cases gk with
      | zero => exact absurd HA.out (by simp [thresherlaw7_CheckParts.l0])
      | succ k1 =>
        have H := HA.out
        clear HA
        simp only [thresherlaw7_CheckParts.l0] at H
        have HC15 := Aside0.mk H
        clear H
        go_upto_region 5 with (fail)
        go_cut [39] (fun v39 wc => ∃ (kq : Nat) (x39_14 : Bool), v39 = .bool x39_14 ∧ Aside0 (thresherlaw7_CheckParts.j1 kq t137 x5_1 x39_14 l0_0 l0_1 = some r) ∧ Aside0 (kq ≤ k1) ∧ Aside0 (wc.heap[gb135]? = some (.cells #[(.slice A0_0 l0_0.length c0_0), (.slice A0_1 l0_1.length c0_1)] 25 (0, 0))) ∧ Aside0 (Below w.heap.size w wc))
        case first =>
          have H := HC15.out
          clear HC15
          by_cases c16 : x5_1 ≤ (l0_1.length : Int)
          · rw [if_pos c16] at H
            have c16b0 : decide (x5_1 ≤ (l0_1.length : Int)) = true := decide_eq_true c16
            clear c16
            (first | rw [c16b0] | (simp only [i64_w, i32_w]; rw [c16b0]) | skip)
            by_cases c17 : x5_1 < 40
            · rw [if_pos c17] at H
              have c17b0 : decide (x5_1 < 40) = true := decide_eq_true c17
              clear c17
              have H' := Aside0.mk H
              clear H
              have hcz18_0 : wr.cell? ⟨gb135, 0, none⟩ = some (.slice A0_0 l0_0.length c0_0) := (blk_cell BK135.out 0).trans rfl
              have hcz18_1 : wr.cell? ⟨gb135, 1, none⟩ = some (.slice A0_1 l0_1.length c0_1) := (blk_cell BK135.out 1).trans rfl
              have hfz18_0 := blk_frozen BK135.out 0
              have hfz18_1 := blk_frozen BK135.out 1
              go_wp2
              go_meet
              case rel => exact ⟨_, (t137), (by first | rfl | (simp; done) | (simp [*]; done)), H', ⟨by have := HK1.out; first | omega | exact Nat.le_refl _⟩, ⟨by (with_reducible repeat (first | refine blk_drewN ?_ _ | refine blk_drew ?_ | refine blk_alloc ?_ _)); exact BK135.out⟩, ⟨by repeat (first | (with_reducible first | exact HB.out | apply below_alloc | apply pw_below_drewN | apply below_drew1 | refine below_set ?_ GE135.out) | exact HB.out)⟩⟩
            · rw [if_neg c17] at H
              have c17b0 : decide (x5_1 < 40) = false := decide_eq_false c17
              clear c17
              have H' := Aside0.mk H
              clear H
              have hcz19_0 : wr.cell? ⟨gb135, 0, none⟩ = some (.slice A0_0 l0_0.length c0_0) := (blk_cell BK135.out 0).trans rfl
              have hcz19_1 : wr.cell? ⟨gb135, 1, none⟩ = some (.slice A0_1 l0_1.length c0_1) := (blk_cell BK135.out 1).trans rfl
              have hfz19_0 := blk_frozen BK135.out 0
              have hfz19_1 := blk_frozen BK135.out 1
              go_wp2
              go_meet
              case rel => exact ⟨_, (false), (by first | rfl | (simp; done) | (simp [*]; done)), H', ⟨by have := HK1.out; first | omega | exact Nat.le_refl _⟩, ⟨by (with_reducible repeat (first | refine blk_drewN ?_ _ | refine blk_drew ?_ | refine blk_alloc ?_ _)); exact BK135.out⟩, ⟨by repeat (first | (with_reducible first | exact HB.out | apply below_alloc | apply pw_below_drewN | apply below_drew1 | refine below_set ?_ GE135.out) | exact HB.out)⟩⟩
          · rw [if_neg c16] at H
            have c16b0 : decide (x5_1 ≤ (l0_1.length : Int)) = false := decide_eq_false c16
            clear c16
            (first | rw [c16b0] | (simp only [i64_w, i32_w]; rw [c16b0]) | skip)
            have H' := Aside0.mk H
            clear H
            have hcz20_0 : wr.cell? ⟨gb135, 0, none⟩ = some (.slice A0_0 l0_0.length c0_0) := (blk_cell BK135.out 0).trans rfl
            have hcz20_1 : wr.cell? ⟨gb135, 1, none⟩ = some (.slice A0_1 l0_1.length c0_1) := (blk_cell BK135.out 1).trans rfl
            have hfz20_0 := blk_frozen BK135.out 0
            have hfz20_1 := blk_frozen BK135.out 1
            go_wp2
            go_meet
            case rel => exact ⟨_, (false), (by first | rfl | (simp; done) | (simp [*]; done)), H', ⟨by have := HK1.out; first | omega | exact Nat.le_refl _⟩, ⟨by (with_reducible repeat (first | refine blk_drewN ?_ _ | refine blk_drew ?_ | refine blk_alloc ?_ _)); exact BK135.out⟩, ⟨by repeat (first | (with_reducible first | exact HB.out | apply below_alloc | apply pw_below_drewN | apply below_drew1 | refine below_set ?_ GE135.out) | exact HB.out)⟩⟩
        case rest =>
          clear HC15
          try clear c1
          try clear p2
          try clear c3
          try clear c4
          try clear c14
          try clear c15
          try clear c16
          try clear c16b0
          try clear c17
          try clear c17b0
          try clear hcz11_0
          try clear hcz11_1
          try clear hcz13_0
          try clear hcz13_1
          try clear hcz18_0
          try clear hcz18_1
          try clear hcz19_0
          try clear hcz19_1
          try clear hcz20_0
          try clear hcz20_1
          try clear hcz6_0
          try clear hcz6_1
          try clear hcz8_0
          try clear hcz8_1
          try clear hfz11_0
          try clear hfz11_1
          try clear hfz13_0
          try clear hfz13_1
          try clear hfz18_0
          try clear hfz18_1
          try clear hfz19_0
          try clear hfz19_1
          try clear hfz20_0
          try clear hfz20_1
          try clear hfz6_0
          try clear hfz6_1
          try clear hfz8_0
          try clear hfz8_1
          try clear p2
          obtain ⟨kq, x39_14, rfl, HA, HJ14, BK135, HB⟩ := hcut
          cases kq with
          | zero => exact absurd HA.out (by simp [thresherlaw7_CheckParts.j1])
          | succ kj14 =>
            have H := HA.out
            clear HA
            simp only [thresherlaw7_CheckParts.j1] at H
            by_cases c21 : x39_14 = true
            · subst c21
              have H1 : (if 0 ≤ x5_1 then (if x5_1 ≤ (l0_1.length : Int) then ((check_Need.f kj14 (l0_1.take (x5_1 : Int).toNat)).bind fun bt143 => ((check_Need.f kj14 (l0_1.drop (x5_1 : Int).toNat)).bind fun bt150 => ((thresherlaw7_num.f bt143.2.2).bind fun t153 => (if t153 = 0 then ((thresherlaw7_num.f bt150.2.2).bind fun t154 => (thresherlaw7_CheckParts.j2 kj14 t137 x5_1 bt143.1 bt143.2.1 bt150.1 bt150.2.1 (t154 != 0) l0_0 l0_1)) else (thresherlaw7_CheckParts.j2 kj14 t137 x5_1 bt143.1 bt143.2.1 bt150.1 bt150.2.1 true l0_0 l0_1))))) else (none)) else (none)) = some r := by rw [if_pos rfl] at H; exact H
              clear H
              have H := H1
              clear H1
              by_cases c22 : 0 ≤ x5_1
              · rw [if_pos c22] at H
                have c22b0 := eq_true c22
                have c22b1 : decide (0 ≤ x5_1) = true := decide_eq_true c22
                clear c22
                by_cases c23 : x5_1 ≤ (l0_1.length : Int)
                · rw [if_pos c23] at H
                  have c23b0 := eq_true c23
                  have c23b1 : decide (x5_1 ≤ (l0_1.length : Int)) = true := decide_eq_true c23
                  clear c23
                  obtain ⟨y139, hy139⟩ : ∃ y_ : List (S34), y_ = (l0_1.take (x5_1 : Int).toNat) := ⟨_, rfl⟩
                  replace H : ((check_Need.f kj14 y139).bind fun bt143 => ((check_Need.f kj14 (l0_1.drop (x5_1 : Int).toNat)).bind fun bt150 => ((thresherlaw7_num.f bt143.2.2).bind fun t153 => (if t153 = 0 then ((thresherlaw7_num.f bt150.2.2).bind fun t154 => (thresherlaw7_CheckParts.j2 kj14 t137 x5_1 bt143.1 bt143.2.1 bt150.1 bt150.2.1 (t154 != 0) l0_0 l0_1)) else (thresherlaw7_CheckParts.j2 kj14 t137 x5_1 bt143.1 bt143.2.1 bt150.1 bt150.2.1 true l0_0 l0_1))))) = some r := by first | (rw [hy139]; with_reducible exact H) | (have H2_ := (Option.bind_some _ _).symm.trans H; rw [hy139]; with_reducible exact H2_) | (have H2_ := (Option.bind_some _ _).symm.trans H; with_reducible exact H2_) | with_reducible exact H | (rw [hy139]; exact H) | exact H
                  have Ny139 := Aside0.mk hy139
                  clear hy139
                  replace H := Option.bind_eq_some_iff.mp H
                  obtain ⟨⟨t143, t144, t145⟩, A240, H⟩ := H
                  replace H : ((check_Need.f kj14 (l0_1.drop (x5_1 : Int).toNat)).bind fun bt150 => ((thresherlaw7_num.f t145).bind fun t153 => (if t153 = 0 then ((thresherlaw7_num.f bt150.2.2).bind fun t154 => (thresherlaw7_CheckParts.j2 kj14 t137 x5_1 t143 t144 bt150.1 bt150.2.1 (t154 != 0) l0_0 l0_1)) else (thresherlaw7_CheckParts.j2 kj14 t137 x5_1 t143 t144 bt150.1 bt150.2.1 true l0_0 l0_1)))) = some r := H
                  have A24 := Aside0.mk A240
                  clear A240
                  have c25b0 := eq_true (of_decide_eq_true (by first | (with_reducible assumption) | assumption) : 0 ≤ x5_1)
                  have c26b0 := eq_true (of_decide_eq_true (by first | (with_reducible assumption) | assumption) : x5_1 ≤ (l0_1.length : Int))
                  obtain ⟨y146, hy146⟩ : ∃ y_ : List (S34), y_ = (l0_1.drop (x5_1 : Int).toNat) := ⟨_, rfl⟩
                  replace H : ((check_Need.f kj14 y146).bind fun bt150 => ((thresherlaw7_num.f t145).bind fun t153 => (if t153 = 0 then ((thresherlaw7_num.f bt150.2.2).bind fun t154 => (thresherlaw7_CheckParts.j2 kj14 t137 x5_1 t143 t144 bt150.1 bt150.2.1 (t154 != 0) l0_0 l0_1)) else (thresherlaw7_CheckParts.j2 kj14 t137 x5_1 t143 t144 bt150.1 bt150.2.1 true l0_0 l0_1)))) = some r := by first | (rw [hy146]; with_reducible exact H) | (have H2_ := (Option.bind_some _ _).symm.trans H; rw [hy146]; with_reducible exact H2_) | (have H2_ := (Option.bind_some _ _).symm.trans H; with_reducible exact H2_) | with_reducible exact H | (rw [hy146]; exact H) | exact H
                  have Ny146 := Aside0.mk hy146
                  clear hy146
                  replace H := Option.bind_eq_some_iff.mp H
                  obtain ⟨⟨t150, t151, t152⟩, A270, H⟩ := H
                  replace H : ((thresherlaw7_num.f t145).bind fun t153 => (if t153 = 0 then ((thresherlaw7_num.f t152).bind fun t154 => (thresherlaw7_CheckParts.j2 kj14 t137 x5_1 t143 t144 t150 t151 (t154 != 0) l0_0 l0_1)) else (thresherlaw7_CheckParts.j2 kj14 t137 x5_1 t143 t144 t150 t151 true l0_0 l0_1))) = some r := H
                  have A27 := Aside0.mk A270
                  clear A270
                  have HC28 := Aside0.mk H
                  clear H
                  have hcz29_0 : wc.cell? ⟨gb135, 0, none⟩ = some (.slice A0_0 l0_0.length c0_0) := (blk_cell BK135.out 0).trans rfl
                  have hcz29_1 : wc.cell? ⟨gb135, 1, none⟩ = some (.slice A0_1 l0_1.length c0_1) := (blk_cell BK135.out 1).trans rfl
                  have hfz29_0 := blk_frozen BK135.out 0
                  have hfz29_1 := blk_frozen BK135.out 1
                  have q30 : (x5_1 : Int) ≤ ((l0_1.length : Int) : Int) := of_decide_eq_true (by first | (with_reducible assumption) | assumption)
                  obtain ⟨i030, hi030, _, hsz30, _⟩ := info_parts info34
                  have hroom30 : l0_1.length ≤ c0_1 := HC0_1.out
                  have hC30 : Kd.C k34 _ A0_1 l0_1.length l0_1 := HR0_1.out
                  have hcut30 := cut_to (P := Try.prog) 23 34 .i64 Try.underlying23 hi030 A0_1 l0_1.length c0_1 x5_1 (of_decide_eq_true (by first | (with_reducible assumption) | assumption)) q30 hroom30
                  have hr30 := Kd.C_take (m := (x5_1 : Int).toNat) hC30 (by omega)
                  have hy30 : y139.length = (x5_1 : Int).toNat := (by rw [Ny139.out, List.length_take]; omega)
                  rw [← Ny139.out] at hr30
                  rw [← hy30] at hcut30
                  have HR142 := Aside0.mk hr30
                  have HC142 := Aside0.mk (show y139.length ≤ c0_1 from by omega)
                  clear hr30 hC30 hroom30 hi030 hsz30
                  have KY30 := Aside0.mk hy30
                  clear hy30
                  replace q30 := eq_true q30
                  go_upto_region 9 with (first | ((with_reducible refine gate_callee (f := 16) rfl ?_); refine goesL_ (some 47) rfl rfl Try.func16 (by kernel_rfl) rfl #[.slice A0_1 y139.length c0_1] rfl (by (try simp only [List.map_toArray, List.map_cons, List.map_nil]); first | done | rfl | (simp only [List.length_drop, List.length_take]; rfl)) ?_; (with_reducible refine (check_Need.calls kj14 _ _ y139 t143 t144 t145 _ ?side1 ?side2 A24.out).mono ?_); (case side1 => repeat (first | exact (Kd.C_below HR142.out HB.out) | (with_reducible refine Kd.C_alloc ?_ _) | (with_reducible refine Kd.C_drewN ?_ _) | (with_reducible refine Kd.C_drew ?_))); (case side2 => exact HC142.out); rintro e w31 ⟨rfl, hb⟩; refine ⟨_, rfl, ?_⟩; have n0_ := Aside0.mk (blk_below (g := gb135) (o := .cells #[.slice A0_0 l0_0.length c0_0, .slice A0_1 l0_1.length c0_1] 25 (0, 0)) (by (with_reducible repeat (first | refine blk_drewN ?_ _ | refine blk_drew ?_ | refine blk_alloc ?_ _)); exact BK135.out) hb); have n1_ := Aside0.mk (below_step (by repeat (first | (with_reducible first | exact HB.out | apply below_alloc | apply pw_below_drewN | apply below_drew1 | refine below_set ?_ GE135.out) | exact HB.out)) hb); clear BK135; clear HB; have BK135 := n0_; have HB := n1_; clear n0_ n1_; (try clear hb); (try clear hb2); (try clear hk); (try clear hi); have hcz32_0 : w31.cell? ⟨gb135, 0, none⟩ = some (.slice A0_0 l0_0.length c0_0) := (blk_cell BK135.out 0).trans rfl; have hcz32_1 : w31.cell? ⟨gb135, 1, none⟩ = some (.slice A0_1 l0_1.length c0_1) := (blk_cell BK135.out 1).trans rfl; have hfz32_0 := blk_frozen BK135.out 0; have hfz32_1 := blk_frozen BK135.out 1; have q33 : (x5_1 : Int) ≤ ((l0_1.length : Int) : Int) := of_decide_eq_true (by first | (with_reducible assumption) | assumption); obtain ⟨i033, hi033, _, hsz33, _⟩ := info_parts info34; have hroom33 : l0_1.length ≤ c0_1 := HC0_1.out; have hC33 : Kd.C k34 _ A0_1 l0_1.length l0_1 := HR0_1.out; have q033 : (0 : Int) ≤ (x5_1 : Int) := of_decide_eq_true (by first | (with_reducible assumption) | assumption); have hcut33 := cut_from (P := Try.prog) 23 34 .i64 Try.underlying23 hi033 3 hsz33 A0_1 l0_1.length c0_1 x5_1 q033 q33; have hr33 := Kd.C_drop (m := (x5_1 : Int).toNat) (c := c0_1) hC33 (by omega) hroom33; obtain ⟨A33, hA33⟩ : ∃ A1, A1 = (if c0_1 = (x5_1 : Int).toNat then A0_1 else (A0_1 : Option Addr).map (·.add ((x5_1 : Int).toNat * 3))) := ⟨_, rfl⟩; obtain ⟨c33, hc33⟩ : ∃ c1, c1 = c0_1 - (x5_1 : Int).toNat := ⟨_, rfl⟩; have hy33 : y146.length = l0_1.length - (x5_1 : Int).toNat := (by rw [Ny146.out, List.length_drop] <;> omega); rw [show (l0_1).drop (x5_1 : Int).toNat = y146 from Ny146.out.symm] at hr33; replace hr33 : Kd.C k34 _ A33 y146.length y146 := (by rw [hA33]; exact hr33); rw [← hy33, ← hA33, ← hc33] at hcut33; have HR149 := Aside0.mk hr33; have HC149 := Aside0.mk (show y146.length ≤ c33 from by rw [hy33, hc33]; exact Nat.sub_le_sub_right hroom33 _); clear hr33 hC33 hroom33 hi033 hsz33 hc33; have KY33 := Aside0.mk hy33; have KA33 := Aside0.mk hA33; clear hy33 hA33; replace q33 := eq_true q33) | ((with_reducible refine gate_callee (f := 16) rfl ?_); refine goesL_ (some 56) rfl rfl Try.func16 (by kernel_rfl) rfl #[.slice A33 y146.length c33] rfl (by (try simp only [List.map_toArray, List.map_cons, List.map_nil]); first | done | rfl | (simp only [List.length_drop, List.length_take]; rfl)) ?_; (with_reducible refine (check_Need.calls kj14 _ _ y146 t150 t151 t152 _ ?side1 ?side2 A27.out).mono ?_); (case side1 => repeat (first | exact (Kd.C_below HR149.out HB.out) | (with_reducible refine Kd.C_alloc ?_ _) | (with_reducible refine Kd.C_drewN ?_ _) | (with_reducible refine Kd.C_drew ?_))); (case side2 => exact HC149.out); rintro e w34 ⟨rfl, hb⟩; refine ⟨_, rfl, ?_⟩; have n0_ := Aside0.mk (blk_below (g := gb135) (o := .cells #[.slice A0_0 l0_0.length c0_0, .slice A0_1 l0_1.length c0_1] 25 (0, 0)) (by (with_reducible repeat (first | refine blk_drewN ?_ _ | refine blk_drew ?_ | refine blk_alloc ?_ _)); exact BK135.out) hb); have n1_ := Aside0.mk (below_step (by repeat (first | (with_reducible first | exact HB.out | apply below_alloc | apply pw_below_drewN | apply below_drew1 | refine below_set ?_ GE135.out) | exact HB.out)) hb); clear BK135; clear HB; have BK135 := n0_; have HB := n1_; clear n0_ n1_; (try clear hb); (try clear hb2); (try clear hk); (try clear hi)))
                  (try simp only [Act.put, List.setIfInBounds_toArray, List.set_cons_zero, List.set_cons_succ])
                  go_cut [67] (fun v67 wc => ∃ (kq : Nat) (x67_27 : Bool), v67 = .bool x67_27 ∧ Aside0 (thresherlaw7_CheckParts.j2 kq t137 x5_1 t143 t144 t150 t151 x67_27 l0_0 l0_1 = some r) ∧ Aside0 (kq ≤ kj14) ∧ Aside0 (wc.heap[gb135]? = some (.cells #[(.slice A0_0 l0_0.length c0_0), (.slice A0_1 l0_1.length c0_1)] 25 (0, 0))) ∧ Aside0 (Below w.heap.size w wc))
                  case first =>
                    have H := HC28.out
                    clear HC28
                    replace H := Option.bind_eq_some_iff.mp H
                    obtain ⟨t153, A350, H⟩ := H
                    replace H : (if t153 = 0 then ((thresherlaw7_num.f t152).bind fun t154 => (thresherlaw7_CheckParts.j2 kj14 t137 x5_1 t143 t144 t150 t151 (t154 != 0) l0_0 l0_1)) else (thresherlaw7_CheckParts.j2 kj14 t137 x5_1 t143 t144 t150 t151 true l0_0 l0_1)) = some r := H
                    have A35 := Aside0.mk A350
                    clear A350
                    by_cases c36 : t153 = 0
                    · rw [if_pos c36] at H
                      have c36b0 : (t153 == 0) = true := beq_iff_eq.mpr c36
                      have c36b1 : (t153 != 0) = false := bne_eq_false_iff_eq.mpr c36
                      clear c36
                      (first | rw [c36b0] | (simp only [i64_w, i32_w]; rw [c36b0]) | skip)
                      replace H := Option.bind_eq_some_iff.mp H
                      obtain ⟨t154, A370, H⟩ := H
                      replace H : (thresherlaw7_CheckParts.j2 kj14 t137 x5_1 t143 t144 t150 t151 (t154 != 0) l0_0 l0_1) = some r := H
                      have A37 := Aside0.mk A370
                      clear A370
                      have H' := Aside0.mk H
                      clear H
                      go_wp2_with (first | ((with_reducible refine gate_callee (f := 17) rfl ?_); refine goesL_ (some 61) rfl rfl Try.func17 (by kernel_rfl) rfl #[.int .i64 t145] rfl (by (try simp only [List.map_toArray, List.map_cons, List.map_nil]); first | done | rfl | (simp only [List.length_drop, List.length_take]; rfl)) ?_; (with_reducible refine (thresherlaw7_num.calls t145 t153 _ A35.out).mono ?_); rintro e w' ⟨rfl, ⟨nd, rfl⟩⟩; refine ⟨_, rfl, ?_⟩) | (go_at_call 17; (with_reducible refine (thresherlaw7_num.calls t152 t154 _ A37.out).mono ?_); rintro e w' ⟨rfl, ⟨nd, rfl⟩⟩))
                      go_meet
                      case rel => exact ⟨_, ((t154 != 0)), (by first | rfl | (simp; done) | (simp [*]; done)), H', ⟨by have := HK1.out; have := HJ14.out; first | omega | exact Nat.le_refl _⟩, ⟨by (with_reducible repeat (first | refine blk_drewN ?_ _ | refine blk_drew ?_ | refine blk_alloc ?_ _)); exact BK135.out⟩, ⟨by repeat (first | (with_reducible first | exact HB.out | apply below_alloc | apply pw_below_drewN | apply below_drew1 | refine below_set ?_ GE135.out) | exact HB.out)⟩⟩
                    · rw [if_neg c36] at H
                      have c36b0 : (t153 == 0) = false := beq_eq_false_iff_ne.mpr c36
                      have c36b1 : (t153 != 0) = true := bne_iff_ne.mpr c36
                      (first | rw [c36b0] | (simp only [i64_w, i32_w]; rw [c36b0]) | skip)
                      have H' := Aside0.mk H
                      clear H
                      go_wp2_with (first | ((with_reducible refine gate_callee (f := 17) rfl ?_); refine goesL_ (some 61) rfl rfl Try.func17 (by kernel_rfl) rfl #[.int .i64 t145] rfl (by (try simp only [List.map_toArray, List.map_cons, List.map_nil]); first | done | rfl | (simp only [List.length_drop, List.length_take]; rfl)) ?_; (with_reducible refine (thresherlaw7_num.calls t145 t153 _ A35.out).mono ?_); rintro e w' ⟨rfl, ⟨nd, rfl⟩⟩; refine ⟨_, rfl, ?_⟩))
                      go_meet
                      case rel => exact ⟨_, (true), (by first | rfl | (simp; done) | (simp [*]; done)), H', ⟨by have := HK1.out; have := HJ14.out; first | omega | exact Nat.le_refl _⟩, ⟨by (with_reducible repeat (first | refine blk_drewN ?_ _ | refine blk_drew ?_ | refine blk_alloc ?_ _)); exact BK135.out⟩, ⟨by repeat (first | (with_reducible first | exact HB.out | apply below_alloc | apply pw_below_drewN | apply below_drew1 | refine below_set ?_ GE135.out) | exact HB.out)⟩⟩
                  case rest =>
                    clear HC28
                    try clear c1
                    try clear c2
                    try clear p2
                    try clear c3
                    try clear q3
                    try clear c4
                    try clear c14
                    try clear c15
                    try clear c16
                    try clear c16b0
                    try clear c17
                    try clear c17b0
                    try clear c21
                    try clear c22
                    try clear c22b0
                    try clear c22b1
                    try clear c23
                    try clear c23b0
                    try clear c23b1
                    try clear c25
                    try clear c25b0
                    try clear c26
                    try clear c26b0
                    try clear q30
                    try clear c33
                    try clear q33
                    try clear c36
                    try clear c36b0
                    try clear c36b1
                    try clear hcz11_0
                    try clear hcz11_1
                    try clear hcz13_0
                    try clear hcz13_1
                    try clear hcz18_0
                    try clear hcz18_1
                    try clear hcz19_0
                    try clear hcz19_1
                    try clear hcz20_0
                    try clear hcz20_1
                    try clear hcz29_0
                    try clear hcz29_1
                    try clear hcz32_0
                    try clear hcz32_1
                    try clear hcz6_0
                    try clear hcz6_1
                    try clear hcz8_0
                    try clear hcz8_1
                    try clear hfz11_0
                    try clear hfz11_1
                    try clear hfz13_0
                    try clear hfz13_1
                    try clear hfz18_0
                    try clear hfz18_1
                    try clear hfz19_0
                    try clear hfz19_1
                    try clear hfz20_0
                    try clear hfz20_1
                    try clear hfz29_0
                    try clear hfz29_1
                    try clear hfz32_0
                    try clear hfz32_1
                    try clear hfz6_0
                    try clear hfz6_1
                    try clear hfz8_0
                    try clear hfz8_1
                    try clear p2
                    try clear q033
                    try clear q30
                    try clear q33
                    obtain ⟨kq, x67_27, rfl, HA, HJ27, BK135, HB⟩ := hcut
                    cases kq with
                    | zero => exact absurd HA.out (by simp [thresherlaw7_CheckParts.j2])
                    | succ kj27 =>
                      have H := HA.out
                      clear HA
                      simp only [thresherlaw7_CheckParts.j2] at H
                      by_cases c38 : x67_27 = true
                      · subst c38
                        have H1 : (thresherlaw7_CheckParts.l0 kj27 t137 (wrap64 (x5_1 + 1)) l0_0 l0_1) = some r := by rw [if_pos rfl] at H; exact H
                        clear H
                        have H := H1
                        clear H1
                        have H' := Aside0.mk H
                        clear H
                        go_wp2
                        go_roundg kj27
                        case measure => have := HK1.out; have := HJ14.out; have := HJ27.out; omega
                        case rel => exact ⟨(wrap64 (x5_1 + 1)), (by first | rfl | (simp; done) | (simp [*]; done)), H', ⟨by have := HK1.out; have := HJ14.out; have := HJ27.out; omega⟩, ⟨by (with_reducible repeat (first | refine blk_drewN ?_ _ | refine blk_drew ?_ | refine blk_alloc ?_ _)); exact BK135.out⟩, ⟨by repeat (first | (with_reducible first | exact HB.out | apply below_alloc | apply pw_below_drewN | apply below_drew1 | refine below_set ?_ GE135.out) | exact HB.out)⟩⟩
                      · replace c38 := Bool.eq_false_iff.mpr c38
                        subst c38
                        have H1 : ((check_Need.f kj27 l0_1).bind fun bt155 => (if (wrap64 (t143 + t151)) > 16 then ((thresherlaw7_num.f bt155.2.2).bind fun t158 => (if t158 = 9 then (thresherlaw7_CheckParts.l0 kj27 t137 (wrap64 (x5_1 + 1)) l0_0 l0_1) else (some false))) else ((thresherlaw7_num.f bt155.2.2).bind fun t159 => (if t159 = 0 then (if bt155.1 = (wrap64 (t143 + t150)) then (if bt155.2.1 = (mx t144 (wrap64 (t143 + t151))) then (if t143 < 0 then (some false) else (if t144 < t143 then (some false) else (thresherlaw7_CheckParts.l0 kj27 t137 (wrap64 (x5_1 + 1)) l0_0 l0_1))) else (some false)) else (some false)) else (some false))))) = some r := by rw [if_neg (show ¬ (false = true) by decide)] at H; exact H
                        clear H
                        have H := H1
                        clear H1
                        replace H := Option.bind_eq_some_iff.mp H
                        obtain ⟨⟨t155, t156, t157⟩, A390, H⟩ := H
                        replace H : (if (wrap64 (t143 + t151)) > 16 then ((thresherlaw7_num.f t157).bind fun t158 => (if t158 = 9 then (thresherlaw7_CheckParts.l0 kj27 t137 (wrap64 (x5_1 + 1)) l0_0 l0_1) else (some false))) else ((thresherlaw7_num.f t157).bind fun t159 => (if t159 = 0 then (if t155 = (wrap64 (t143 + t150)) then (if t156 = (mx t144 (wrap64 (t143 + t151))) then (if t143 < 0 then (some false) else (if t144 < t143 then (some false) else (thresherlaw7_CheckParts.l0 kj27 t137 (wrap64 (x5_1 + 1)) l0_0 l0_1))) else (some false)) else (some false)) else (some false)))) = some r := H
                        have A39 := Aside0.mk A390
                        clear A390
                        by_cases c40 : (wrap64 (t143 + t151)) > 16
                        · rw [if_pos c40] at H
                          have c40b0 : decide (16 < (wrap64 (t143 + t151))) = true := decide_eq_true c40
                          clear c40
                          replace H := Option.bind_eq_some_iff.mp H
                          obtain ⟨t158, A410, H⟩ := H
                          replace H : (if t158 = 9 then (thresherlaw7_CheckParts.l0 kj27 t137 (wrap64 (x5_1 + 1)) l0_0 l0_1) else (some false)) = some r := H
                          have A41 := Aside0.mk A410
                          clear A410
                          by_cases c42 : t158 = 9
                          · rw [if_pos c42] at H
                            have c42b0 : (t158 == 9) = true := beq_iff_eq.mpr c42
                            have c42b1 : (t158 != 9) = false := bne_eq_false_iff_eq.mpr c42
                            clear c42
                            have H' := Aside0.mk H
                            clear H
                            have hcz43_0 : wc.cell? ⟨gb135, 0, none⟩ = some (.slice A0_0 l0_0.length c0_0) := (blk_cell BK135.out 0).trans rfl
                            have hcz43_1 : wc.cell? ⟨gb135, 1, none⟩ = some (.slice A0_1 l0_1.length c0_1) := (blk_cell BK135.out 1).trans rfl
                            have hfz43_0 := blk_frozen BK135.out 0
                            have hfz43_1 := blk_frozen BK135.out 1
                            go_wp2_with (first | ((with_reducible refine gate_callee (f := 16) rfl ?_); refine goesL_ (some 71) rfl rfl Try.func16 (by kernel_rfl) rfl #[.slice A0_1 l0_1.length c0_1] rfl (by (try simp only [List.map_toArray, List.map_cons, List.map_nil]); first | done | rfl | (simp only [List.length_drop, List.length_take]; rfl)) ?_; (with_reducible refine (check_Need.calls kj27 _ _ l0_1 t155 t156 t157 _ ?side1 ?side2 A39.out).mono ?_); (case side1 => repeat (first | exact (Kd.C_below HR0_1.out HB.out) | (with_reducible refine Kd.C_alloc ?_ _) | (with_reducible refine Kd.C_drewN ?_ _) | (with_reducible refine Kd.C_drew ?_))); (case side2 => exact HC0_1.out); rintro e w44 ⟨rfl, hb⟩; refine ⟨_, rfl, ?_⟩; have n0_ := Aside0.mk (blk_below (g := gb135) (o := .cells #[.slice A0_0 l0_0.length c0_0, .slice A0_1 l0_1.length c0_1] 25 (0, 0)) (by (with_reducible repeat (first | refine blk_drewN ?_ _ | refine blk_drew ?_ | refine blk_alloc ?_ _)); exact BK135.out) hb); have n1_ := Aside0.mk (below_step (by repeat (first | (with_reducible first | exact HB.out | apply below_alloc | apply pw_below_drewN | apply below_drew1 | refine below_set ?_ GE135.out) | exact HB.out)) hb); clear BK135; clear HB; have BK135 := n0_; have HB := n1_; clear n0_ n1_; (try clear hb); (try clear hb2); (try clear hk); (try clear hi)) | ((with_reducible refine gate_callee (f := 17) rfl ?_); refine goesL_ (some 80) rfl rfl Try.func17 (by kernel_rfl) rfl #[.int .i64 t157] rfl (by (try simp only [List.map_toArray, List.map_cons, List.map_nil]); first | done | rfl | (simp only [List.length_drop, List.length_take]; rfl)) ?_; (with_reducible refine (thresherlaw7_num.calls t157 t158 _ A41.out).mono ?_); rintro e w' ⟨rfl, ⟨nd, rfl⟩⟩; refine ⟨_, rfl, ?_⟩))
                            go_roundg kj27
                            case measure => have := HK1.out; have := HJ14.out; have := HJ27.out; omega
                            case rel => exact ⟨(wrap64 (x5_1 + 1)), (by first | rfl | (simp; done) | (simp [*]; done)), H', ⟨by have := HK1.out; have := HJ14.out; have := HJ27.out; omega⟩, ⟨by (with_reducible repeat (first | refine blk_drewN ?_ _ | refine blk_drew ?_ | refine blk_alloc ?_ _)); exact BK135.out⟩, ⟨by repeat (first | (with_reducible first | exact HB.out | apply below_alloc | apply pw_below_drewN | apply below_drew1 | refine below_set ?_ GE135.out) | exact HB.out)⟩⟩
                          · rw [if_neg c42] at H
                            have c42b0 : (t158 == 9) = false := beq_eq_false_iff_ne.mpr c42
                            have c42b1 : (t158 != 9) = true := bne_iff_ne.mpr c42
                            obtain rfl := Option.some.inj H
                            have hcz45_0 : wc.cell? ⟨gb135, 0, none⟩ = some (.slice A0_0 l0_0.length c0_0) := (blk_cell BK135.out 0).trans rfl
                            have hcz45_1 : wc.cell? ⟨gb135, 1, none⟩ = some (.slice A0_1 l0_1.length c0_1) := (blk_cell BK135.out 1).trans rfl
                            have hfz45_0 := blk_frozen BK135.out 0
                            have hfz45_1 := blk_frozen BK135.out 1
                            go_wp2_with (first | ((with_reducible refine gate_callee (f := 16) rfl ?_); refine goesL_ (some 71) rfl rfl Try.func16 (by kernel_rfl) rfl #[.slice A0_1 l0_1.length c0_1] rfl (by (try simp only [List.map_toArray, List.map_cons, List.map_nil]); first | done | rfl | (simp only [List.length_drop, List.length_take]; rfl)) ?_; (with_reducible refine (check_Need.calls kj27 _ _ l0_1 t155 t156 t157 _ ?side1 ?side2 A39.out).mono ?_); (case side1 => repeat (first | exact (Kd.C_below HR0_1.out HB.out) | (with_reducible refine Kd.C_alloc ?_ _) | (with_reducible refine Kd.C_drewN ?_ _) | (with_reducible refine Kd.C_drew ?_))); (case side2 => exact HC0_1.out); rintro e w46 ⟨rfl, hb⟩; refine ⟨_, rfl, ?_⟩; have n0_ := Aside0.mk (blk_below (g := gb135) (o := .cells #[.slice A0_0 l0_0.length c0_0, .slice A0_1 l0_1.length c0_1] 25 (0, 0)) (by (with_reducible repeat (first | refine blk_drewN ?_ _ | refine blk_drew ?_ | refine blk_alloc ?_ _)); exact BK135.out) hb); have n1_ := Aside0.mk (below_step (by repeat (first | (with_reducible first | exact HB.out | apply below_alloc | apply pw_below_drewN | apply below_drew1 | refine below_set ?_ GE135.out) | exact HB.out)) hb); clear BK135; clear HB; have BK135 := n0_; have HB := n1_; clear n0_ n1_; (try clear hb); (try clear hb2); (try clear hk); (try clear hi)) | ((with_reducible refine gate_callee (f := 17) rfl ?_); refine goesL_ (some 80) rfl rfl Try.func17 (by kernel_rfl) rfl #[.int .i64 t157] rfl (by (try simp only [List.map_toArray, List.map_cons, List.map_nil]); first | done | rfl | (simp only [List.length_drop, List.length_take]; rfl)) ?_; (with_reducible refine (thresherlaw7_num.calls t157 t158 _ A41.out).mono ?_); rintro e w' ⟨rfl, ⟨nd, rfl⟩⟩; refine ⟨_, rfl, ?_⟩))
                            go_ret
                            exact ⟨by first | rfl | (simp [errW_none, errW_some] <;> rfl) | (simp [*, errW_none, errW_some] <;> rfl), by repeat (first | (with_reducible first | exact HB.out | apply below_alloc | apply pw_below_drewN | apply below_drew1 | refine below_set ?_ GE135.out) | exact HB.out)⟩
                        · rw [if_neg c40] at H
                          have c40b0 : decide (16 < (wrap64 (t143 + t151))) = false := decide_eq_false c40
                          clear c40
                          replace H := Option.bind_eq_some_iff.mp H
                          obtain ⟨t159, A470, H⟩ := H
                          replace H : (if t159 = 0 then (if t155 = (wrap64 (t143 + t150)) then (if t156 = (mx t144 (wrap64 (t143 + t151))) then (if t143 < 0 then (some false) else (if t144 < t143 then (some false) else (thresherlaw7_CheckParts.l0 kj27 t137 (wrap64 (x5_1 + 1)) l0_0 l0_1))) else (some false)) else (some false)) else (some false)) = some r := H
                          have A47 := Aside0.mk A470
                          clear A470
                          by_cases c48 : t159 = 0
                          · rw [if_pos c48] at H
                            have c48b0 : (t159 == 0) = true := beq_iff_eq.mpr c48
                            have c48b1 : (t159 != 0) = false := bne_eq_false_iff_eq.mpr c48
                            clear c48
                            by_cases c49 : t155 = (wrap64 (t143 + t150))
                            · rw [if_pos c49] at H
                              have c49b0 : (t155 == (wrap64 (t143 + t150))) = true := beq_iff_eq.mpr c49
                              have c49b1 : (t155 != (wrap64 (t143 + t150))) = false := bne_eq_false_iff_eq.mpr c49
                              clear c49
                              obtain ⟨ji50, hji50⟩ : ∃ j_ : Int, (mx t144 (wrap64 (t143 + t151))) = j_ := ⟨_, rfl⟩
                              replace H : (if t156 = (ji50) then (if t143 < 0 then (some false) else (if t144 < t143 then (some false) else (thresherlaw7_CheckParts.l0 kj27 t137 (wrap64 (x5_1 + 1)) l0_0 l0_1))) else (some false)) = some r := by first | (rw [hji50] at H; exact H) | (simp only [hji50] at H ⊢; exact H)
                              (try rw [hji50] at A39)
                              (try rw [hji50] at A47)
                              have hji50_ : (if t144 < (wrap64 (t143 + t151)) then (wrap64 (t143 + t151)) else t144) = ji50 := hji50
                              by_cases c51 : t156 = (ji50)
                              · rw [if_pos c51] at H
                                have c51b0 : (t156 == (ji50)) = true := beq_iff_eq.mpr c51
                                have c51b1 : (t156 != (ji50)) = false := bne_eq_false_iff_eq.mpr c51
                                clear c51
                                by_cases c52 : t143 < 0
                                · rw [if_pos c52] at H
                                  have c52b0 : decide (t143 < 0) = true := decide_eq_true c52
                                  clear c52
                                  obtain rfl := Option.some.inj H
                                  have hcz53_0 : wc.cell? ⟨gb135, 0, none⟩ = some (.slice A0_0 l0_0.length c0_0) := (blk_cell BK135.out 0).trans rfl
                                  have hcz53_1 : wc.cell? ⟨gb135, 1, none⟩ = some (.slice A0_1 l0_1.length c0_1) := (blk_cell BK135.out 1).trans rfl
                                  have hfz53_0 := blk_frozen BK135.out 0
                                  have hfz53_1 := blk_frozen BK135.out 1
                                  go_wp2_with (first | ((with_reducible refine gate_callee (f := 16) rfl ?_); refine goesL_ (some 71) rfl rfl Try.func16 (by kernel_rfl) rfl #[.slice A0_1 l0_1.length c0_1] rfl (by (try simp only [List.map_toArray, List.map_cons, List.map_nil]); first | done | rfl | (simp only [List.length_drop, List.length_take]; rfl)) ?_; (with_reducible refine (check_Need.calls kj27 _ _ l0_1 t155 t156 t157 _ ?side1 ?side2 A39.out).mono ?_); (case side1 => repeat (first | exact (Kd.C_below HR0_1.out HB.out) | (with_reducible refine Kd.C_alloc ?_ _) | (with_reducible refine Kd.C_drewN ?_ _) | (with_reducible refine Kd.C_drew ?_))); (case side2 => exact HC0_1.out); rintro e w54 ⟨rfl, hb⟩; refine ⟨_, rfl, ?_⟩; have n0_ := Aside0.mk (blk_below (g := gb135) (o := .cells #[.slice A0_0 l0_0.length c0_0, .slice A0_1 l0_1.length c0_1] 25 (0, 0)) (by (with_reducible repeat (first | refine blk_drewN ?_ _ | refine blk_drew ?_ | refine blk_alloc ?_ _)); exact BK135.out) hb); have n1_ := Aside0.mk (below_step (by repeat (first | (with_reducible first | exact HB.out | apply below_alloc | apply pw_below_drewN | apply below_drew1 | refine below_set ?_ GE135.out) | exact HB.out)) hb); clear BK135; clear HB; have BK135 := n0_; have HB := n1_; clear n0_ n1_; (try clear hb); (try clear hb2); (try clear hk); (try clear hi)) | ((with_reducible refine gate_callee (f := 17) rfl ?_); refine goesL_ (some 83) rfl rfl Try.func17 (by kernel_rfl) rfl #[.int .i64 t157] rfl (by (try simp only [List.map_toArray, List.map_cons, List.map_nil]); first | done | rfl | (simp only [List.length_drop, List.length_take]; rfl)) ?_; (with_reducible refine (thresherlaw7_num.calls t157 t159 _ A47.out).mono ?_); rintro e w' ⟨rfl, ⟨nd, rfl⟩⟩; refine ⟨_, rfl, ?_⟩))
                                  go_ret
                                  exact ⟨by first | rfl | (simp [errW_none, errW_some] <;> rfl) | (simp only [← hji50]; first | rfl | (simp [errW_none, errW_some] <;> rfl)) | (simp [*, errW_none, errW_some] <;> rfl), by repeat (first | (with_reducible first | exact HB.out | apply below_alloc | apply pw_below_drewN | apply below_drew1 | refine below_set ?_ GE135.out) | exact HB.out)⟩
                                · rw [if_neg c52] at H
                                  have c52b0 : decide (t143 < 0) = false := decide_eq_false c52
                                  clear c52
                                  by_cases c55 : t144 < t143
                                  · rw [if_pos c55] at H
                                    have c55b0 : decide (t144 < t143) = true := decide_eq_true c55
                                    clear c55
                                    obtain rfl := Option.some.inj H
                                    have hcz56_0 : wc.cell? ⟨gb135, 0, none⟩ = some (.slice A0_0 l0_0.length c0_0) := (blk_cell BK135.out 0).trans rfl
                                    have hcz56_1 : wc.cell? ⟨gb135, 1, none⟩ = some (.slice A0_1 l0_1.length c0_1) := (blk_cell BK135.out 1).trans rfl
                                    have hfz56_0 := blk_frozen BK135.out 0
                                    have hfz56_1 := blk_frozen BK135.out 1
                                    go_wp2_with (first | ((with_reducible refine gate_callee (f := 16) rfl ?_); refine goesL_ (some 71) rfl rfl Try.func16 (by kernel_rfl) rfl #[.slice A0_1 l0_1.length c0_1] rfl (by (try simp only [List.map_toArray, List.map_cons, List.map_nil]); first | done | rfl | (simp only [List.length_drop, List.length_take]; rfl)) ?_; (with_reducible refine (check_Need.calls kj27 _ _ l0_1 t155 t156 t157 _ ?side1 ?side2 A39.out).mono ?_); (case side1 => repeat (first | exact (Kd.C_below HR0_1.out HB.out) | (with_reducible refine Kd.C_alloc ?_ _) | (with_reducible refine Kd.C_drewN ?_ _) | (with_reducible refine Kd.C_drew ?_))); (case side2 => exact HC0_1.out); rintro e w57 ⟨rfl, hb⟩; refine ⟨_, rfl, ?_⟩; have n0_ := Aside0.mk (blk_below (g := gb135) (o := .cells #[.slice A0_0 l0_0.length c0_0, .slice A0_1 l0_1.length c0_1] 25 (0, 0)) (by (with_reducible repeat (first | refine blk_drewN ?_ _ | refine blk_drew ?_ | refine blk_alloc ?_ _)); exact BK135.out) hb); have n1_ := Aside0.mk (below_step (by repeat (first | (with_reducible first | exact HB.out | apply below_alloc | apply pw_below_drewN | apply below_drew1 | refine below_set ?_ GE135.out) | exact HB.out)) hb); clear BK135; clear HB; have BK135 := n0_; have HB := n1_; clear n0_ n1_; (try clear hb); (try clear hb2); (try clear hk); (try clear hi)) | ((with_reducible refine gate_callee (f := 17) rfl ?_); refine goesL_ (some 83) rfl rfl Try.func17 (by kernel_rfl) rfl #[.int .i64 t157] rfl (by (try simp only [List.map_toArray, List.map_cons, List.map_nil]); first | done | rfl | (simp only [List.length_drop, List.length_take]; rfl)) ?_; (with_reducible refine (thresherlaw7_num.calls t157 t159 _ A47.out).mono ?_); rintro e w' ⟨rfl, ⟨nd, rfl⟩⟩; refine ⟨_, rfl, ?_⟩))
                                    go_ret
                                    exact ⟨by first | rfl | (simp [errW_none, errW_some] <;> rfl) | (simp only [← hji50]; first | rfl | (simp [errW_none, errW_some] <;> rfl)) | (simp [*, errW_none, errW_some] <;> rfl), by repeat (first | (with_reducible first | exact HB.out | apply below_alloc | apply pw_below_drewN | apply below_drew1 | refine below_set ?_ GE135.out) | exact HB.out)⟩
                                  · rw [if_neg c55] at H
                                    have c55b0 : decide (t144 < t143) = false := decide_eq_false c55
                                    clear c55
                                    have H' := Aside0.mk H
                                    clear H
                                    have hcz58_0 : wc.cell? ⟨gb135, 0, none⟩ = some (.slice A0_0 l0_0.length c0_0) := (blk_cell BK135.out 0).trans rfl
                                    have hcz58_1 : wc.cell? ⟨gb135, 1, none⟩ = some (.slice A0_1 l0_1.length c0_1) := (blk_cell BK135.out 1).trans rfl
                                    have hfz58_0 := blk_frozen BK135.out 0
                                    have hfz58_1 := blk_frozen BK135.out 1
                                    go_wp2_with (first | ((with_reducible refine gate_callee (f := 16) rfl ?_); refine goesL_ (some 71) rfl rfl Try.func16 (by kernel_rfl) rfl #[.slice A0_1 l0_1.length c0_1] rfl (by (try simp only [List.map_toArray, List.map_cons, List.map_nil]); first | done | rfl | (simp only [List.length_drop, List.length_take]; rfl)) ?_; (with_reducible refine (check_Need.calls kj27 _ _ l0_1 t155 t156 t157 _ ?side1 ?side2 A39.out).mono ?_); (case side1 => repeat (first | exact (Kd.C_below HR0_1.out HB.out) | (with_reducible refine Kd.C_alloc ?_ _) | (with_reducible refine Kd.C_drewN ?_ _) | (with_reducible refine Kd.C_drew ?_))); (case side2 => exact HC0_1.out); rintro e w59 ⟨rfl, hb⟩; refine ⟨_, rfl, ?_⟩; have n0_ := Aside0.mk (blk_below (g := gb135) (o := .cells #[.slice A0_0 l0_0.length c0_0, .slice A0_1 l0_1.length c0_1] 25 (0, 0)) (by (with_reducible repeat (first | refine blk_drewN ?_ _ | refine blk_drew ?_ | refine blk_alloc ?_ _)); exact BK135.out) hb); have n1_ := Aside0.mk (below_step (by repeat (first | (with_reducible first | exact HB.out | apply below_alloc | apply pw_below_drewN | apply below_drew1 | refine below_set ?_ GE135.out) | exact HB.out)) hb); clear BK135; clear HB; have BK135 := n0_; have HB := n1_; clear n0_ n1_; (try clear hb); (try clear hb2); (try clear hk); (try clear hi)) | ((with_reducible refine gate_callee (f := 17) rfl ?_); refine goesL_ (some 83) rfl rfl Try.func17 (by kernel_rfl) rfl #[.int .i64 t157] rfl (by (try simp only [List.map_toArray, List.map_cons, List.map_nil]); first | done | rfl | (simp only [List.length_drop, List.length_take]; rfl)) ?_; (with_reducible refine (thresherlaw7_num.calls t157 t159 _ A47.out).mono ?_); rintro e w' ⟨rfl, ⟨nd, rfl⟩⟩; refine ⟨_, rfl, ?_⟩))
                                    go_roundg kj27
                                    case measure => have := HK1.out; have := HJ14.out; have := HJ27.out; omega
                                    case rel => exact ⟨(wrap64 (x5_1 + 1)), (by first | rfl | (simp; done) | (simp [*]; done)), H', ⟨by have := HK1.out; have := HJ14.out; have := HJ27.out; omega⟩, ⟨by (with_reducible repeat (first | refine blk_drewN ?_ _ | refine blk_drew ?_ | refine blk_alloc ?_ _)); exact BK135.out⟩, ⟨by repeat (first | (with_reducible first | exact HB.out | apply below_alloc | apply pw_below_drewN | apply below_drew1 | refine below_set ?_ GE135.out) | exact HB.out)⟩⟩
                              · rw [if_neg c51] at H
                                have c51b0 : (t156 == (ji50)) = false := beq_eq_false_iff_ne.mpr c51
                                have c51b1 : (t156 != (ji50)) = true := bne_iff_ne.mpr c51
                                obtain rfl := Option.some.inj H
                                have hcz60_0 : wc.cell? ⟨gb135, 0, none⟩ = some (.slice A0_0 l0_0.length c0_0) := (blk_cell BK135.out 0).trans rfl
                                have hcz60_1 : wc.cell? ⟨gb135, 1, none⟩ = some (.slice A0_1 l0_1.length c0_1) := (blk_cell BK135.out 1).trans rfl
                                have hfz60_0 := blk_frozen BK135.out 0
                                have hfz60_1 := blk_frozen BK135.out 1
                                go_wp2_with (first | ((with_reducible refine gate_callee (f := 16) rfl ?_); refine goesL_ (some 71) rfl rfl Try.func16 (by kernel_rfl) rfl #[.slice A0_1 l0_1.length c0_1] rfl (by (try simp only [List.map_toArray, List.map_cons, List.map_nil]); first | done | rfl | (simp only [List.length_drop, List.length_take]; rfl)) ?_; (with_reducible refine (check_Need.calls kj27 _ _ l0_1 t155 t156 t157 _ ?side1 ?side2 A39.out).mono ?_); (case side1 => repeat (first | exact (Kd.C_below HR0_1.out HB.out) | (with_reducible refine Kd.C_alloc ?_ _) | (with_reducible refine Kd.C_drewN ?_ _) | (with_reducible refine Kd.C_drew ?_))); (case side2 => exact HC0_1.out); rintro e w61 ⟨rfl, hb⟩; refine ⟨_, rfl, ?_⟩; have n0_ := Aside0.mk (blk_below (g := gb135) (o := .cells #[.slice A0_0 l0_0.length c0_0, .slice A0_1 l0_1.length c0_1] 25 (0, 0)) (by (with_reducible repeat (first | refine blk_drewN ?_ _ | refine blk_drew ?_ | refine blk_alloc ?_ _)); exact BK135.out) hb); have n1_ := Aside0.mk (below_step (by repeat (first | (with_reducible first | exact HB.out | apply below_alloc | apply pw_below_drewN | apply below_drew1 | refine below_set ?_ GE135.out) | exact HB.out)) hb); clear BK135; clear HB; have BK135 := n0_; have HB := n1_; clear n0_ n1_; (try clear hb); (try clear hb2); (try clear hk); (try clear hi)) | ((with_reducible refine gate_callee (f := 17) rfl ?_); refine goesL_ (some 83) rfl rfl Try.func17 (by kernel_rfl) rfl #[.int .i64 t157] rfl (by (try simp only [List.map_toArray, List.map_cons, List.map_nil]); first | done | rfl | (simp only [List.length_drop, List.length_take]; rfl)) ?_; (with_reducible refine (thresherlaw7_num.calls t157 t159 _ A47.out).mono ?_); rintro e w' ⟨rfl, ⟨nd, rfl⟩⟩; refine ⟨_, rfl, ?_⟩))
                                go_ret
                                exact ⟨by first | rfl | (simp [errW_none, errW_some] <;> rfl) | (simp only [← hji50]; first | rfl | (simp [errW_none, errW_some] <;> rfl)) | (simp [*, errW_none, errW_some] <;> rfl), by repeat (first | (with_reducible first | exact HB.out | apply below_alloc | apply pw_below_drewN | apply below_drew1 | refine below_set ?_ GE135.out) | exact HB.out)⟩
                            · rw [if_neg c49] at H
                              have c49b0 : (t155 == (wrap64 (t143 + t150))) = false := beq_eq_false_iff_ne.mpr c49
                              have c49b1 : (t155 != (wrap64 (t143 + t150))) = true := bne_iff_ne.mpr c49
                              obtain rfl := Option.some.inj H
                              have hcz62_0 : wc.cell? ⟨gb135, 0, none⟩ = some (.slice A0_0 l0_0.length c0_0) := (blk_cell BK135.out 0).trans rfl
                              have hcz62_1 : wc.cell? ⟨gb135, 1, none⟩ = some (.slice A0_1 l0_1.length c0_1) := (blk_cell BK135.out 1).trans rfl
                              have hfz62_0 := blk_frozen BK135.out 0
                              have hfz62_1 := blk_frozen BK135.out 1
                              go_wp2_with (first | ((with_reducible refine gate_callee (f := 16) rfl ?_); refine goesL_ (some 71) rfl rfl Try.func16 (by kernel_rfl) rfl #[.slice A0_1 l0_1.length c0_1] rfl (by (try simp only [List.map_toArray, List.map_cons, List.map_nil]); first | done | rfl | (simp only [List.length_drop, List.length_take]; rfl)) ?_; (with_reducible refine (check_Need.calls kj27 _ _ l0_1 t155 t156 t157 _ ?side1 ?side2 A39.out).mono ?_); (case side1 => repeat (first | exact (Kd.C_below HR0_1.out HB.out) | (with_reducible refine Kd.C_alloc ?_ _) | (with_reducible refine Kd.C_drewN ?_ _) | (with_reducible refine Kd.C_drew ?_))); (case side2 => exact HC0_1.out); rintro e w63 ⟨rfl, hb⟩; refine ⟨_, rfl, ?_⟩; have n0_ := Aside0.mk (blk_below (g := gb135) (o := .cells #[.slice A0_0 l0_0.length c0_0, .slice A0_1 l0_1.length c0_1] 25 (0, 0)) (by (with_reducible repeat (first | refine blk_drewN ?_ _ | refine blk_drew ?_ | refine blk_alloc ?_ _)); exact BK135.out) hb); have n1_ := Aside0.mk (below_step (by repeat (first | (with_reducible first | exact HB.out | apply below_alloc | apply pw_below_drewN | apply below_drew1 | refine below_set ?_ GE135.out) | exact HB.out)) hb); clear BK135; clear HB; have BK135 := n0_; have HB := n1_; clear n0_ n1_; (try clear hb); (try clear hb2); (try clear hk); (try clear hi)) | ((with_reducible refine gate_callee (f := 17) rfl ?_); refine goesL_ (some 83) rfl rfl Try.func17 (by kernel_rfl) rfl #[.int .i64 t157] rfl (by (try simp only [List.map_toArray, List.map_cons, List.map_nil]); first | done | rfl | (simp only [List.length_drop, List.length_take]; rfl)) ?_; (with_reducible refine (thresherlaw7_num.calls t157 t159 _ A47.out).mono ?_); rintro e w' ⟨rfl, ⟨nd, rfl⟩⟩; refine ⟨_, rfl, ?_⟩))
                              go_ret
                              exact ⟨by first | rfl | (simp [errW_none, errW_some] <;> rfl) | (simp [*, errW_none, errW_some] <;> rfl), by repeat (first | (with_reducible first | exact HB.out | apply below_alloc | apply pw_below_drewN | apply below_drew1 | refine below_set ?_ GE135.out) | exact HB.out)⟩
                          · rw [if_neg c48] at H
                            have c48b0 : (t159 == 0) = false := beq_eq_false_iff_ne.mpr c48
                            have c48b1 : (t159 != 0) = true := bne_iff_ne.mpr c48
                            obtain rfl := Option.some.inj H
                            have hcz64_0 : wc.cell? ⟨gb135, 0, none⟩ = some (.slice A0_0 l0_0.length c0_0) := (blk_cell BK135.out 0).trans rfl
                            have hcz64_1 : wc.cell? ⟨gb135, 1, none⟩ = some (.slice A0_1 l0_1.length c0_1) := (blk_cell BK135.out 1).trans rfl
                            have hfz64_0 := blk_frozen BK135.out 0
                            have hfz64_1 := blk_frozen BK135.out 1
                            go_wp2_with (first | ((with_reducible refine gate_callee (f := 16) rfl ?_); refine goesL_ (some 71) rfl rfl Try.func16 (by kernel_rfl) rfl #[.slice A0_1 l0_1.length c0_1] rfl (by (try simp only [List.map_toArray, List.map_cons, List.map_nil]); first | done | rfl | (simp only [List.length_drop, List.length_take]; rfl)) ?_; (with_reducible refine (check_Need.calls kj27 _ _ l0_1 t155 t156 t157 _ ?side1 ?side2 A39.out).mono ?_); (case side1 => repeat (first | exact (Kd.C_below HR0_1.out HB.out) | (with_reducible refine Kd.C_alloc ?_ _) | (with_reducible refine Kd.C_drewN ?_ _) | (with_reducible refine Kd.C_drew ?_))); (case side2 => exact HC0_1.out); rintro e w65 ⟨rfl, hb⟩; refine ⟨_, rfl, ?_⟩; have n0_ := Aside0.mk (blk_below (g := gb135) (o := .cells #[.slice A0_0 l0_0.length c0_0, .slice A0_1 l0_1.length c0_1] 25 (0, 0)) (by (with_reducible repeat (first | refine blk_drewN ?_ _ | refine blk_drew ?_ | refine blk_alloc ?_ _)); exact BK135.out) hb); have n1_ := Aside0.mk (below_step (by repeat (first | (with_reducible first | exact HB.out | apply below_alloc | apply pw_below_drewN | apply below_drew1 | refine below_set ?_ GE135.out) | exact HB.out)) hb); clear BK135; clear HB; have BK135 := n0_; have HB := n1_; clear n0_ n1_; (try clear hb); (try clear hb2); (try clear hk); (try clear hi)) | ((with_reducible refine gate_callee (f := 17) rfl ?_); refine goesL_ (some 83) rfl rfl Try.func17 (by kernel_rfl) rfl #[.int .i64 t157] rfl (by (try simp only [List.map_toArray, List.map_cons, List.map_nil]); first | done | rfl | (simp only [List.length_drop, List.length_take]; rfl)) ?_; (with_reducible refine (thresherlaw7_num.calls t157 t159 _ A47.out).mono ?_); rintro e w' ⟨rfl, ⟨nd, rfl⟩⟩; refine ⟨_, rfl, ?_⟩))
                            go_ret
                            exact ⟨by first | rfl | (simp [errW_none, errW_some] <;> rfl) | (simp [*, errW_none, errW_some] <;> rfl), by repeat (first | (with_reducible first | exact HB.out | apply below_alloc | apply pw_below_drewN | apply below_drew1 | refine below_set ?_ GE135.out) | exact HB.out)⟩
                · rw [if_neg c23] at H
                  exact absurd H (by simp)
              · rw [if_neg c22] at H
                exact absurd H (by simp)
            · replace c21 := Bool.eq_false_iff.mpr c21
              subst c21
              have H1 : (thresherlaw7_CheckParts.l1 kj14 (([(([(⟨5, 0, ([] : List (S34))⟩ : S34)] : List (S34))), (([(⟨4, 0, ([] : List (S34))⟩ : S34), (⟨28, 0, (([(⟨4, 0, ([] : List (S34))⟩ : S34)] : List (S34)))⟩ : S34)] : List (S34))), (([(⟨4, 0, ([] : List (S34))⟩ : S34), (⟨4, 0, ([] : List (S34))⟩ : S34), (⟨28, 0, (([(⟨27, 0, ([] : List (S34))⟩ : S34), (⟨4, 0, ([] : List (S34))⟩ : S34)] : List (S34)))⟩ : S34)] : List (S34))), (([(⟨26, 0, ([] : List (S34))⟩ : S34)] : List (S34))), (([(⟨4, 0, ([] : List (S34))⟩ : S34), (⟨30, 0, ([] : List (S34))⟩ : S34)] : List (S34)))] : List (List (S34)))) 0) = some r := by rw [if_neg (show ¬ (false = true) by decide)] at H; exact H
              clear H
              have H := H1
              clear H1
              obtain ⟨y160, hy160⟩ : ∃ y_ : List (S34), y_ = (([(⟨5, 0, ([] : List (S34))⟩ : S34)] : List (S34))) := ⟨_, rfl⟩
              replace H : (thresherlaw7_CheckParts.l1 kj14 (([y160, (([(⟨4, 0, ([] : List (S34))⟩ : S34), (⟨28, 0, (([(⟨4, 0, ([] : List (S34))⟩ : S34)] : List (S34)))⟩ : S34)] : List (S34))), (([(⟨4, 0, ([] : List (S34))⟩ : S34), (⟨4, 0, ([] : List (S34))⟩ : S34), (⟨28, 0, (([(⟨27, 0, ([] : List (S34))⟩ : S34), (⟨4, 0, ([] : List (S34))⟩ : S34)] : List (S34)))⟩ : S34)] : List (S34))), (([(⟨26, 0, ([] : List (S34))⟩ : S34)] : List (S34))), (([(⟨4, 0, ([] : List (S34))⟩ : S34), (⟨30, 0, ([] : List (S34))⟩ : S34)] : List (S34)))] : List (List (S34)))) 0) = some r := by first | (rw [hy160]; with_reducible exact H) | (have H2_ := (Option.bind_some _ _).symm.trans H; rw [hy160]; with_reducible exact H2_) | (have H2_ := (Option.bind_some _ _).symm.trans H; with_reducible exact H2_) | with_reducible exact H | (rw [hy160]; exact H) | exact H
              have Ny160 := Aside0.mk hy160
              clear hy160
              obtain ⟨y163, hy163⟩ : ∃ y_ : List (S34), y_ = (([(⟨4, 0, ([] : List (S34))⟩ : S34)] : List (S34))) := ⟨_, rfl⟩
              replace H : (thresherlaw7_CheckParts.l1 kj14 (([y160, (([(⟨4, 0, ([] : List (S34))⟩ : S34), (⟨28, 0, y163⟩ : S34)] : List (S34))), (([(⟨4, 0, ([] : List (S34))⟩ : S34), (⟨4, 0, ([] : List (S34))⟩ : S34), (⟨28, 0, (([(⟨27, 0, ([] : List (S34))⟩ : S34), (⟨4, 0, ([] : List (S34))⟩ : S34)] : List (S34)))⟩ : S34)] : List (S34))), (([(⟨26, 0, ([] : List (S34))⟩ : S34)] : List (S34))), (([(⟨4, 0, ([] : List (S34))⟩ : S34), (⟨30, 0, ([] : List (S34))⟩ : S34)] : List (S34)))] : List (List (S34)))) 0) = some r := by first | (rw [hy163]; with_reducible exact H) | (have H2_ := (Option.bind_some _ _).symm.trans H; rw [hy163]; with_reducible exact H2_) | (have H2_ := (Option.bind_some _ _).symm.trans H; with_reducible exact H2_) | with_reducible exact H | (rw [hy163]; exact H) | exact H
              have Ny163 := Aside0.mk hy163
              clear hy163
              obtain ⟨y166, hy166⟩ : ∃ y_ : List (S34), y_ = (([(⟨4, 0, ([] : List (S34))⟩ : S34), (⟨28, 0, y163⟩ : S34)] : List (S34))) := ⟨_, rfl⟩
              replace H : (thresherlaw7_CheckParts.l1 kj14 (([y160, y166, (([(⟨4, 0, ([] : List (S34))⟩ : S34), (⟨4, 0, ([] : List (S34))⟩ : S34), (⟨28, 0, (([(⟨27, 0, ([] : List (S34))⟩ : S34), (⟨4, 0, ([] : List (S34))⟩ : S34)] : List (S34)))⟩ : S34)] : List (S34))), (([(⟨26, 0, ([] : List (S34))⟩ : S34)] : List (S34))), (([(⟨4, 0, ([] : List (S34))⟩ : S34), (⟨30, 0, ([] : List (S34))⟩ : S34)] : List (S34)))] : List (List (S34)))) 0) = some r := by first | (rw [hy166]; with_reducible exact H) | (have H2_ := (Option.bind_some _ _).symm.trans H; rw [hy166]; with_reducible exact H2_) | (have H2_ := (Option.bind_some _ _).symm.trans H; with_reducible exact H2_) | with_reducible exact H | (rw [hy166]; exact H) | exact H
              have Ny166 := Aside0.mk hy166
              clear hy166
              obtain ⟨y169, hy169⟩ : ∃ y_ : List (S34), y_ = (([(⟨27, 0, ([] : List (S34))⟩ : S34), (⟨4, 0, ([] : List (S34))⟩ : S34)] : List (S34))) := ⟨_, rfl⟩
              replace H : (thresherlaw7_CheckParts.l1 kj14 (([y160, y166, (([(⟨4, 0, ([] : List (S34))⟩ : S34), (⟨4, 0, ([] : List (S34))⟩ : S34), (⟨28, 0, y169⟩ : S34)] : List (S34))), (([(⟨26, 0, ([] : List (S34))⟩ : S34)] : List (S34))), (([(⟨4, 0, ([] : List (S34))⟩ : S34), (⟨30, 0, ([] : List (S34))⟩ : S34)] : List (S34)))] : List (List (S34)))) 0) = some r := by first | (rw [hy169]; with_reducible exact H) | (have H2_ := (Option.bind_some _ _).symm.trans H; rw [hy169]; with_reducible exact H2_) | (have H2_ := (Option.bind_some _ _).symm.trans H; with_reducible exact H2_) | with_reducible exact H | (rw [hy169]; exact H) | exact H
              have Ny169 := Aside0.mk hy169
              clear hy169
              obtain ⟨y172, hy172⟩ : ∃ y_ : List (S34), y_ = (([(⟨4, 0, ([] : List (S34))⟩ : S34), (⟨4, 0, ([] : List (S34))⟩ : S34), (⟨28, 0, y169⟩ : S34)] : List (S34))) := ⟨_, rfl⟩
              replace H : (thresherlaw7_CheckParts.l1 kj14 (([y160, y166, y172, (([(⟨26, 0, ([] : List (S34))⟩ : S34)] : List (S34))), (([(⟨4, 0, ([] : List (S34))⟩ : S34), (⟨30, 0, ([] : List (S34))⟩ : S34)] : List (S34)))] : List (List (S34)))) 0) = some r := by first | (rw [hy172]; with_reducible exact H) | (have H2_ := (Option.bind_some _ _).symm.trans H; rw [hy172]; with_reducible exact H2_) | (have H2_ := (Option.bind_some _ _).symm.trans H; with_reducible exact H2_) | with_reducible exact H | (rw [hy172]; exact H) | exact H
              have Ny172 := Aside0.mk hy172
              clear hy172
              obtain ⟨y175, hy175⟩ : ∃ y_ : List (S34), y_ = (([(⟨26, 0, ([] : List (S34))⟩ : S34)] : List (S34))) := ⟨_, rfl⟩
              replace H : (thresherlaw7_CheckParts.l1 kj14 (([y160, y166, y172, y175, (([(⟨4, 0, ([] : List (S34))⟩ : S34), (⟨30, 0, ([] : List (S34))⟩ : S34)] : List (S34)))] : List (List (S34)))) 0) = some r := by first | (rw [hy175]; with_reducible exact H) | (have H2_ := (Option.bind_some _ _).symm.trans H; rw [hy175]; with_reducible exact H2_) | (have H2_ := (Option.bind_some _ _).symm.trans H; with_reducible exact H2_) | with_reducible exact H | (rw [hy175]; exact H) | exact H
              have Ny175 := Aside0.mk hy175
              clear hy175
              obtain ⟨y178, hy178⟩ : ∃ y_ : List (S34), y_ = (([(⟨4, 0, ([] : List (S34))⟩ : S34), (⟨30, 0, ([] : List (S34))⟩ : S34)] : List (S34))) := ⟨_, rfl⟩
              replace H : (thresherlaw7_CheckParts.l1 kj14 (([y160, y166, y172, y175, y178] : List (List (S34)))) 0) = some r := by first | (rw [hy178]; with_reducible exact H) | (have H2_ := (Option.bind_some _ _).symm.trans H; rw [hy178]; with_reducible exact H2_) | (have H2_ := (Option.bind_some _ _).symm.trans H; with_reducible exact H2_) | with_reducible exact H | (rw [hy178]; exact H) | exact H
              have Ny178 := Aside0.mk hy178
              clear hy178
              obtain ⟨y181, hy181⟩ : ∃ y_ : List (List (S34)), y_ = (([y160, y166, y172, y175, y178] : List (List (S34)))) := ⟨_, rfl⟩
              replace H : (thresherlaw7_CheckParts.l1 kj14 y181 0) = some r := by first | (rw [hy181]; with_reducible exact H) | (have H2_ := (Option.bind_some _ _).symm.trans H; rw [hy181]; with_reducible exact H2_) | (have H2_ := (Option.bind_some _ _).symm.trans H; with_reducible exact H2_) | with_reducible exact H | (rw [hy181]; exact H) | exact H
              have Ny181 := Aside0.mk hy181
              clear hy181
              have H' := Aside0.mk H
              clear H
              go_wp2_with (first | ((with_reducible refine gate_dst (N := 111) rfl ?_); (try (refine gate_guard (by rfl) ?_; dsimp only)); refine Kd.N_lit k34 _ 34 ?hg (N' := 111) ?hd (xs := ([(⟨5, 0, ([] : List (S34))⟩ : S34)] : List (S34))) (inner := [.int .i64 5, .int .i64 0, .slice none 0 0]) (ok := (fun k_ => k_ ≠ gb135)) (okp := (fun k_ => k_ ≠ gb135)) ?hr ?hp (fun _ hk => hk) ((show ∀ k_, wc.heap.size ≤ k_ → (fun k_ => k_ ≠ gb135) k_ from fun k_ hk => Kd.freshB (g := gb135) (o := .cells #[.slice A0_0 l0_0.length c0_0, .slice A0_1 l0_1.length c0_1] 25 (0, 0)) (by (with_reducible repeat (first | refine blk_drewN ?_ _ | refine blk_drew ?_ | refine blk_alloc ?_ _)); exact BK135.out) k_ hk) _ (Nat.le_refl _)) (Below.refl _ _) (Nat.le_refl _) (by simp) ?_; (case hd => rfl); (case hg => rfl); (case hr => first | (go_simp; done) | (go_simp; rfl)); (case hp => exact (Reps.c3 (show Kd.FK k34 _ _ (⟨5, 0, ([] : List (S34))⟩ : S34) [.int .i64 5, .int .i64 0, .slice none 0 0] from (k34_mkF _ _ (⟨5, 0, ([] : List (S34))⟩ : S34) (Nat.le_refl _) (Kd.F_nil _ _ _))) (Reps.none _ _))); intro v161 w66 ho67 hb hg_ hnew_; clear hg_ hnew_; (first | rw [← Ny160.out] at ho67 | (simp only [Int.reduceToNat] at ho67; rw [← Ny160.out] at ho67)); have n0_ := Aside0.mk (Kd.N_lower ho67 (below_size (by repeat (first | (with_reducible first | exact HB.out | apply below_alloc | apply pw_below_drewN | apply below_drew1 | refine below_set ?_ GE135.out) | exact HB.out)))); have n1_ := Aside0.mk (blk_below (g := gb135) (o := .cells #[.slice A0_0 l0_0.length c0_0, .slice A0_1 l0_1.length c0_1] 25 (0, 0)) (by (with_reducible repeat (first | refine blk_drewN ?_ _ | refine blk_drew ?_ | refine blk_alloc ?_ _)); exact BK135.out) hb); have n2_ := Aside0.mk (below_step (by repeat (first | (with_reducible first | exact HB.out | apply below_alloc | apply pw_below_drewN | apply below_drew1 | refine below_set ?_ GE135.out) | exact HB.out)) hb); clear BK135; clear HB; have HO162 := n0_; have BK135 := n1_; have HB := n2_; clear n0_ n1_ n2_; clear hb ho67) | ((with_reducible refine gate_dst (N := 114) rfl ?_); (try (refine gate_guard (by rfl) ?_; dsimp only)); refine Kd.N_lit k34 _ 34 ?hg (N' := 114) ?hd (xs := ([(⟨4, 0, ([] : List (S34))⟩ : S34)] : List (S34))) (inner := [.int .i64 4, .int .i64 0, .slice none 0 0]) (ok := (fun k_ => some k_ ≠ (v161 : Value).ownBlock ∧ k_ ≠ gb135)) (okp := (fun k_ => some k_ ≠ (v161 : Value).ownBlock ∧ k_ ≠ gb135)) ?hr ?hp (fun _ hk => hk) ((show ∀ k_, w66.heap.size ≤ k_ → (fun k_ => some k_ ≠ (v161 : Value).ownBlock ∧ k_ ≠ gb135) k_ from fun k_ hk => ⟨Kd.fresh' (Kd.N_lt (by (with_reducible repeat (first | apply Kd.N_alloc | apply Kd.N_drewN | apply Kd.N_drew)); exact HO162.out)) k_ hk, Kd.freshB (g := gb135) (o := .cells #[.slice A0_0 l0_0.length c0_0, .slice A0_1 l0_1.length c0_1] 25 (0, 0)) (by (with_reducible repeat (first | refine blk_drewN ?_ _ | refine blk_drew ?_ | refine blk_alloc ?_ _)); exact BK135.out) k_ hk⟩) _ (Nat.le_refl _)) (Below.refl _ _) (Nat.le_refl _) (by simp) ?_; (case hd => rfl); (case hg => rfl); (case hr => first | (go_simp; done) | (go_simp; rfl)); (case hp => exact (Reps.c3 (show Kd.FK k34 _ _ (⟨4, 0, ([] : List (S34))⟩ : S34) [.int .i64 4, .int .i64 0, .slice none 0 0] from (k34_mkF _ _ (⟨4, 0, ([] : List (S34))⟩ : S34) (Nat.le_refl _) (Kd.F_nil _ _ _))) (Reps.none _ _))); intro v164 w68 ho69 hb hg_ hnew_; clear hg_ hnew_; (first | rw [← Ny163.out] at ho69 | (simp only [Int.reduceToNat] at ho69; rw [← Ny163.out] at ho69)); have n0_ := Aside0.mk (Kd.N_elder' (by (with_reducible repeat (first | apply Kd.N_alloc | apply Kd.N_drewN | apply Kd.N_drew)); exact HO162.out) (Kd.N_base ho69) hb); have n1_ := Aside0.mk (Kd.N_lower ho69 (below_size (by repeat (first | (with_reducible first | exact HB.out | apply below_alloc | apply pw_below_drewN | apply below_drew1 | refine below_set ?_ GE135.out) | exact HB.out)))); have n2_ := Aside0.mk (blk_below (g := gb135) (o := .cells #[.slice A0_0 l0_0.length c0_0, .slice A0_1 l0_1.length c0_1] 25 (0, 0)) (by (with_reducible repeat (first | refine blk_drewN ?_ _ | refine blk_drew ?_ | refine blk_alloc ?_ _)); exact BK135.out) hb); have n3_ := Aside0.mk (below_step (by repeat (first | (with_reducible first | exact HB.out | apply below_alloc | apply pw_below_drewN | apply below_drew1 | refine below_set ?_ GE135.out) | exact HB.out)) hb); clear HO162; clear BK135; clear HB; have HO162 := n0_; have HO165 := n1_; have BK135 := n2_; have HB := n3_; clear n0_ n1_ n2_ n3_; clear hb ho69; obtain ⟨Ao70, co70, eo70⟩ := Kd.N_slice HO165.out; subst eo70) | ((with_reducible refine gate_dst (N := 116) rfl ?_); (try (refine gate_guard (by rfl) ?_; dsimp only)); refine Kd.N_lit k34 _ 34 ?hg (N' := 116) ?hd (xs := ([(⟨4, 0, ([] : List (S34))⟩ : S34), (⟨28, 0, y163⟩ : S34)] : List (S34))) (inner := [.int .i64 4, .int .i64 0, .slice none 0 0, .int .i64 28, .int .i64 0, .slice Ao70 y163.length co70]) (ok := (fun k_ => some k_ ≠ (v161 : Value).ownBlock ∧ k_ ≠ gb135)) (okp := (fun k_ => some k_ ≠ (v161 : Value).ownBlock ∧ k_ ≠ gb135)) ?hr ?hp (fun _ hk => hk) ((show ∀ k_, w68.heap.size ≤ k_ → (fun k_ => some k_ ≠ (v161 : Value).ownBlock ∧ k_ ≠ gb135) k_ from fun k_ hk => ⟨Kd.fresh' (Kd.N_lt (by (with_reducible repeat (first | apply Kd.N_alloc | apply Kd.N_drewN | apply Kd.N_drew)); exact HO162.out)) k_ hk, Kd.freshB (g := gb135) (o := .cells #[.slice A0_0 l0_0.length c0_0, .slice A0_1 l0_1.length c0_1] 25 (0, 0)) (by (with_reducible repeat (first | refine blk_drewN ?_ _ | refine blk_drew ?_ | refine blk_alloc ?_ _)); exact BK135.out) k_ hk⟩) _ (Nat.le_refl _)) (Below.refl _ _) (Nat.le_refl _) (by simp) ?_; (case hd => rfl); (case hg => rfl); (case hr => first | (go_simp; done) | (go_simp; rfl)); (case hp => exact (Reps.c3 (show Kd.FK k34 _ _ (⟨4, 0, ([] : List (S34))⟩ : S34) [.int .i64 4, .int .i64 0, .slice none 0 0] from (k34_mkF _ _ (⟨4, 0, ([] : List (S34))⟩ : S34) (Nat.le_refl _) (Kd.F_nil _ _ _))) (Reps.c3 (show Kd.FK k34 _ _ (⟨28, 0, y163⟩ : S34) [.int .i64 28, .int .i64 0, .slice Ao70 y163.length co70] from (k34_mkF _ _ (⟨28, 0, y163⟩ : S34) (Kd.N_reads' (Kd.N_mono (ok' := (fun k_ => some k_ ≠ (v161 : Value).ownBlock ∧ k_ ≠ gb135)) (HO165.out) (fun k_ hk => ⟨hk.1, hk.2⟩))).2.1 (Kd.N_F (Kd.N_mono (ok' := (fun k_ => some k_ ≠ (v161 : Value).ownBlock ∧ k_ ≠ gb135)) (HO165.out) (fun k_ hk => ⟨hk.1, hk.2⟩))))) (Reps.none _ _)))); intro v167 w71 ho72 hb hg_ hnew_; clear hg_ hnew_; (first | rw [← Ny166.out] at ho72 | (simp only [Int.reduceToNat] at ho72; rw [← Ny166.out] at ho72)); have n0_ := Aside0.mk (Kd.N_elder' (by (with_reducible repeat (first | apply Kd.N_alloc | apply Kd.N_drewN | apply Kd.N_drew)); exact HO162.out) (Kd.N_base ho72) hb); have n1_ := Aside0.mk (Kd.N_lower ho72 (below_size (by repeat (first | (with_reducible first | exact HB.out | apply below_alloc | apply pw_below_drewN | apply below_drew1 | refine below_set ?_ GE135.out) | exact HB.out)))); have n2_ := Aside0.mk (blk_below (g := gb135) (o := .cells #[.slice A0_0 l0_0.length c0_0, .slice A0_1 l0_1.length c0_1] 25 (0, 0)) (by (with_reducible repeat (first | refine blk_drewN ?_ _ | refine blk_drew ?_ | refine blk_alloc ?_ _)); exact BK135.out) hb); have n3_ := Aside0.mk (below_step (by repeat (first | (with_reducible first | exact HB.out | apply below_alloc | apply pw_below_drewN | apply below_drew1 | refine below_set ?_ GE135.out) | exact HB.out)) hb); clear HO162; clear BK135; clear HB; clear HO165; have HO162 := n0_; have HO168 := n1_; have BK135 := n2_; have HB := n3_; clear n0_ n1_ n2_ n3_; clear hb ho72) | ((with_reducible refine gate_dst (N := 121) rfl ?_); (try (refine gate_guard (by rfl) ?_; dsimp only)); refine Kd.N_lit k34 _ 34 ?hg (N' := 121) ?hd (xs := ([(⟨27, 0, ([] : List (S34))⟩ : S34), (⟨4, 0, ([] : List (S34))⟩ : S34)] : List (S34))) (inner := [.int .i64 27, .int .i64 0, .slice none 0 0, .int .i64 4, .int .i64 0, .slice none 0 0]) (ok := (fun k_ => some k_ ≠ (v161 : Value).ownBlock ∧ some k_ ≠ (v167 : Value).ownBlock ∧ k_ ≠ gb135)) (okp := (fun k_ => some k_ ≠ (v161 : Value).ownBlock ∧ some k_ ≠ (v167 : Value).ownBlock ∧ k_ ≠ gb135)) ?hr ?hp (fun _ hk => hk) ((show ∀ k_, w71.heap.size ≤ k_ → (fun k_ => some k_ ≠ (v161 : Value).ownBlock ∧ some k_ ≠ (v167 : Value).ownBlock ∧ k_ ≠ gb135) k_ from fun k_ hk => ⟨Kd.fresh' (Kd.N_lt (by (with_reducible repeat (first | apply Kd.N_alloc | apply Kd.N_drewN | apply Kd.N_drew)); exact HO162.out)) k_ hk, Kd.fresh' (Kd.N_lt (by (with_reducible repeat (first | apply Kd.N_alloc | apply Kd.N_drewN | apply Kd.N_drew)); exact HO168.out)) k_ hk, Kd.freshB (g := gb135) (o := .cells #[.slice A0_0 l0_0.length c0_0, .slice A0_1 l0_1.length c0_1] 25 (0, 0)) (by (with_reducible repeat (first | refine blk_drewN ?_ _ | refine blk_drew ?_ | refine blk_alloc ?_ _)); exact BK135.out) k_ hk⟩) _ (Nat.le_refl _)) (Below.refl _ _) (Nat.le_refl _) (by simp) ?_; (case hd => rfl); (case hg => rfl); (case hr => first | (go_simp; done) | (go_simp; rfl)); (case hp => exact (Reps.c3 (show Kd.FK k34 _ _ (⟨27, 0, ([] : List (S34))⟩ : S34) [.int .i64 27, .int .i64 0, .slice none 0 0] from (k34_mkF _ _ (⟨27, 0, ([] : List (S34))⟩ : S34) (Nat.le_refl _) (Kd.F_nil _ _ _))) (Reps.c3 (show Kd.FK k34 _ _ (⟨4, 0, ([] : List (S34))⟩ : S34) [.int .i64 4, .int .i64 0, .slice none 0 0] from (k34_mkF _ _ (⟨4, 0, ([] : List (S34))⟩ : S34) (Nat.le_refl _) (Kd.F_nil _ _ _))) (Reps.none _ _)))); intro v170 w73 ho74 hb hg_ hnew_; clear hg_ hnew_; (first | rw [← Ny169.out] at ho74 | (simp only [Int.reduceToNat] at ho74; rw [← Ny169.out] at ho74)); have n0_ := Aside0.mk (Kd.N_elder' (by (with_reducible repeat (first | apply Kd.N_alloc | apply Kd.N_drewN | apply Kd.N_drew)); exact HO162.out) (Kd.N_base ho74) hb); have n1_ := Aside0.mk (Kd.N_elder' (by (with_reducible repeat (first | apply Kd.N_alloc | apply Kd.N_drewN | apply Kd.N_drew)); exact HO168.out) (Kd.N_base ho74) hb); have n2_ := Aside0.mk (Kd.N_lower ho74 (below_size (by repeat (first | (with_reducible first | exact HB.out | apply below_alloc | apply pw_below_drewN | apply below_drew1 | refine below_set ?_ GE135.out) | exact HB.out)))); have n3_ := Aside0.mk (blk_below (g := gb135) (o := .cells #[.slice A0_0 l0_0.length c0_0, .slice A0_1 l0_1.length c0_1] 25 (0, 0)) (by (with_reducible repeat (first | refine blk_drewN ?_ _ | refine blk_drew ?_ | refine blk_alloc ?_ _)); exact BK135.out) hb); have n4_ := Aside0.mk (below_step (by repeat (first | (with_reducible first | exact HB.out | apply below_alloc | apply pw_below_drewN | apply below_drew1 | refine below_set ?_ GE135.out) | exact HB.out)) hb); clear HO162; clear HO168; clear BK135; clear HB; have HO162 := n0_; have HO168 := n1_; have HO171 := n2_; have BK135 := n3_; have HB := n4_; clear n0_ n1_ n2_ n3_ n4_; clear hb ho74; obtain ⟨Ao75, co75, eo75⟩ := Kd.N_slice HO171.out; subst eo75) | ((with_reducible refine gate_dst (N := 123) rfl ?_); (try (refine gate_guard (by rfl) ?_; dsimp only)); refine Kd.N_lit k34 _ 34 ?hg (N' := 123) ?hd (xs := ([(⟨4, 0, ([] : List (S34))⟩ : S34), (⟨4, 0, ([] : List (S34))⟩ : S34), (⟨28, 0, y169⟩ : S34)] : List (S34))) (inner := [.int .i64 4, .int .i64 0, .slice none 0 0, .int .i64 4, .int .i64 0, .slice none 0 0, .int .i64 28, .int .i64 0, .slice Ao75 y169.length co75]) (ok := (fun k_ => some k_ ≠ (v161 : Value).ownBlock ∧ some k_ ≠ (v167 : Value).ownBlock ∧ k_ ≠ gb135)) (okp := (fun k_ => some k_ ≠ (v161 : Value).ownBlock ∧ some k_ ≠ (v167 : Value).ownBlock ∧ k_ ≠ gb135)) ?hr ?hp (fun _ hk => hk) ((show ∀ k_, w73.heap.size ≤ k_ → (fun k_ => some k_ ≠ (v161 : Value).ownBlock ∧ some k_ ≠ (v167 : Value).ownBlock ∧ k_ ≠ gb135) k_ from fun k_ hk => ⟨Kd.fresh' (Kd.N_lt (by (with_reducible repeat (first | apply Kd.N_alloc | apply Kd.N_drewN | apply Kd.N_drew)); exact HO162.out)) k_ hk, Kd.fresh' (Kd.N_lt (by (with_reducible repeat (first | apply Kd.N_alloc | apply Kd.N_drewN | apply Kd.N_drew)); exact HO168.out)) k_ hk, Kd.freshB (g := gb135) (o := .cells #[.slice A0_0 l0_0.length c0_0, .slice A0_1 l0_1.length c0_1] 25 (0, 0)) (by (with_reducible repeat (first | refine blk_drewN ?_ _ | refine blk_drew ?_ | refine blk_alloc ?_ _)); exact BK135.out) k_ hk⟩) _ (Nat.le_refl _)) (Below.refl _ _) (Nat.le_refl _) (by simp) ?_; (case hd => rfl); (case hg => rfl); (case hr => first | (go_simp; done) | (go_simp; rfl)); (case hp => exact (Reps.c3 (show Kd.FK k34 _ _ (⟨4, 0, ([] : List (S34))⟩ : S34) [.int .i64 4, .int .i64 0, .slice none 0 0] from (k34_mkF _ _ (⟨4, 0, ([] : List (S34))⟩ : S34) (Nat.le_refl _) (Kd.F_nil _ _ _))) (Reps.c3 (show Kd.FK k34 _ _ (⟨4, 0, ([] : List (S34))⟩ : S34) [.int .i64 4, .int .i64 0, .slice none 0 0] from (k34_mkF _ _ (⟨4, 0, ([] : List (S34))⟩ : S34) (Nat.le_refl _) (Kd.F_nil _ _ _))) (Reps.c3 (show Kd.FK k34 _ _ (⟨28, 0, y169⟩ : S34) [.int .i64 28, .int .i64 0, .slice Ao75 y169.length co75] from (k34_mkF _ _ (⟨28, 0, y169⟩ : S34) (Kd.N_reads' (Kd.N_mono (ok' := (fun k_ => some k_ ≠ (v161 : Value).ownBlock ∧ some k_ ≠ (v167 : Value).ownBlock ∧ k_ ≠ gb135)) (HO171.out) (fun k_ hk => ⟨hk.1, ⟨hk.2.1, hk.2.2⟩⟩))).2.1 (Kd.N_F (Kd.N_mono (ok' := (fun k_ => some k_ ≠ (v161 : Value).ownBlock ∧ some k_ ≠ (v167 : Value).ownBlock ∧ k_ ≠ gb135)) (HO171.out) (fun k_ hk => ⟨hk.1, ⟨hk.2.1, hk.2.2⟩⟩))))) (Reps.none _ _))))); intro v173 w76 ho77 hb hg_ hnew_; clear hg_ hnew_; (first | rw [← Ny172.out] at ho77 | (simp only [Int.reduceToNat] at ho77; rw [← Ny172.out] at ho77)); have n0_ := Aside0.mk (Kd.N_elder' (by (with_reducible repeat (first | apply Kd.N_alloc | apply Kd.N_drewN | apply Kd.N_drew)); exact HO162.out) (Kd.N_base ho77) hb); have n1_ := Aside0.mk (Kd.N_elder' (by (with_reducible repeat (first | apply Kd.N_alloc | apply Kd.N_drewN | apply Kd.N_drew)); exact HO168.out) (Kd.N_base ho77) hb); have n2_ := Aside0.mk (Kd.N_lower ho77 (below_size (by repeat (first | (with_reducible first | exact HB.out | apply below_alloc | apply pw_below_drewN | apply below_drew1 | refine below_set ?_ GE135.out) | exact HB.out)))); have n3_ := Aside0.mk (blk_below (g := gb135) (o := .cells #[.slice A0_0 l0_0.length c0_0, .slice A0_1 l0_1.length c0_1] 25 (0, 0)) (by (with_reducible repeat (first | refine blk_drewN ?_ _ | refine blk_drew ?_ | refine blk_alloc ?_ _)); exact BK135.out) hb); have n4_ := Aside0.mk (below_step (by repeat (first | (with_reducible first | exact HB.out | apply below_alloc | apply pw_below_drewN | apply below_drew1 | refine below_set ?_ GE135.out) | exact HB.out)) hb); clear HO162; clear HO168; clear BK135; clear HB; clear HO171; have HO162 := n0_; have HO168 := n1_; have HO174 := n2_; have BK135 := n3_; have HB := n4_; clear n0_ n1_ n2_ n3_ n4_; clear hb ho77) | ((with_reducible refine gate_dst (N := 125) rfl ?_); (try (refine gate_guard (by rfl) ?_; dsimp only)); refine Kd.N_lit k34 _ 34 ?hg (N' := 125) ?hd (xs := ([(⟨26, 0, ([] : List (S34))⟩ : S34)] : List (S34))) (inner := [.int .i64 26, .int .i64 0, .slice none 0 0]) (ok := (fun k_ => some k_ ≠ (v161 : Value).ownBlock ∧ some k_ ≠ (v167 : Value).ownBlock ∧ some k_ ≠ (v173 : Value).ownBlock ∧ k_ ≠ gb135)) (okp := (fun k_ => some k_ ≠ (v161 : Value).ownBlock ∧ some k_ ≠ (v167 : Value).ownBlock ∧ some k_ ≠ (v173 : Value).ownBlock ∧ k_ ≠ gb135)) ?hr ?hp (fun _ hk => hk) ((show ∀ k_, w76.heap.size ≤ k_ → (fun k_ => some k_ ≠ (v161 : Value).ownBlock ∧ some k_ ≠ (v167 : Value).ownBlock ∧ some k_ ≠ (v173 : Value).ownBlock ∧ k_ ≠ gb135) k_ from fun k_ hk => ⟨Kd.fresh' (Kd.N_lt (by (with_reducible repeat (first | apply Kd.N_alloc | apply Kd.N_drewN | apply Kd.N_drew)); exact HO162.out)) k_ hk, Kd.fresh' (Kd.N_lt (by (with_reducible repeat (first | apply Kd.N_alloc | apply Kd.N_drewN | apply Kd.N_drew)); exact HO168.out)) k_ hk, Kd.fresh' (Kd.N_lt (by (with_reducible repeat (first | apply Kd.N_alloc | apply Kd.N_drewN | apply Kd.N_drew)); exact HO174.out)) k_ hk, Kd.freshB (g := gb135) (o := .cells #[.slice A0_0 l0_0.length c0_0, .slice A0_1 l0_1.length c0_1] 25 (0, 0)) (by (with_reducible repeat (first | refine blk_drewN ?_ _ | refine blk_drew ?_ | refine blk_alloc ?_ _)); exact BK135.out) k_ hk⟩) _ (Nat.le_refl _)) (Below.refl _ _) (Nat.le_refl _) (by simp) ?_; (case hd => rfl); (case hg => rfl); (case hr => first | (go_simp; done) | (go_simp; rfl)); (case hp => exact (Reps.c3 (show Kd.FK k34 _ _ (⟨26, 0, ([] : List (S34))⟩ : S34) [.int .i64 26, .int .i64 0, .slice none 0 0] from (k34_mkF _ _ (⟨26, 0, ([] : List (S34))⟩ : S34) (Nat.le_refl _) (Kd.F_nil _ _ _))) (Reps.none _ _))); intro v176 w78 ho79 hb hg_ hnew_; clear hg_ hnew_; (first | rw [← Ny175.out] at ho79 | (simp only [Int.reduceToNat] at ho79; rw [← Ny175.out] at ho79)); have n0_ := Aside0.mk (Kd.N_elder' (by (with_reducible repeat (first | apply Kd.N_alloc | apply Kd.N_drewN | apply Kd.N_drew)); exact HO162.out) (Kd.N_base ho79) hb); have n1_ := Aside0.mk (Kd.N_elder' (by (with_reducible repeat (first | apply Kd.N_alloc | apply Kd.N_drewN | apply Kd.N_drew)); exact HO168.out) (Kd.N_base ho79) hb); have n2_ := Aside0.mk (Kd.N_elder' (by (with_reducible repeat (first | apply Kd.N_alloc | apply Kd.N_drewN | apply Kd.N_drew)); exact HO174.out) (Kd.N_base ho79) hb); have n3_ := Aside0.mk (Kd.N_lower ho79 (below_size (by repeat (first | (with_reducible first | exact HB.out | apply below_alloc | apply pw_below_drewN | apply below_drew1 | refine below_set ?_ GE135.out) | exact HB.out)))); have n4_ := Aside0.mk (blk_below (g := gb135) (o := .cells #[.slice A0_0 l0_0.length c0_0, .slice A0_1 l0_1.length c0_1] 25 (0, 0)) (by (with_reducible repeat (first | refine blk_drewN ?_ _ | refine blk_drew ?_ | refine blk_alloc ?_ _)); exact BK135.out) hb); have n5_ := Aside0.mk (below_step (by repeat (first | (with_reducible first | exact HB.out | apply below_alloc | apply pw_below_drewN | apply below_drew1 | refine below_set ?_ GE135.out) | exact HB.out)) hb); clear HO162; clear HO168; clear HO174; clear BK135; clear HB; have HO162 := n0_; have HO168 := n1_; have HO174 := n2_; have HO177 := n3_; have BK135 := n4_; have HB := n5_; clear n0_ n1_ n2_ n3_ n4_ n5_; clear hb ho79) | ((with_reducible refine gate_dst (N := 128) rfl ?_); (try (refine gate_guard (by rfl) ?_; dsimp only)); refine Kd.N_lit k34 _ 34 ?hg (N' := 128) ?hd (xs := ([(⟨4, 0, ([] : List (S34))⟩ : S34), (⟨30, 0, ([] : List (S34))⟩ : S34)] : List (S34))) (inner := [.int .i64 4, .int .i64 0, .slice none 0 0, .int .i64 30, .int .i64 0, .slice none 0 0]) (ok := (fun k_ => some k_ ≠ (v161 : Value).ownBlock ∧ some k_ ≠ (v167 : Value).ownBlock ∧ some k_ ≠ (v173 : Value).ownBlock ∧ some k_ ≠ (v176 : Value).ownBlock ∧ k_ ≠ gb135)) (okp := (fun k_ => some k_ ≠ (v161 : Value).ownBlock ∧ some k_ ≠ (v167 : Value).ownBlock ∧ some k_ ≠ (v173 : Value).ownBlock ∧ some k_ ≠ (v176 : Value).ownBlock ∧ k_ ≠ gb135)) ?hr ?hp (fun _ hk => hk) ((show ∀ k_, w78.heap.size ≤ k_ → (fun k_ => some k_ ≠ (v161 : Value).ownBlock ∧ some k_ ≠ (v167 : Value).ownBlock ∧ some k_ ≠ (v173 : Value).ownBlock ∧ some k_ ≠ (v176 : Value).ownBlock ∧ k_ ≠ gb135) k_ from fun k_ hk => ⟨Kd.fresh' (Kd.N_lt (by (with_reducible repeat (first | apply Kd.N_alloc | apply Kd.N_drewN | apply Kd.N_drew)); exact HO162.out)) k_ hk, Kd.fresh' (Kd.N_lt (by (with_reducible repeat (first | apply Kd.N_alloc | apply Kd.N_drewN | apply Kd.N_drew)); exact HO168.out)) k_ hk, Kd.fresh' (Kd.N_lt (by (with_reducible repeat (first | apply Kd.N_alloc | apply Kd.N_drewN | apply Kd.N_drew)); exact HO174.out)) k_ hk, Kd.fresh' (Kd.N_lt (by (with_reducible repeat (first | apply Kd.N_alloc | apply Kd.N_drewN | apply Kd.N_drew)); exact HO177.out)) k_ hk, Kd.freshB (g := gb135) (o := .cells #[.slice A0_0 l0_0.length c0_0, .slice A0_1 l0_1.length c0_1] 25 (0, 0)) (by (with_reducible repeat (first | refine blk_drewN ?_ _ | refine blk_drew ?_ | refine blk_alloc ?_ _)); exact BK135.out) k_ hk⟩) _ (Nat.le_refl _)) (Below.refl _ _) (Nat.le_refl _) (by simp) ?_; (case hd => rfl); (case hg => rfl); (case hr => first | (go_simp; done) | (go_simp; rfl)); (case hp => exact (Reps.c3 (show Kd.FK k34 _ _ (⟨4, 0, ([] : List (S34))⟩ : S34) [.int .i64 4, .int .i64 0, .slice none 0 0] from (k34_mkF _ _ (⟨4, 0, ([] : List (S34))⟩ : S34) (Nat.le_refl _) (Kd.F_nil _ _ _))) (Reps.c3 (show Kd.FK k34 _ _ (⟨30, 0, ([] : List (S34))⟩ : S34) [.int .i64 30, .int .i64 0, .slice none 0 0] from (k34_mkF _ _ (⟨30, 0, ([] : List (S34))⟩ : S34) (Nat.le_refl _) (Kd.F_nil _ _ _))) (Reps.none _ _)))); intro v179 w80 ho81 hb hg_ hnew_; clear hg_ hnew_; (first | rw [← Ny178.out] at ho81 | (simp only [Int.reduceToNat] at ho81; rw [← Ny178.out] at ho81)); have n0_ := Aside0.mk (Kd.N_elder' (by (with_reducible repeat (first | apply Kd.N_alloc | apply Kd.N_drewN | apply Kd.N_drew)); exact HO162.out) (Kd.N_base ho81) hb); have n1_ := Aside0.mk (Kd.N_elder' (by (with_reducible repeat (first | apply Kd.N_alloc | apply Kd.N_drewN | apply Kd.N_drew)); exact HO168.out) (Kd.N_base ho81) hb); have n2_ := Aside0.mk (Kd.N_elder' (by (with_reducible repeat (first | apply Kd.N_alloc | apply Kd.N_drewN | apply Kd.N_drew)); exact HO174.out) (Kd.N_base ho81) hb); have n3_ := Aside0.mk (Kd.N_elder' (by (with_reducible repeat (first | apply Kd.N_alloc | apply Kd.N_drewN | apply Kd.N_drew)); exact HO177.out) (Kd.N_base ho81) hb); have n4_ := Aside0.mk (Kd.N_lower ho81 (below_size (by repeat (first | (with_reducible first | exact HB.out | apply below_alloc | apply pw_below_drewN | apply below_drew1 | refine below_set ?_ GE135.out) | exact HB.out)))); have n5_ := Aside0.mk (blk_below (g := gb135) (o := .cells #[.slice A0_0 l0_0.length c0_0, .slice A0_1 l0_1.length c0_1] 25 (0, 0)) (by (with_reducible repeat (first | refine blk_drewN ?_ _ | refine blk_drew ?_ | refine blk_alloc ?_ _)); exact BK135.out) hb); have n6_ := Aside0.mk (below_step (by repeat (first | (with_reducible first | exact HB.out | apply below_alloc | apply pw_below_drewN | apply below_drew1 | refine below_set ?_ GE135.out) | exact HB.out)) hb); clear HO162; clear HO168; clear HO174; clear HO177; clear BK135; clear HB; have HO162 := n0_; have HO168 := n1_; have HO174 := n2_; have HO177 := n3_; have HO180 := n4_; have BK135 := n5_; have HB := n6_; clear n0_ n1_ n2_ n3_ n4_ n5_ n6_; clear hb ho81; obtain ⟨Ao82, co82, eo82⟩ := Kd.N_slice HO162.out; subst eo82; obtain ⟨Ao83, co83, eo83⟩ := Kd.N_slice HO168.out; subst eo83; obtain ⟨Ao84, co84, eo84⟩ := Kd.N_slice HO174.out; subst eo84; obtain ⟨Ao85, co85, eo85⟩ := Kd.N_slice HO177.out; subst eo85; obtain ⟨Ao86, co86, eo86⟩ := Kd.N_slice HO180.out; subst eo86) | ((with_reducible refine gate_dst (N := 129) rfl ?_); (try (refine gate_guard (by rfl) ?_; dsimp only)); refine Kd.N_lit (Kd.slice 34 k34) _ 23 ?hg (N' := 129) ?hd (xs := ([y160, y166, y172, y175, y178] : List (List (S34)))) (inner := [.slice Ao82 y160.length co82, .slice Ao83 y166.length co83, .slice Ao84 y172.length co84, .slice Ao85 y175.length co85, .slice Ao86 y178.length co86]) (ok := (fun k_ => k_ ≠ gb135)) (okp := (fun k_ => k_ ≠ gb135)) ?hr ?hp (fun _ hk => hk) ((show ∀ k_, w80.heap.size ≤ k_ → (fun k_ => k_ ≠ gb135) k_ from fun k_ hk => Kd.freshB (g := gb135) (o := .cells #[.slice A0_0 l0_0.length c0_0, .slice A0_1 l0_1.length c0_1] 25 (0, 0)) (by (with_reducible repeat (first | refine blk_drewN ?_ _ | refine blk_drew ?_ | refine blk_alloc ?_ _)); exact BK135.out) k_ hk) _ (Nat.le_refl _)) (Below.refl _ _) (Nat.le_refl _) (by simp) ?_; (case hd => rfl); (case hg => rfl); (case hr => first | (go_simp; done) | (go_simp; rfl)); (case hp => exact (Reps.one (show Kd.FK (Kd.slice 34 k34) _ _ y160 [.slice Ao82 y160.length co82] from (Kd.FK_slice_mk (Kd.N_reads' (Kd.N_mono (ok' := (fun k_ => k_ ≠ gb135)) (HO162.out) (fun k_ hk => hk.1.1.1.1.1.1))).2.1 (Kd.N_F (Kd.N_mono (ok' := (fun k_ => k_ ≠ gb135)) (HO162.out) (fun k_ hk => hk.1.1.1.1.1.1))))) (Reps.one (show Kd.FK (Kd.slice 34 k34) _ _ y166 [.slice Ao83 y166.length co83] from (Kd.FK_slice_mk (Kd.N_reads' (Kd.N_mono (ok' := (fun k_ => k_ ≠ gb135)) (HO168.out) (fun k_ hk => hk.1.1.1.1.2))).2.1 (Kd.N_F (Kd.N_mono (ok' := (fun k_ => k_ ≠ gb135)) (HO168.out) (fun k_ hk => hk.1.1.1.1.2))))) (Reps.one (show Kd.FK (Kd.slice 34 k34) _ _ y172 [.slice Ao84 y172.length co84] from (Kd.FK_slice_mk (Kd.N_reads' (Kd.N_mono (ok' := (fun k_ => k_ ≠ gb135)) (HO174.out) (fun k_ hk => hk.1.1.2.2))).2.1 (Kd.N_F (Kd.N_mono (ok' := (fun k_ => k_ ≠ gb135)) (HO174.out) (fun k_ hk => hk.1.1.2.2))))) (Reps.one (show Kd.FK (Kd.slice 34 k34) _ _ y175 [.slice Ao85 y175.length co85] from (Kd.FK_slice_mk (Kd.N_reads' (Kd.N_mono (ok' := (fun k_ => k_ ≠ gb135)) (HO177.out) (fun k_ hk => hk.1.2.2.2))).2.1 (Kd.N_F (Kd.N_mono (ok' := (fun k_ => k_ ≠ gb135)) (HO177.out) (fun k_ hk => hk.1.2.2.2))))) (Reps.one (show Kd.FK (Kd.slice 34 k34) _ _ y178 [.slice Ao86 y178.length co86] from (Kd.FK_slice_mk (Kd.N_reads' (Kd.N_mono (ok' := (fun k_ => k_ ≠ gb135)) (HO180.out) (fun k_ hk => hk.2.2.2.2))).2.1 (Kd.N_F (Kd.N_mono (ok' := (fun k_ => k_ ≠ gb135)) (HO180.out) (fun k_ hk => hk.2.2.2.2))))) (Reps.none _ _))))))); intro v182 w87 ho88 hb hg_ hnew_; clear hg_ hnew_; (first | rw [← Ny181.out] at ho88 | (simp only [Int.reduceToNat] at ho88; rw [← Ny181.out] at ho88)); have n0_ := Aside0.mk (Kd.N_lower ho88 (below_size (by repeat (first | (with_reducible first | exact HB.out | apply below_alloc | apply pw_below_drewN | apply below_drew1 | refine below_set ?_ GE135.out) | exact HB.out)))); have n1_ := Aside0.mk (blk_below (g := gb135) (o := .cells #[.slice A0_0 l0_0.length c0_0, .slice A0_1 l0_1.length c0_1] 25 (0, 0)) (by (with_reducible repeat (first | refine blk_drewN ?_ _ | refine blk_drew ?_ | refine blk_alloc ?_ _)); exact BK135.out) hb); have n2_ := Aside0.mk (below_step (by repeat (first | (with_reducible first | exact HB.out | apply below_alloc | apply pw_below_drewN | apply below_drew1 | refine below_set ?_ GE135.out) | exact HB.out)) hb); clear BK135; clear HB; clear HO162; clear HO168; clear HO174; clear HO177; clear HO180; have HO183 := n0_; have BK135 := n1_; have HB := n2_; clear n0_ n1_ n2_; clear hb ho88))
              go_loopg [16] kj14 (fun kq v16 w' => ∃ (x16_3 : Int), v16 = .int .i64 x16_3 ∧ Aside0 (thresherlaw7_CheckParts.l1 kq y181 x16_3 = some r) ∧ Aside0 (kq ≤ kj14) ∧ Aside0 (Kd.N (Kd.slice 34 k34) 23 w' w.heap.size (fun k_ => k_ ≠ gb135) v182 y181) ∧ Aside0 (w'.heap[gb135]? = some (.cells #[(.slice A0_0 l0_0.length c0_0), (.slice A0_1 l0_1.length c0_1)] 25 (0, 0))) ∧ Aside0 (Below w.heap.size w w'))
              case atStart => exact ⟨(0), (by first | rfl | (simp; done) | (simp [*]; done)), H', ⟨Nat.le_refl _⟩, ⟨by (with_reducible repeat (first | apply Kd.N_alloc | apply Kd.N_drewN | apply Kd.N_drew)); exact HO183.out⟩, ⟨by (with_reducible repeat (first | refine blk_drewN ?_ _ | refine blk_drew ?_ | refine blk_alloc ?_ _)); exact BK135.out⟩, ⟨by repeat (first | (with_reducible first | exact HB.out | apply below_alloc | apply pw_below_drewN | apply below_drew1 | refine below_set ?_ GE135.out) | exact HB.out)⟩⟩
              case round =>
                clear H'
                try clear c1
                try clear c2
                try clear p2
                try clear c3
                try clear q3
                try clear c4
                try clear c5
                try clear p6
                try clear c14
                try clear c15
                try clear c16
                try clear c16b0
                try clear c17
                try clear c17b0
                try clear c21
                try clear c22
                try clear c22b0
                try clear c22b1
                try clear c23
                try clear c23b0
                try clear c23b1
                try clear c25
                try clear c25b0
                try clear c26
                try clear c26b0
                try clear q30
                try clear c33
                try clear q33
                try clear c36
                try clear c36b0
                try clear c36b1
                try clear c38
                try clear c40
                try clear c40b0
                try clear c42
                try clear c42b0
                try clear c42b1
                try clear c48
                try clear c48b0
                try clear c48b1
                try clear c49
                try clear c49b0
                try clear c49b1
                try clear c51
                try clear c51b0
                try clear c51b1
                try clear c52
                try clear c52b0
                try clear c55
                try clear c55b0
                try clear p64
                try clear hcz11_0
                try clear hcz11_1
                try clear hcz13_0
                try clear hcz13_1
                try clear hcz18_0
                try clear hcz18_1
                try clear hcz19_0
                try clear hcz19_1
                try clear hcz20_0
                try clear hcz20_1
                try clear hcz29_0
                try clear hcz29_1
                try clear hcz32_0
                try clear hcz32_1
                try clear hcz43_0
                try clear hcz43_1
                try clear hcz45_0
                try clear hcz45_1
                try clear hcz53_0
                try clear hcz53_1
                try clear hcz56_0
                try clear hcz56_1
                try clear hcz58_0
                try clear hcz58_1
                try clear hcz60_0
                try clear hcz60_1
                try clear hcz62_0
                try clear hcz62_1
                try clear hcz64_0
                try clear hcz64_1
                try clear hcz6_0
                try clear hcz6_1
                try clear hcz8_0
                try clear hcz8_1
                try clear hfz11_0
                try clear hfz11_1
                try clear hfz13_0
                try clear hfz13_1
                try clear hfz18_0
                try clear hfz18_1
                try clear hfz19_0
                try clear hfz19_1
                try clear hfz20_0
                try clear hfz20_1
                try clear hfz29_0
                try clear hfz29_1
                try clear hfz32_0
                try clear hfz32_1
                try clear hfz43_0
                try clear hfz43_1
                try clear hfz45_0
                try clear hfz45_1
                try clear hfz53_0
                try clear hfz53_1
                try clear hfz56_0
                try clear hfz56_1
                try clear hfz58_0
                try clear hfz58_1
                try clear hfz60_0
                try clear hfz60_1
                try clear hfz62_0
                try clear hfz62_1
                try clear hfz64_0
                try clear hfz64_1
                try clear hfz6_0
                try clear hfz6_1
                try clear hfz8_0
                try clear hfz8_1
                try clear p2
                try clear q033
                try clear q3
                try clear q30
                try clear q33
                obtain ⟨x16_3, rfl, HA, HK3, HO_15, BK135, HB⟩ := hrel
                cases gk with
                | zero => exact absurd HA.out (by simp [thresherlaw7_CheckParts.l1])
                | succ k3 =>
                  have H := HA.out
                  clear HA
                  simp only [thresherlaw7_CheckParts.l1] at H
                  by_cases c89 : x16_3 < (y181.length : Int)
                  · rw [if_pos c89] at H
                    have c89b0 : decide (x16_3 < (y181.length : Int)) = true := decide_eq_true c89
                    clear c89
                    by_cases c90 : 0 ≤ x16_3
                    · rw [if_pos c90] at H
                      have c90b0 : decide (0 ≤ x16_3) = true := decide_eq_true c90
                      clear c90
                      replace H := Option.bind_eq_some_iff.mp H
                      obtain ⟨⟨t187, t188, t189⟩, A910, H⟩ := H
                      replace H : ((thresherlaw7_num.f t189).bind fun t190 => (if t190 = 9 then (thresherlaw7_CheckParts.l1 k3 y181 (wrap64 (x16_3 + 1))) else (some false))) = some r := H
                      have A91 := Aside0.mk A910
                      clear A910
                      replace H := Option.bind_eq_some_iff.mp H
                      obtain ⟨t190, A920, H⟩ := H
                      replace H : (if t190 = 9 then (thresherlaw7_CheckParts.l1 k3 y181 (wrap64 (x16_3 + 1))) else (some false)) = some r := H
                      have A92 := Aside0.mk A920
                      clear A920
                      by_cases c93 : t190 = 9
                      · rw [if_pos c93] at H
                        have c93b0 : (t190 == 9) = true := beq_iff_eq.mpr c93
                        have c93b1 : (t190 != 9) = false := bne_eq_false_iff_eq.mpr c93
                        clear c93
                        have H' := Aside0.mk H
                        clear H
                        obtain ⟨Ao94, co94, eo94⟩ := Kd.N_slice HO_15.out
                        subst eo94
                        have p186 : 0 ≤ (x16_3 : Int) := of_decide_eq_true (by first | (with_reducible assumption) | assumption)
                        have q186 : x16_3 < (y181.length : Int) := of_decide_eq_true (by first | (with_reducible assumption) | assumption)
                        obtain ⟨ad186, A186_0, c186_0, e186, hx186_0, hl186_0, hi186_0⟩ := at_L3 (Kd.N_reads' HO_15.out).2.2 x16_3 p186 q186
                        cases e186
                        obtain ⟨ce186, hce186, hMe186, hcc186⟩ := Kd.N_get HO_15.out [] x16_3 p186 (by first | exact q186 | exact of_decide_eq_true (by first | (with_reducible assumption) | assumption) | (have e_ := (Kd.N_reads' HO_15.out).1; omega))
                        obtain ⟨ua186_0, uc186_0, rfl, ul186_0, ge186_0⟩ := Kd.FK_slice_open hMe186
                        have hv186_0 := hcc186 0 _ rfl
                        rw [Nat.add_zero, show ((Kd.slice 34 k34)).sz = 1 from rfl, Nat.mul_one] at hv186_0
                        replace hv186_0 := Option.some.inj (hv186_0.symm.trans hx186_0)
                        injection hv186_0 with hva_ hvn_ hvc_
                        rw [hva_] at ge186_0
                        rw [hvc_] at ul186_0
                        have HL186_0 := Aside0.mk (show Kd.V k34 34 _ w.heap.size _ _ (rd_L3 y181 x16_3) from Kd.V_mk ul186_0 ge186_0)
                        clear hva_ hvn_ hvc_ ge186_0 ul186_0
                        clear hcc186 hce186
                        have HR186_0 := Aside0.mk hi186_0
                        have HC186_0 := Aside0.mk hl186_0
                        clear hi186_0 hl186_0
                        replace p186 := eq_true p186
                        replace q186 := eq_true q186
                        go_wp2_with (first | ((with_reducible refine gate_callee (f := 16) rfl ?_); refine goesL_ (some 141) rfl rfl Try.func16 (by kernel_rfl) rfl #[.slice A186_0 (rd_L3 y181 x16_3).length c186_0] rfl (by (try simp only [List.map_toArray, List.map_cons, List.map_nil]); first | done | rfl | (simp only [List.length_drop, List.length_take]; rfl)) ?_; (with_reducible refine (check_Need.calls k3 _ _ (rd_L3 y181 x16_3) t187 t188 t189 _ ?side1 ?side2 A91.out).mono ?_); (case side1 => repeat (first | exact (by repeat (first | (with_reducible exact HR186_0.out) | (with_reducible refine Kd.C_alloc ?_ _) | (with_reducible refine Kd.C_drewN ?_ _) | (with_reducible refine Kd.C_drew ?_) | exact HR186_0.out)) | (with_reducible refine Kd.C_alloc ?_ _) | (with_reducible refine Kd.C_drewN ?_ _) | (with_reducible refine Kd.C_drew ?_))); (case side2 => exact HC186_0.out); rintro e w95 ⟨rfl, hb⟩; refine ⟨_, rfl, ?_⟩; have n0_ := Aside0.mk (Kd.N_below (by (with_reducible repeat (first | apply Kd.N_alloc | apply Kd.N_drewN | apply Kd.N_drew)); exact HO_15.out) hb); have n1_ := Aside0.mk (Kd.V_below (by (with_reducible repeat (first | apply Kd.V_alloc | apply Kd.V_drewN | apply Kd.V_drew)); exact HL186_0.out) hb); have n2_ := Aside0.mk (blk_below (g := gb135) (o := .cells #[.slice A0_0 l0_0.length c0_0, .slice A0_1 l0_1.length c0_1] 25 (0, 0)) (by (with_reducible repeat (first | refine blk_drewN ?_ _ | refine blk_drew ?_ | refine blk_alloc ?_ _)); exact BK135.out) hb); have n3_ := Aside0.mk (Kd.C_below (by repeat (first | (with_reducible exact HR186_0.out) | (with_reducible refine Kd.C_alloc ?_ _) | (with_reducible refine Kd.C_drewN ?_ _) | (with_reducible refine Kd.C_drew ?_) | exact HR186_0.out)) hb); have n4_ := Aside0.mk (below_step (by repeat (first | (with_reducible first | exact HB.out | apply below_alloc | apply pw_below_drewN | apply below_drew1 | refine below_set ?_ GE135.out) | exact HB.out)) hb); clear HO_15; clear HL186_0; clear BK135; clear HR186_0; clear HB; have HO_15 := n0_; have HL186_0 := n1_; have BK135 := n2_; have HR186_0 := n3_; have HB := n4_; clear n0_ n1_ n2_ n3_ n4_; (try clear hb); (try clear hb2); (try clear hk); (try clear hi)) | ((with_reducible refine gate_callee (f := 17) rfl ?_); refine goesL_ (some 146) rfl rfl Try.func17 (by kernel_rfl) rfl #[.int .i64 t189] rfl (by (try simp only [List.map_toArray, List.map_cons, List.map_nil]); first | done | rfl | (simp only [List.length_drop, List.length_take]; rfl)) ?_; (with_reducible refine (thresherlaw7_num.calls t189 t190 _ A92.out).mono ?_); rintro e w' ⟨rfl, ⟨nd, rfl⟩⟩; refine ⟨_, rfl, ?_⟩))
                        go_roundg k3
                        case measure => have := HK1.out; have := HJ14.out; have := HK3.out; omega
                        case rel => exact ⟨(wrap64 (x16_3 + 1)), (by first | rfl | (simp; done) | (simp [*]; done)), H', ⟨by have := HK1.out; have := HJ14.out; have := HK3.out; omega⟩, ⟨by (with_reducible repeat (first | apply Kd.N_alloc | apply Kd.N_drewN | apply Kd.N_drew)); exact HO_15.out⟩, ⟨by (with_reducible repeat (first | refine blk_drewN ?_ _ | refine blk_drew ?_ | refine blk_alloc ?_ _)); exact BK135.out⟩, ⟨by repeat (first | (with_reducible first | exact HB.out | apply below_alloc | apply pw_below_drewN | apply below_drew1 | refine below_set ?_ GE135.out) | exact HB.out)⟩⟩
                      · rw [if_neg c93] at H
                        have c93b0 : (t190 == 9) = false := beq_eq_false_iff_ne.mpr c93
                        have c93b1 : (t190 != 9) = true := bne_iff_ne.mpr c93
                        obtain rfl := Option.some.inj H
                        obtain ⟨Ao96, co96, eo96⟩ := Kd.N_slice HO_15.out
                        subst eo96
                        have p186 : 0 ≤ (x16_3 : Int) := of_decide_eq_true (by first | (with_reducible assumption) | assumption)
                        have q186 : x16_3 < (y181.length : Int) := of_decide_eq_true (by first | (with_reducible assumption) | assumption)
                        obtain ⟨ad186, A186_0, c186_0, e186, hx186_0, hl186_0, hi186_0⟩ := at_L3 (Kd.N_reads' HO_15.out).2.2 x16_3 p186 q186
                        cases e186
                        obtain ⟨ce186, hce186, hMe186, hcc186⟩ := Kd.N_get HO_15.out [] x16_3 p186 (by first | exact q186 | exact of_decide_eq_true (by first | (with_reducible assumption) | assumption) | (have e_ := (Kd.N_reads' HO_15.out).1; omega))
                        obtain ⟨ua186_0, uc186_0, rfl, ul186_0, ge186_0⟩ := Kd.FK_slice_open hMe186
                        have hv186_0 := hcc186 0 _ rfl
                        rw [Nat.add_zero, show ((Kd.slice 34 k34)).sz = 1 from rfl, Nat.mul_one] at hv186_0
                        replace hv186_0 := Option.some.inj (hv186_0.symm.trans hx186_0)
                        injection hv186_0 with hva_ hvn_ hvc_
                        rw [hva_] at ge186_0
                        rw [hvc_] at ul186_0
                        have HL186_0 := Aside0.mk (show Kd.V k34 34 _ w.heap.size _ _ (rd_L3 y181 x16_3) from Kd.V_mk ul186_0 ge186_0)
                        clear hva_ hvn_ hvc_ ge186_0 ul186_0
                        clear hcc186 hce186
                        have HR186_0 := Aside0.mk hi186_0
                        have HC186_0 := Aside0.mk hl186_0
                        clear hi186_0 hl186_0
                        replace p186 := eq_true p186
                        replace q186 := eq_true q186
                        go_wp2_with (first | ((with_reducible refine gate_callee (f := 16) rfl ?_); refine goesL_ (some 141) rfl rfl Try.func16 (by kernel_rfl) rfl #[.slice A186_0 (rd_L3 y181 x16_3).length c186_0] rfl (by (try simp only [List.map_toArray, List.map_cons, List.map_nil]); first | done | rfl | (simp only [List.length_drop, List.length_take]; rfl)) ?_; (with_reducible refine (check_Need.calls k3 _ _ (rd_L3 y181 x16_3) t187 t188 t189 _ ?side1 ?side2 A91.out).mono ?_); (case side1 => repeat (first | exact (by repeat (first | (with_reducible exact HR186_0.out) | (with_reducible refine Kd.C_alloc ?_ _) | (with_reducible refine Kd.C_drewN ?_ _) | (with_reducible refine Kd.C_drew ?_) | exact HR186_0.out)) | (with_reducible refine Kd.C_alloc ?_ _) | (with_reducible refine Kd.C_drewN ?_ _) | (with_reducible refine Kd.C_drew ?_))); (case side2 => exact HC186_0.out); rintro e w97 ⟨rfl, hb⟩; refine ⟨_, rfl, ?_⟩; have n0_ := Aside0.mk (Kd.N_below (by (with_reducible repeat (first | apply Kd.N_alloc | apply Kd.N_drewN | apply Kd.N_drew)); exact HO_15.out) hb); have n1_ := Aside0.mk (Kd.V_below (by (with_reducible repeat (first | apply Kd.V_alloc | apply Kd.V_drewN | apply Kd.V_drew)); exact HL186_0.out) hb); have n2_ := Aside0.mk (blk_below (g := gb135) (o := .cells #[.slice A0_0 l0_0.length c0_0, .slice A0_1 l0_1.length c0_1] 25 (0, 0)) (by (with_reducible repeat (first | refine blk_drewN ?_ _ | refine blk_drew ?_ | refine blk_alloc ?_ _)); exact BK135.out) hb); have n3_ := Aside0.mk (Kd.C_below (by repeat (first | (with_reducible exact HR186_0.out) | (with_reducible refine Kd.C_alloc ?_ _) | (with_reducible refine Kd.C_drewN ?_ _) | (with_reducible refine Kd.C_drew ?_) | exact HR186_0.out)) hb); have n4_ := Aside0.mk (below_step (by repeat (first | (with_reducible first | exact HB.out | apply below_alloc | apply pw_below_drewN | apply below_drew1 | refine below_set ?_ GE135.out) | exact HB.out)) hb); clear HO_15; clear HL186_0; clear BK135; clear HR186_0; clear HB; have HO_15 := n0_; have HL186_0 := n1_; have BK135 := n2_; have HR186_0 := n3_; have HB := n4_; clear n0_ n1_ n2_ n3_ n4_; (try clear hb); (try clear hb2); (try clear hk); (try clear hi)) | ((with_reducible refine gate_callee (f := 17) rfl ?_); refine goesL_ (some 146) rfl rfl Try.func17 (by kernel_rfl) rfl #[.int .i64 t189] rfl (by (try simp only [List.map_toArray, List.map_cons, List.map_nil]); first | done | rfl | (simp only [List.length_drop, List.length_take]; rfl)) ?_; (with_reducible refine (thresherlaw7_num.calls t189 t190 _ A92.out).mono ?_); rintro e w' ⟨rfl, ⟨nd, rfl⟩⟩; refine ⟨_, rfl, ?_⟩))
                        go_ret
                        exact ⟨by first | rfl | (simp [errW_none, errW_some] <;> rfl) | (simp [*, errW_none, errW_some] <;> rfl), by repeat (first | (with_reducible first | exact HB.out | apply below_alloc | apply pw_below_drewN | apply below_drew1 | refine below_set ?_ GE135.out) | exact HB.out)⟩
                    · rw [if_neg c90] at H
                      exact absurd H (by simp)
                  · rw [if_neg c89] at H
                    have c89b0 : decide (x16_3 < (y181.length : Int)) = false := decide_eq_false c89
                    clear c89
                    replace H := Option.bind_eq_some_iff.mp H
                    obtain ⟨t184, A980, H⟩ := H
                    replace H : (if t184 = 1 then ((thresherlaw7_wakes.f k3).bind fun t185 => (some t185)) else (some false)) = some r := H
                    have A98 := Aside0.mk A980
                    clear A980
                    by_cases c99 : t184 = 1
                    · rw [if_pos c99] at H
                      have c99b0 : (t184 == 1) = true := beq_iff_eq.mpr c99
                      have c99b1 : (t184 != 1) = false := bne_eq_false_iff_eq.mpr c99
                      clear c99
                      replace H := Option.bind_eq_some_iff.mp H
                      obtain ⟨t185, A1000, H⟩ := H
                      replace H : (some t185) = some r := H
                      have A100 := Aside0.mk A1000
                      clear A1000
                      obtain rfl := Option.some.inj H
                      obtain ⟨Ao101, co101, eo101⟩ := Kd.N_slice HO_15.out
                      subst eo101
                      go_wp2_with (first | ((with_reducible refine gate_callee (f := 18) rfl ?_); refine goesL_ (some 148) rfl rfl Try.func18 (by kernel_rfl) rfl #[.int .i64 3, .int .i64 2] rfl (by (try simp only [List.map_toArray, List.map_cons, List.map_nil]); first | done | rfl | (simp only [List.length_drop, List.length_take]; rfl)) ?_; (with_reducible refine (thresherlaw0_Within.calls 3 2 t184 _ A98.out).mono ?_); rintro e w' ⟨rfl, ⟨nd, rfl⟩⟩; refine ⟨_, rfl, ?_⟩) | (go_at_call 19; (with_reducible refine (thresherlaw7_wakes.calls k3  t185 _ A100.out).mono ?_); rintro e w102 ⟨rfl, hb⟩; have n0_ := Aside0.mk (Kd.N_below (by (with_reducible repeat (first | apply Kd.N_alloc | apply Kd.N_drewN | apply Kd.N_drew)); exact HO_15.out) hb); have n1_ := Aside0.mk (blk_below (g := gb135) (o := .cells #[.slice A0_0 l0_0.length c0_0, .slice A0_1 l0_1.length c0_1] 25 (0, 0)) (by (with_reducible repeat (first | refine blk_drewN ?_ _ | refine blk_drew ?_ | refine blk_alloc ?_ _)); exact BK135.out) hb); have n2_ := Aside0.mk (below_step (by repeat (first | (with_reducible first | exact HB.out | apply below_alloc | apply pw_below_drewN | apply below_drew1 | refine below_set ?_ GE135.out) | exact HB.out)) hb); clear HO_15; clear BK135; clear HB; have HO_15 := n0_; have BK135 := n1_; have HB := n2_; clear n0_ n1_ n2_; (try clear hb); (try clear hb2); (try clear hk); (try clear hi)))
                      go_ret
                      exact ⟨by first | rfl | (simp [errW_none, errW_some] <;> rfl) | (simp [*, errW_none, errW_some] <;> rfl), by repeat (first | (with_reducible first | exact HB.out | apply below_alloc | apply pw_below_drewN | apply below_drew1 | refine below_set ?_ GE135.out) | exact HB.out)⟩
                    · rw [if_neg c99] at H
                      have c99b0 : (t184 == 1) = false := beq_eq_false_iff_ne.mpr c99
                      have c99b1 : (t184 != 1) = true := bne_iff_ne.mpr c99
                      obtain rfl := Option.some.inj H
                      obtain ⟨Ao103, co103, eo103⟩ := Kd.N_slice HO_15.out
                      subst eo103
                      go_wp2_with (first | ((with_reducible refine gate_callee (f := 18) rfl ?_); refine goesL_ (some 148) rfl rfl Try.func18 (by kernel_rfl) rfl #[.int .i64 3, .int .i64 2] rfl (by (try simp only [List.map_toArray, List.map_cons, List.map_nil]); first | done | rfl | (simp only [List.length_drop, List.length_take]; rfl)) ?_; (with_reducible refine (thresherlaw0_Within.calls 3 2 t184 _ A98.out).mono ?_); rintro e w' ⟨rfl, ⟨nd, rfl⟩⟩; refine ⟨_, rfl, ?_⟩))
                      go_ret
                      exact ⟨by first | rfl | (simp [errW_none, errW_some] <;> rfl) | (simp [*, errW_none, errW_some] <;> rfl), by repeat (first | (with_reducible first | exact HB.out | apply below_alloc | apply pw_below_drewN | apply below_drew1 | refine below_set ?_ GE135.out) | exact HB.out)⟩

end Go.Proofs.Ytchgjkfnmifgkaa.QE
