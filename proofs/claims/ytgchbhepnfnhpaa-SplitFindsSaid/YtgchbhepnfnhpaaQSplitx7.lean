-- Printed for this claim by a turned copy of the kit's print (wip/patch_print.py): a text of this session.
import Derived.Test.YtgchbhepnfnhpaaQSplitx0
import Derived.Test.YtgchbhepnfnhpaaSteps
import Derived.Test.YtgchbhepnfnhpaaQSplitx6
import Derived.Lib.SliceRun
namespace Go.Proofs.Ytgchbhepnfnhpaa.QSplit
open Go.RowKit Go.Proofs.YtgchbhepnfnhpaaW.PrintWords Go.Proofs.YtgchbhepnfnhpaaW.PrintLast Go.Proofs.YtgchbhepnfnhpaaW.PrintMore Go.Proofs.Ytgchbhepnfnhpaa.Steps
attribute [local go_sem] max2_int min2_int max_two min_two max_three min_three max_four min_four   -- for this text's walks alone
set_option linter.unusedVariables false
set_option linter.unusedSimpArgs false

/-! ### split_Check: function 28 -/
mutual
def split_Check.j0 : Nat → Bool → Int → List (S61) → Int → Int → Option (Int)
 | 0, _, _, _, _, _ => none
 | k + 1, x3, x182000, x182001, x182002, x182003 => if x3 = true then (if x182002 ≥ 1 then (if x182002 ≤ 16 then (if x182003 ≥ 16 then (if x182003 ≤ 64 then (split_Check.j1 k (decide (x182003 ≥ (wrap64 (2 * x182002)))) x182000 x182001 x182002 x182003) else (split_Check.j1 k false x182000 x182001 x182002 x182003)) else (split_Check.j1 k false x182000 x182001 x182002 x182003)) else (split_Check.j1 k false x182000 x182001 x182002 x182003)) else (split_Check.j1 k false x182000 x182001 x182002 x182003)) else (split_Check.j1 k false x182000 x182001 x182002 x182003)
def split_Check.j1 : Nat → Bool → Int → List (S61) → Int → Int → Option (Int)
 | 0, _, _, _, _, _ => none
 | k + 1, x3, x182000, x182001, x182002, x182003 => if x3 = true then (if 0 ≤ (x182001.length : Int) then (if ((x182001.length : Int) : Int).toNat ≤ 35184372088832 then (split_Check.l0 k (List.replicate ((x182001.length : Int) : Int).toNat 0) x182001 (x182001.length : Int) 0 x182000 x182001 x182002 x182003) else (none)) else (none)) else (some 1)
def split_Check.l0 : Nat → List Int → List (S61) → Int → Int → Int → List (S61) → Int → Int → Option (Int)
 | 0, _, _, _, _, _, _, _, _ => none
 | k + 1, x4, x57, x58, x59, x182000, x182001, x182002, x182003 => if x59 < x58 then (if 0 ≤ x59 then (if x59 < (x57.length : Int) then (if x59 < (x4.length : Int) then ((split_may.f k ((rd_T61 x57 x59).f0) ((rd_T61 x57 x59).f1) ((rd_T61 x57 x59).f2) x182000).bind fun t188 => (if t188 = true then (split_Check.l0 k (x4.set (x59 : Int).toNat ((rd_T61 x57 x59).f0)) x57 x58 (wrap64 (x59 + 1)) x182000 x182001 x182002 x182003) else (some 1))) else (none)) else (none)) else (none)) else ((split_Rising.f k x4 1048576).bind fun t189 => (if t189 = true then (some 0) else (some 1)))
end
def split_Check.f (k : Nat) (a0_0 : Int) (l0_1 : List (S61)) (a0_2 : Int) (a0_3 : Int) : Option (Int) := if a0_0 ≥ 1 then (if a0_0 ≤ 3 then (split_Check.j0 k (decide ((l0_1.length : Int) ≤ 6)) a0_0 l0_1 a0_2 a0_3) else (split_Check.j0 k false a0_0 l0_1 a0_2 a0_3)) else (split_Check.j0 k false a0_0 l0_1 a0_2 a0_3)
theorem split_Check.mono_l : ∀ k, (∀ y0 y1 y2 y3 y4, LeO (split_Check.j0 k y0 y1 y2 y3 y4) (split_Check.j0 (k + 1) y0 y1 y2 y3 y4)) ∧ (∀ y0 y1 y2 y3 y4, LeO (split_Check.j1 k y0 y1 y2 y3 y4) (split_Check.j1 (k + 1) y0 y1 y2 y3 y4)) ∧ (∀ y0 y1 y2 y3 y4 y5 y6 y7, LeO (split_Check.l0 k y0 y1 y2 y3 y4 y5 y6 y7) (split_Check.l0 (k + 1) y0 y1 y2 y3 y4 y5 y6 y7))
 | 0 => ⟨fun _ _ _ _ _ r h => by simp [split_Check.j0] at h, fun _ _ _ _ _ r h => by simp [split_Check.j1] at h, fun _ _ _ _ _ _ _ _ r h => by simp [split_Check.l0] at h⟩
 | k + 1 => by
  obtain ⟨ih0, ih1, ih2⟩ := split_Check.mono_l k
  refine ⟨?_, ?_, ?_⟩
  ·
   intro y0 y1 y2 y3 y4
   unfold split_Check.j0
   repeat' first
   | (with_reducible exact ih0 _ _ _ _ _)
   | (with_reducible exact ih1 _ _ _ _ _)
   | (with_reducible exact ih2 _ _ _ _ _ _ _ _)
   | (with_reducible exact split_Rising.mono _ _ _)
   | (with_reducible exact split_may.mono _ _ _ _ _)
   | (with_reducible exact LeO.refl _)
   | (with_reducible exact LeO.none _)
   | (with_reducible refine LeO.ite ?_ ?_)
   | (with_reducible refine LeO.bind ?_ (fun _ => ?_))
   | exact ih0 _ _ _ _ _
   | exact ih1 _ _ _ _ _
   | exact ih2 _ _ _ _ _ _ _ _
   | exact split_Rising.mono _ _ _
   | exact split_may.mono _ _ _ _ _
   | exact LeO.none _
   | refine LeO.ite ?_ ?_
   | refine LeO.bind ?_ (fun _ => ?_)
  ·
   intro y0 y1 y2 y3 y4
   unfold split_Check.j1
   repeat' first
   | (with_reducible exact ih0 _ _ _ _ _)
   | (with_reducible exact ih1 _ _ _ _ _)
   | (with_reducible exact ih2 _ _ _ _ _ _ _ _)
   | (with_reducible exact split_Rising.mono _ _ _)
   | (with_reducible exact split_may.mono _ _ _ _ _)
   | (with_reducible exact LeO.refl _)
   | (with_reducible exact LeO.none _)
   | (with_reducible refine LeO.ite ?_ ?_)
   | (with_reducible refine LeO.bind ?_ (fun _ => ?_))
   | exact ih0 _ _ _ _ _
   | exact ih1 _ _ _ _ _
   | exact ih2 _ _ _ _ _ _ _ _
   | exact split_Rising.mono _ _ _
   | exact split_may.mono _ _ _ _ _
   | exact LeO.none _
   | refine LeO.ite ?_ ?_
   | refine LeO.bind ?_ (fun _ => ?_)
  ·
   intro y0 y1 y2 y3 y4 y5 y6 y7
   unfold split_Check.l0
   repeat' first
   | (with_reducible exact ih0 _ _ _ _ _)
   | (with_reducible exact ih1 _ _ _ _ _)
   | (with_reducible exact ih2 _ _ _ _ _ _ _ _)
   | (with_reducible exact split_Rising.mono _ _ _)
   | (with_reducible exact split_may.mono _ _ _ _ _)
   | (with_reducible exact LeO.refl _)
   | (with_reducible exact LeO.none _)
   | (with_reducible refine LeO.ite ?_ ?_)
   | (with_reducible refine LeO.bind ?_ (fun _ => ?_))
   | exact ih0 _ _ _ _ _
   | exact ih1 _ _ _ _ _
   | exact ih2 _ _ _ _ _ _ _ _
   | exact split_Rising.mono _ _ _
   | exact split_may.mono _ _ _ _ _
   | exact LeO.none _
   | refine LeO.ite ?_ ?_
   | refine LeO.bind ?_ (fun _ => ?_)
theorem split_Check.mono : ∀ a0 a1 a2 a3 k, LeO (split_Check.f k a0 a1 a2 a3) (split_Check.f (k + 1) a0 a1 a2 a3) := by
 intro a0 a1 a2 a3 k
 obtain ⟨ih0, ih1, ih2⟩ := split_Check.mono_l k
 unfold split_Check.f
 repeat' first
   | (with_reducible exact ih0 _ _ _ _ _)
   | (with_reducible exact ih1 _ _ _ _ _)
   | (with_reducible exact ih2 _ _ _ _ _ _ _ _)
   | (with_reducible exact split_Rising.mono _ _ _)
   | (with_reducible exact split_may.mono _ _ _ _ _)
   | (with_reducible exact LeO.refl _)
   | (with_reducible exact LeO.none _)
   | (with_reducible refine LeO.ite ?_ ?_)
   | (with_reducible refine LeO.bind ?_ (fun _ => ?_))
   | exact ih0 _ _ _ _ _
   | exact ih1 _ _ _ _ _
   | exact ih2 _ _ _ _ _ _ _ _
   | exact split_Rising.mono _ _ _
   | exact split_may.mono _ _ _ _ _
   | exact LeO.none _
   | refine LeO.ite ?_ ?_
   | refine LeO.bind ?_ (fun _ => ?_)
set_option maxHeartbeats 8000000 in
set_option maxRecDepth 100000 in
theorem split_Check.calls (k : Nat) (a0_0 : Int) (A0_1 : Option Addr) (c0_1 : Nat) (l0_1 : List (S61)) (a0_2 : Int) (a0_3 : Int) (r : Int) (w : World) (hr0_1 : Kd.C k61 w A0_1 l0_1.length l0_1) (hc0_1 : l0_1.length ≤ c0_1) (h : split_Check.f k a0_0 l0_1 a0_2 a0_3 = some r) :
  Calls Try.prog 28 #[.agg #[.int .i64 a0_0, .slice A0_1 l0_1.length c0_1, .int .i64 a0_2, .int .i64 a0_3]] w fun e w' => e = .returned (.int .i64 r) ∧ Below w.heap.size w w' := by
 have hu54 := Try.underlying54
 have hu61 := Try.underlying61
 have HR0_1 := Aside0.mk hr0_1
 have HC0_1 := Aside0.mk hc0_1
 clear hr0_1 hc0_1
 have HB := Aside0.mk (Below.refl w.heap.size w)
 have H : (if a0_0 ≥ 1 then (if a0_0 ≤ 3 then (split_Check.j0 k (decide ((l0_1.length : Int) ≤ 6)) a0_0 l0_1 a0_2 a0_3) else (split_Check.j0 k false a0_0 l0_1 a0_2 a0_3)) else (split_Check.j0 k false a0_0 l0_1 a0_2 a0_3)) = some r := h
 clear h
 have HC2 := Aside0.mk H
 clear H
 go_enter Try.func28, Try.ntmps28
 go_upto_region 1 with (first | ((with_reducible refine gate_dst (N := 1) rfl ?_); (try (refine gate_guard (by rfl) ?_; dsimp only)); refine box_event ?hg (N := 1) ?hd (cs := #[.int .i64 a0_0, .slice A0_1 l0_1.length c0_1, .int .i64 a0_2, .int .i64 a0_3]) (t := 54) ?hr ?_; (case hd => rfl); (case hg => rfl); (case hr => first | (go_simp; done) | (go_simp; rfl)); intro gb181 hg w3 hbox hb; have n0_ := Aside0.mk (below_step (be_ HB) hb); have n1_ := Aside0.mk (hbox); have n2_ := Aside0.mk ((by rw [hg]; exact (below_size (be_ HB)) : w.heap.size ≤ gb181)); have n3_ := Aside0.mk ((by rw [hg]; exact (below_size (be_ HB)) : w.heap.size ≤ gb181)); clear HB; have HB := n0_; have BK181 := n1_; have GW181 := n2_; have GE181 := n3_; clear n0_ n1_ n2_ n3_; clear hb hbox hg))
 (try simp only [Act.put, List.setIfInBounds_toArray, List.set_cons_zero, List.set_cons_succ])
 go_cut [3] (fun v3 wc => ∃ (kq : Nat) (x3_1 : Bool), v3 = .bool x3_1 ∧ Aside0 (split_Check.j0 kq x3_1 a0_0 l0_1 a0_2 a0_3 = some r) ∧ Aside0 (kq ≤ k) ∧ Aside0 (wc.heap[gb181]? = some (.cells #[.int .i64 a0_0, (.slice A0_1 l0_1.length c0_1), .int .i64 a0_2, .int .i64 a0_3] 54 (0, 0))) ∧ Aside0 (Below w.heap.size w wc))
 case first =>
  have H := HC2.out
  clear HC2
  by_cases c4 : a0_0 ≥ 1
  ·
   rw [if_pos c4] at H
   have c4b0 : decide (1 ≤ a0_0) = true := decide_eq_true c4
   clear c4
   (first | rw [c4b0] | (simp only [i64_w, i32_w]; rw [c4b0]) | skip)
   by_cases c5 : a0_0 ≤ 3
   ·
    rw [if_pos c5] at H
    have c5b0 : decide (a0_0 ≤ 3) = true := decide_eq_true c5
    clear c5
    have H' := Aside0.mk H
    clear H
    have hcz6_0 : w3.cell? ⟨gb181, 0, none⟩ = some (.int .i64 a0_0) := bc_ BK181 0
    have hcz6_1 : w3.cell? ⟨gb181, 1, none⟩ = some (.slice A0_1 l0_1.length c0_1) := bc_ BK181 1
    have hcz6_2 : w3.cell? ⟨gb181, 2, none⟩ = some (.int .i64 a0_2) := bc_ BK181 2
    have hcz6_3 : w3.cell? ⟨gb181, 3, none⟩ = some (.int .i64 a0_3) := bc_ BK181 3
    have hfz6_0 := blk_frozen BK181.out 0
    have hfz6_1 := blk_frozen BK181.out 1
    have hfz6_2 := blk_frozen BK181.out 2
    have hfz6_3 := blk_frozen BK181.out 3
    go_wp2
    go_meet
    case rel => exact ⟨_, (decide ((l0_1.length : Int) ≤ 6)), eq_, H', ⟨by first | omega | exact Nat.le_refl _⟩, ⟨bk_ BK181⟩, ⟨be_ HB⟩⟩
   ·
    rw [if_neg c5] at H
    have c5b0 : decide (a0_0 ≤ 3) = false := decide_eq_false c5
    clear c5
    have H' := Aside0.mk H
    clear H
    have hcz7_0 : w3.cell? ⟨gb181, 0, none⟩ = some (.int .i64 a0_0) := bc_ BK181 0
    have hcz7_1 : w3.cell? ⟨gb181, 1, none⟩ = some (.slice A0_1 l0_1.length c0_1) := bc_ BK181 1
    have hcz7_2 : w3.cell? ⟨gb181, 2, none⟩ = some (.int .i64 a0_2) := bc_ BK181 2
    have hcz7_3 : w3.cell? ⟨gb181, 3, none⟩ = some (.int .i64 a0_3) := bc_ BK181 3
    have hfz7_0 := blk_frozen BK181.out 0
    have hfz7_1 := blk_frozen BK181.out 1
    have hfz7_2 := blk_frozen BK181.out 2
    have hfz7_3 := blk_frozen BK181.out 3
    go_wp2
    go_meet
    case rel => exact ⟨_, (false), eq_, H', ⟨by first | omega | exact Nat.le_refl _⟩, ⟨bk_ BK181⟩, ⟨be_ HB⟩⟩
  ·
   rw [if_neg c4] at H
   have c4b0 : decide (1 ≤ a0_0) = false := decide_eq_false c4
   clear c4
   (first | rw [c4b0] | (simp only [i64_w, i32_w]; rw [c4b0]) | skip)
   have H' := Aside0.mk H
   clear H
   have hcz8_0 : w3.cell? ⟨gb181, 0, none⟩ = some (.int .i64 a0_0) := bc_ BK181 0
   have hcz8_1 : w3.cell? ⟨gb181, 1, none⟩ = some (.slice A0_1 l0_1.length c0_1) := bc_ BK181 1
   have hcz8_2 : w3.cell? ⟨gb181, 2, none⟩ = some (.int .i64 a0_2) := bc_ BK181 2
   have hcz8_3 : w3.cell? ⟨gb181, 3, none⟩ = some (.int .i64 a0_3) := bc_ BK181 3
   have hfz8_0 := blk_frozen BK181.out 0
   have hfz8_1 := blk_frozen BK181.out 1
   have hfz8_2 := blk_frozen BK181.out 2
   have hfz8_3 := blk_frozen BK181.out 3
   go_wp2
   go_meet
   case rel => exact ⟨_, (false), eq_, H', ⟨by first | omega | exact Nat.le_refl _⟩, ⟨bk_ BK181⟩, ⟨be_ HB⟩⟩
 case rest =>
  clear HC2
  (try clear c2); (try clear p2); (try clear c4); (try clear c4b0); (try clear c5); (try clear c5b0); (try clear hcz6_0); (try clear hcz6_1); (try clear hcz6_2); (try clear hcz6_3); (try clear hcz7_0); (try clear hcz7_1)
  (try clear hcz7_2); (try clear hcz7_3); (try clear hcz8_0); (try clear hcz8_1); (try clear hcz8_2); (try clear hcz8_3); (try clear hfz6_0); (try clear hfz6_1); (try clear hfz6_2); (try clear hfz6_3); (try clear hfz7_0); (try clear hfz7_1)
  (try clear hfz7_2); (try clear hfz7_3); (try clear hfz8_0); (try clear hfz8_1); (try clear hfz8_2); (try clear hfz8_3)
  obtain ⟨kq, x3_1, rfl, HA, HJ1, BK181, HB⟩ := hcut
  cases kq with
  | zero => exact absurd HA.out (by simp [split_Check.j0])
  | succ kj1 =>
   have H := HA.out
   clear HA
   simp only [split_Check.j0] at H
   have HC9 := Aside0.mk H
   clear H
   go_upto_region 2 with (fail)
   go_cut [3] (fun v3 wc => ∃ (kq : Nat) (x3_8 : Bool), v3 = .bool x3_8 ∧ Aside0 (split_Check.j1 kq x3_8 a0_0 l0_1 a0_2 a0_3 = some r) ∧ Aside0 (kq ≤ kj1) ∧ Aside0 (wc.heap[gb181]? = some (.cells #[.int .i64 a0_0, (.slice A0_1 l0_1.length c0_1), .int .i64 a0_2, .int .i64 a0_3] 54 (0, 0))) ∧ Aside0 (Below w.heap.size w wc))
   case first =>
    have H := HC9.out
    clear HC9
    by_cases c10 : x3_1 = true
    ·
     subst c10
     have H1 : (if a0_2 ≥ 1 then (if a0_2 ≤ 16 then (if a0_3 ≥ 16 then (if a0_3 ≤ 64 then (split_Check.j1 kj1 (decide (a0_3 ≥ (wrap64 (2 * a0_2)))) a0_0 l0_1 a0_2 a0_3) else (split_Check.j1 kj1 false a0_0 l0_1 a0_2 a0_3)) else (split_Check.j1 kj1 false a0_0 l0_1 a0_2 a0_3)) else (split_Check.j1 kj1 false a0_0 l0_1 a0_2 a0_3)) else (split_Check.j1 kj1 false a0_0 l0_1 a0_2 a0_3)) = some r := by rw [if_pos rfl] at H; exact H
     clear H
     have H := H1
     clear H1
     by_cases c11 : a0_2 ≥ 1
     ·
      rw [if_pos c11] at H
      have c11b0 : decide (1 ≤ a0_2) = true := decide_eq_true c11
      clear c11
      (first | rw [c11b0] | (simp only [i64_w, i32_w]; rw [c11b0]) | skip)
      by_cases c12 : a0_2 ≤ 16
      ·
       rw [if_pos c12] at H
       have c12b0 : decide (a0_2 ≤ 16) = true := decide_eq_true c12
       clear c12
       by_cases c13 : a0_3 ≥ 16
       ·
        rw [if_pos c13] at H
        have c13b0 : decide (16 ≤ a0_3) = true := decide_eq_true c13
        clear c13
        by_cases c14 : a0_3 ≤ 64
        ·
         rw [if_pos c14] at H
         have c14b0 : decide (a0_3 ≤ 64) = true := decide_eq_true c14
         clear c14
         have H' := Aside0.mk H
         clear H
         have hcz15_0 : wc.cell? ⟨gb181, 0, none⟩ = some (.int .i64 a0_0) := bc_ BK181 0
         have hcz15_1 : wc.cell? ⟨gb181, 1, none⟩ = some (.slice A0_1 l0_1.length c0_1) := bc_ BK181 1
         have hcz15_2 : wc.cell? ⟨gb181, 2, none⟩ = some (.int .i64 a0_2) := bc_ BK181 2
         have hcz15_3 : wc.cell? ⟨gb181, 3, none⟩ = some (.int .i64 a0_3) := bc_ BK181 3
         have hfz15_0 := blk_frozen BK181.out 0
         have hfz15_1 := blk_frozen BK181.out 1
         have hfz15_2 := blk_frozen BK181.out 2
         have hfz15_3 := blk_frozen BK181.out 3
         go_wp2
         go_meet
         case rel => exact ⟨_, (decide (a0_3 ≥ (wrap64 (2 * a0_2)))), eq_, H', ⟨by have := HJ1.out; first | omega | exact Nat.le_refl _⟩, ⟨bk_ BK181⟩, ⟨be_ HB⟩⟩
        ·
         rw [if_neg c14] at H
         have c14b0 : decide (a0_3 ≤ 64) = false := decide_eq_false c14
         clear c14
         have H' := Aside0.mk H
         clear H
         have hcz16_0 : wc.cell? ⟨gb181, 0, none⟩ = some (.int .i64 a0_0) := bc_ BK181 0
         have hcz16_1 : wc.cell? ⟨gb181, 1, none⟩ = some (.slice A0_1 l0_1.length c0_1) := bc_ BK181 1
         have hcz16_2 : wc.cell? ⟨gb181, 2, none⟩ = some (.int .i64 a0_2) := bc_ BK181 2
         have hcz16_3 : wc.cell? ⟨gb181, 3, none⟩ = some (.int .i64 a0_3) := bc_ BK181 3
         have hfz16_0 := blk_frozen BK181.out 0
         have hfz16_1 := blk_frozen BK181.out 1
         have hfz16_2 := blk_frozen BK181.out 2
         have hfz16_3 := blk_frozen BK181.out 3
         go_wp2
         go_meet
         case rel => exact ⟨_, (false), eq_, H', ⟨by have := HJ1.out; first | omega | exact Nat.le_refl _⟩, ⟨bk_ BK181⟩, ⟨be_ HB⟩⟩
       ·
        rw [if_neg c13] at H
        have c13b0 : decide (16 ≤ a0_3) = false := decide_eq_false c13
        clear c13
        have H' := Aside0.mk H
        clear H
        have hcz17_0 : wc.cell? ⟨gb181, 0, none⟩ = some (.int .i64 a0_0) := bc_ BK181 0
        have hcz17_1 : wc.cell? ⟨gb181, 1, none⟩ = some (.slice A0_1 l0_1.length c0_1) := bc_ BK181 1
        have hcz17_2 : wc.cell? ⟨gb181, 2, none⟩ = some (.int .i64 a0_2) := bc_ BK181 2
        have hcz17_3 : wc.cell? ⟨gb181, 3, none⟩ = some (.int .i64 a0_3) := bc_ BK181 3
        have hfz17_0 := blk_frozen BK181.out 0
        have hfz17_1 := blk_frozen BK181.out 1
        have hfz17_2 := blk_frozen BK181.out 2
        have hfz17_3 := blk_frozen BK181.out 3
        go_wp2
        go_meet
        case rel => exact ⟨_, (false), eq_, H', ⟨by have := HJ1.out; first | omega | exact Nat.le_refl _⟩, ⟨bk_ BK181⟩, ⟨be_ HB⟩⟩
      ·
       rw [if_neg c12] at H
       have c12b0 : decide (a0_2 ≤ 16) = false := decide_eq_false c12
       clear c12
       have H' := Aside0.mk H
       clear H
       have hcz18_0 : wc.cell? ⟨gb181, 0, none⟩ = some (.int .i64 a0_0) := bc_ BK181 0
       have hcz18_1 : wc.cell? ⟨gb181, 1, none⟩ = some (.slice A0_1 l0_1.length c0_1) := bc_ BK181 1
       have hcz18_2 : wc.cell? ⟨gb181, 2, none⟩ = some (.int .i64 a0_2) := bc_ BK181 2
       have hcz18_3 : wc.cell? ⟨gb181, 3, none⟩ = some (.int .i64 a0_3) := bc_ BK181 3
       have hfz18_0 := blk_frozen BK181.out 0
       have hfz18_1 := blk_frozen BK181.out 1
       have hfz18_2 := blk_frozen BK181.out 2
       have hfz18_3 := blk_frozen BK181.out 3
       go_wp2
       go_meet
       case rel => exact ⟨_, (false), eq_, H', ⟨by have := HJ1.out; first | omega | exact Nat.le_refl _⟩, ⟨bk_ BK181⟩, ⟨be_ HB⟩⟩
     ·
      rw [if_neg c11] at H
      have c11b0 : decide (1 ≤ a0_2) = false := decide_eq_false c11
      clear c11
      (first | rw [c11b0] | (simp only [i64_w, i32_w]; rw [c11b0]) | skip)
      have H' := Aside0.mk H
      clear H
      have hcz19_0 : wc.cell? ⟨gb181, 0, none⟩ = some (.int .i64 a0_0) := bc_ BK181 0
      have hcz19_1 : wc.cell? ⟨gb181, 1, none⟩ = some (.slice A0_1 l0_1.length c0_1) := bc_ BK181 1
      have hcz19_2 : wc.cell? ⟨gb181, 2, none⟩ = some (.int .i64 a0_2) := bc_ BK181 2
      have hcz19_3 : wc.cell? ⟨gb181, 3, none⟩ = some (.int .i64 a0_3) := bc_ BK181 3
      have hfz19_0 := blk_frozen BK181.out 0
      have hfz19_1 := blk_frozen BK181.out 1
      have hfz19_2 := blk_frozen BK181.out 2
      have hfz19_3 := blk_frozen BK181.out 3
      go_wp2
      go_meet
      case rel => exact ⟨_, (false), eq_, H', ⟨by have := HJ1.out; first | omega | exact Nat.le_refl _⟩, ⟨bk_ BK181⟩, ⟨be_ HB⟩⟩
    ·
     replace c10 := Bool.eq_false_iff.mpr c10
     subst c10
     have H1 : (split_Check.j1 kj1 false a0_0 l0_1 a0_2 a0_3) = some r := by rw [if_neg (show ¬ (false = true) by decide)] at H; exact H
     clear H
     have H := H1
     clear H1
     have H' := Aside0.mk H
     clear H
     go_wp2
     go_meet
     case rel => exact ⟨_, (false), eq_, H', ⟨by have := HJ1.out; first | omega | exact Nat.le_refl _⟩, ⟨bk_ BK181⟩, ⟨be_ HB⟩⟩
   case rest =>
    clear HC9
    (try clear c1); (try clear c2); (try clear p2); (try clear c4); (try clear c4b0); (try clear c5); (try clear c5b0); (try clear p6); (try clear c10); (try clear c11); (try clear c11b0); (try clear c12)
    (try clear c12b0); (try clear c13); (try clear c13b0); (try clear c14); (try clear c14b0); (try clear hcz15_0); (try clear hcz15_1); (try clear hcz15_2); (try clear hcz15_3); (try clear hcz16_0); (try clear hcz16_1); (try clear hcz16_2)
    (try clear hcz16_3); (try clear hcz17_0); (try clear hcz17_1); (try clear hcz17_2); (try clear hcz17_3); (try clear hcz18_0); (try clear hcz18_1); (try clear hcz18_2); (try clear hcz18_3); (try clear hcz19_0); (try clear hcz19_1); (try clear hcz19_2)
    (try clear hcz19_3); (try clear hcz6_0); (try clear hcz6_1); (try clear hcz6_2); (try clear hcz6_3); (try clear hcz7_0); (try clear hcz7_1); (try clear hcz7_2); (try clear hcz7_3); (try clear hcz8_0); (try clear hcz8_1); (try clear hcz8_2)
    (try clear hcz8_3); (try clear hfz15_0); (try clear hfz15_1); (try clear hfz15_2); (try clear hfz15_3); (try clear hfz16_0); (try clear hfz16_1); (try clear hfz16_2); (try clear hfz16_3); (try clear hfz17_0); (try clear hfz17_1); (try clear hfz17_2)
    (try clear hfz17_3); (try clear hfz18_0); (try clear hfz18_1); (try clear hfz18_2); (try clear hfz18_3); (try clear hfz19_0); (try clear hfz19_1); (try clear hfz19_2); (try clear hfz19_3); (try clear hfz6_0); (try clear hfz6_1); (try clear hfz6_2)
    (try clear hfz6_3); (try clear hfz7_0); (try clear hfz7_1); (try clear hfz7_2); (try clear hfz7_3); (try clear hfz8_0); (try clear hfz8_1); (try clear hfz8_2); (try clear hfz8_3); (try clear p2)
    obtain ⟨kq, x3_8, rfl, HA, HJ8, BK181, HB⟩ := hcut
    cases kq with
    | zero => exact absurd HA.out (by simp [split_Check.j1])
    | succ kj8 =>
     have H := HA.out
     clear HA
     simp only [split_Check.j1] at H
     by_cases c20 : x3_8 = true
     ·
      subst c20
      have H1 : (if 0 ≤ (l0_1.length : Int) then (if ((l0_1.length : Int) : Int).toNat ≤ 35184372088832 then (split_Check.l0 kj8 (List.replicate ((l0_1.length : Int) : Int).toNat 0) l0_1 (l0_1.length : Int) 0 a0_0 l0_1 a0_2 a0_3) else (none)) else (none)) = some r := by rw [if_pos rfl] at H; exact H
      clear H
      have H := H1
      clear H1
      by_cases c21 : 0 ≤ (l0_1.length : Int)
      ·
       rw [if_pos c21] at H
       have c21b0 := eq_true c21
       have c21b1 : decide (0 ≤ (l0_1.length : Int)) = true := decide_eq_true c21
       clear c21
       by_cases c22 : ((l0_1.length : Int) : Int).toNat ≤ 35184372088832
       ·
        rw [if_pos c22] at H
        have c22b0 := eq_true c22
        have c22b1 : decide (((l0_1.length : Int) : Int).toNat ≤ 35184372088832) = true := decide_eq_true c22
        clear c22
        obtain ⟨y182, hy182⟩ : ∃ y_ : List Int, y_ = (List.replicate ((l0_1.length : Int) : Int).toNat 0) := ⟨_, rfl⟩
        replace H : (split_Check.l0 kj8 y182 l0_1 (l0_1.length : Int) 0 a0_0 l0_1 a0_2 a0_3) = some r := by first | (rw [hy182]; with_reducible exact H) | (have H2_ := (Option.bind_some _ _).symm.trans H; rw [hy182]; with_reducible exact H2_) | (have H2_ := (Option.bind_some _ _).symm.trans H; with_reducible exact H2_) | with_reducible exact H | (rw [hy182]; exact H) | exact H
        have Ny182 := Aside0.mk hy182
        clear hy182
        have H' := Aside0.mk H
        clear H
        have hcz23_0 : wc.cell? ⟨gb181, 0, none⟩ = some (.int .i64 a0_0) := bc_ BK181 0
        have hcz23_1 : wc.cell? ⟨gb181, 1, none⟩ = some (.slice A0_1 l0_1.length c0_1) := bc_ BK181 1
        have hcz23_2 : wc.cell? ⟨gb181, 2, none⟩ = some (.int .i64 a0_2) := bc_ BK181 2
        have hcz23_3 : wc.cell? ⟨gb181, 3, none⟩ = some (.int .i64 a0_3) := bc_ BK181 3
        have hfz23_0 := blk_frozen BK181.out 0
        have hfz23_1 := blk_frozen BK181.out 1
        have hfz23_2 := blk_frozen BK181.out 2
        have hfz23_3 := blk_frozen BK181.out 3
        go_wp2_with (first | ((with_reducible refine gate_dst (N := 55) rfl ?_); (try (refine gate_guard (by rfl) ?_; dsimp only)); refine Kd.R_make (Kd.int .i64) _ 3 rfl (N := 55) rfl 55 _ _ rfl (l0_1.length : Int) rfl rfl Try.underlying55 (.int .i64 0) 8 info3 rfl (by decide) (by omega) 0 (ok := fun _ => True) (okp := fun _ => True) rfl (fun _ hk => hk) trivial (dc_) (Nat.le_trans (Nat.mul_le_mul_right _ (dc_ : (l0_1.length : Int).toNat ≤ 35184372088832)) (by omega)) (Below.refl _ _) (Nat.le_refl _) ?_; intro v183 w24 ho25 hb hg_ hnew_; clear hg_ hnew_; (first | rw [← Ny182.out] at ho25 | (simp only [Int.reduceToNat] at ho25; rw [← Ny182.out] at ho25)); have n0_ := Aside0.mk (Kd.R_lower ho25 (below_size (be_ HB))); have n1_ := Aside0.mk (blk_below (g := gb181) (o := .cells #[.int .i64 a0_0, .slice A0_1 l0_1.length c0_1, .int .i64 a0_2, .int .i64 a0_3] 54 (0, 0)) (bk_ BK181) hb); have n2_ := Aside0.mk (below_step (be_ HB) hb); clear BK181; clear HB; have HO184 := n0_; have BK181 := n1_; have HB := n2_; clear n0_ n1_ n2_; clear hb ho25; have hcz26_0 : w24.cell? ⟨gb181, 0, none⟩ = some (.int .i64 a0_0) := bc_ BK181 0; have hcz26_1 : w24.cell? ⟨gb181, 1, none⟩ = some (.slice A0_1 l0_1.length c0_1) := bc_ BK181 1; have hcz26_2 : w24.cell? ⟨gb181, 2, none⟩ = some (.int .i64 a0_2) := bc_ BK181 2; have hcz26_3 : w24.cell? ⟨gb181, 3, none⟩ = some (.int .i64 a0_3) := bc_ BK181 3; have hfz26_0 := blk_frozen BK181.out 0; have hfz26_1 := blk_frozen BK181.out 1; have hfz26_2 := blk_frozen BK181.out 2; have hfz26_3 := blk_frozen BK181.out 3))
        go_loopg [59] kj8 (fun kq v59 w' => ∃ (x4_3 : List Int) (x59_3 : Int), v59 = .int .i64 x59_3 ∧ Aside0 (split_Check.l0 kq x4_3 l0_1 (l0_1.length : Int) x59_3 a0_0 l0_1 a0_2 a0_3 = some r) ∧ Aside0 (kq ≤ kj8) ∧ Aside0 (Kd.R (Kd.int .i64) 3 w' w.heap.size (fun _ => True) v183 x4_3) ∧ Aside0 (w'.heap[gb181]? = some (.cells #[.int .i64 a0_0, (.slice A0_1 l0_1.length c0_1), .int .i64 a0_2, .int .i64 a0_3] 54 (0, 0))) ∧ Aside0 (Below w.heap.size w w'))
        case atStart => exact ⟨(y182), (0), eq_, H', ⟨Nat.le_refl _⟩, ⟨ro_ HO184⟩, ⟨bk_ BK181⟩, ⟨be_ HB⟩⟩
        case round =>
         clear H'
         (try clear c1); (try clear c2); (try clear p2); (try clear c4); (try clear c4b0); (try clear c5); (try clear c5b0); (try clear p6); (try clear c10); (try clear c11); (try clear c11b0); (try clear c12)
         (try clear c12b0); (try clear c13); (try clear c13b0); (try clear c14); (try clear c14b0); (try clear c20); (try clear c21); (try clear c21b0); (try clear c21b1); (try clear c22); (try clear c22b0); (try clear c22b1)
         (try clear hcz15_0); (try clear hcz15_1); (try clear hcz15_2); (try clear hcz15_3); (try clear hcz16_0); (try clear hcz16_1); (try clear hcz16_2); (try clear hcz16_3); (try clear hcz17_0); (try clear hcz17_1); (try clear hcz17_2); (try clear hcz17_3)
         (try clear hcz18_0); (try clear hcz18_1); (try clear hcz18_2); (try clear hcz18_3); (try clear hcz19_0); (try clear hcz19_1); (try clear hcz19_2); (try clear hcz19_3); (try clear hcz23_0); (try clear hcz23_1); (try clear hcz23_2); (try clear hcz23_3)
         (try clear hcz26_0); (try clear hcz26_1); (try clear hcz26_2); (try clear hcz26_3); (try clear hcz6_0); (try clear hcz6_1); (try clear hcz6_2); (try clear hcz6_3); (try clear hcz7_0); (try clear hcz7_1); (try clear hcz7_2); (try clear hcz7_3)
         (try clear hcz8_0); (try clear hcz8_1); (try clear hcz8_2); (try clear hcz8_3); (try clear hfz15_0); (try clear hfz15_1); (try clear hfz15_2); (try clear hfz15_3); (try clear hfz16_0); (try clear hfz16_1); (try clear hfz16_2); (try clear hfz16_3)
         (try clear hfz17_0); (try clear hfz17_1); (try clear hfz17_2); (try clear hfz17_3); (try clear hfz18_0); (try clear hfz18_1); (try clear hfz18_2); (try clear hfz18_3); (try clear hfz19_0); (try clear hfz19_1); (try clear hfz19_2); (try clear hfz19_3)
         (try clear hfz23_0); (try clear hfz23_1); (try clear hfz23_2); (try clear hfz23_3); (try clear hfz26_0); (try clear hfz26_1); (try clear hfz26_2); (try clear hfz26_3); (try clear hfz6_0); (try clear hfz6_1); (try clear hfz6_2); (try clear hfz6_3)
         (try clear hfz7_0); (try clear hfz7_1); (try clear hfz7_2); (try clear hfz7_3); (try clear hfz8_0); (try clear hfz8_1); (try clear hfz8_2); (try clear hfz8_3); (try clear p2); (try clear p6)
         obtain ⟨x4_3, x59_3, rfl, HA, HK3, HO_4, BK181, HB⟩ := hrel
         cases gk with
         | zero => exact absurd HA.out (by simp [split_Check.l0])
         | succ k3 =>
          have H := HA.out
          clear HA
          simp only [split_Check.l0] at H
          by_cases c27 : x59_3 < (l0_1.length : Int)
          ·
           rw [if_pos c27] at H
           have c27b0 : decide (x59_3 < (l0_1.length : Int)) = true := decide_eq_true c27
           clear c27
           by_cases c28 : 0 ≤ x59_3
           ·
            rw [if_pos c28] at H
            have c28b0 : decide (0 ≤ x59_3) = true := decide_eq_true c28
            clear c28
            by_cases c29 : x59_3 < (l0_1.length : Int)
            ·
             rw [if_pos c29] at H
             have c29b0 : decide (x59_3 < (l0_1.length : Int)) = true := decide_eq_true c29
             clear c29
             by_cases c30 : x59_3 < (x4_3.length : Int)
             ·
              rw [if_pos c30] at H
              have c30b0 : decide (x59_3 < (x4_3.length : Int)) = true := decide_eq_true c30
              clear c30
              obtain ⟨y187, hy187⟩ : ∃ y_ : List Int, y_ = (x4_3.set (x59_3 : Int).toNat ((rd_T61 l0_1 x59_3).f0)) := ⟨_, rfl⟩
              replace H : ((split_may.f k3 ((rd_T61 l0_1 x59_3).f0) ((rd_T61 l0_1 x59_3).f1) ((rd_T61 l0_1 x59_3).f2) a0_0).bind fun t188 => (if t188 = true then (split_Check.l0 k3 y187 l0_1 (l0_1.length : Int) (wrap64 (x59_3 + 1)) a0_0 l0_1 a0_2 a0_3) else (some 1))) = some r := by first | (rw [hy187]; with_reducible exact H) | (have H2_ := (Option.bind_some _ _).symm.trans H; rw [hy187]; with_reducible exact H2_) | (have H2_ := (Option.bind_some _ _).symm.trans H; with_reducible exact H2_) | with_reducible exact H | (rw [hy187]; exact H) | exact H
              have Ny187 := Aside0.mk hy187
              clear hy187
              replace H := Option.bind_eq_some_iff.mp H
              obtain ⟨t188, A320, H⟩ := H
              replace H : (if t188 = true then (split_Check.l0 k3 y187 l0_1 (l0_1.length : Int) (wrap64 (x59_3 + 1)) a0_0 l0_1 a0_2 a0_3) else (some 1)) = some r := H
              have A32 := Aside0.mk A320
              clear A320
              by_cases c33 : t188 = true
              ·
               subst c33
               have H1 : (split_Check.l0 k3 y187 l0_1 (l0_1.length : Int) (wrap64 (x59_3 + 1)) a0_0 l0_1 a0_2 a0_3) = some r := by rw [if_pos rfl] at H; exact H
               clear H
               have H := H1
               clear H1
               have H' := Aside0.mk H
               clear H
               have p185 : 0 ≤ (x59_3 : Int) := dc_
               have q185 : x59_3 < (l0_1.length : Int) := dc_
               obtain ⟨ad185, A185_2, c185_2, e185, hx185_0, hx185_1, hx185_2, hl185_2, hi185_2⟩ := at_T61 HR0_1.out x59_3 p185 q185
               cases e185
               replace hx185_0 := (HB.out.cell (World.block_lt_of_cell? w _ hx185_0)).trans hx185_0
               replace hx185_1 := (HB.out.cell (World.block_lt_of_cell? w _ hx185_1)).trans hx185_1
               replace hx185_2 := (HB.out.cell (World.block_lt_of_cell? w _ hx185_2)).trans hx185_2
               have HR185_2 := Aside0.mk hi185_2
               have HC185_2 := Aside0.mk hl185_2
               clear hi185_2 hl185_2
               replace p185 := eq_true p185
               replace q185 := eq_true q185
               go_wp2_with (first | ((with_reducible refine gate_dst (N := 6) rfl ?_); (try (refine gate_guard (by rfl) ?_; dsimp only)); refine box_event ?hg (N := 6) ?hd (cs := #[.int .i64 0, .string (⟨#[]⟩ : ByteArray), .slice none 0 0]) (t := 61) ?hr ?_; (case hd => rfl); (case hg => rfl); (case hr => first | (go_simp; done) | (go_simp; rfl)); intro gb186 hg w34 hbox hb; have n0_ := Aside0.mk (Kd.R_below (ro_ HO_4) hb); have n1_ := Aside0.mk (blk_below (g := gb181) (o := .cells #[.int .i64 a0_0, .slice (some ad185) l0_1.length c0_1, .int .i64 a0_2, .int .i64 a0_3] 54 (0, 0)) (bk_ BK181) hb); have n2_ := Aside0.mk (below_step (be_ HB) hb); have n3_ := Aside0.mk (hbox); have n4_ := Aside0.mk ((by rw [hg]; exact (below_size (be_ HB)) : w.heap.size ≤ gb186)); have n5_ := Aside0.mk ((by rw [hg]; exact (below_size (be_ HB)) : w.heap.size ≤ gb186)); have n6_ := Aside0.mk ((by rw [hg]; exact Nat.ne_of_lt (blk_lt (g := gb181) (o := .cells #[.int .i64 a0_0, .slice (some ad185) l0_1.length c0_1, .int .i64 a0_2, .int .i64 a0_3] 54 (0, 0)) (bk_ BK181)) : gb181 ≠ gb186)); have n7_ := Aside0.mk ((by rw [hg]; exact Nat.ne_of_gt (blk_lt (g := gb181) (o := .cells #[.int .i64 a0_0, .slice (some ad185) l0_1.length c0_1, .int .i64 a0_2, .int .i64 a0_3] 54 (0, 0)) (bk_ BK181)) : gb186 ≠ gb181)); clear HO_4; clear BK181; clear HB; have HO_4 := n0_; have BK181 := n1_; have HB := n2_; have BK186 := n3_; have GW186 := n4_; have GE186 := n5_; have NB181_186 := n6_; have NB186_181 := n7_; clear n0_ n1_ n2_ n3_ n4_ n5_ n6_ n7_; clear hb hbox hg; have hnb35 := NB186_181.out; have hnc35 := NB181_186.out; have hcz36_0 : w34.cell? ⟨gb186, 0, none⟩ = some (.int .i64 0) := bc_ BK186 0; have hcz36_1 : w34.cell? ⟨gb186, 1, none⟩ = some (.string (⟨#[]⟩ : ByteArray)) := bc_ BK186 1; have hcz36_2 : w34.cell? ⟨gb186, 2, none⟩ = some (.slice none 0 0) := bc_ BK186 2; have hfz36_0 := blk_frozen BK186.out 0; have hfz36_1 := blk_frozen BK186.out 1; have hfz36_2 := blk_frozen BK186.out 2) | ((with_reducible refine gate_store (t := 61) (p := 6) rfl ?_); refine store_event (t := 61) (p := 6) (v := ?vo_w37) (w1 := (((w34.setCell ⟨gb186, 0, none⟩ (.int .i64 ((rd_T61 l0_1 x59_3).f0))).setCell ⟨gb186, 1, none⟩ (.string ((rd_T61 l0_1 x59_3).f1))).setCell ⟨gb186, 2, none⟩ (.slice A185_2 ((rd_T61 l0_1 x59_3).f2).length c185_2))) ?hg ?ho ?hn ?hr ?_; (case ho => rfl); (case hg => rfl); (case hn => rfl); (case hr => first | (go_simp; done) | (go_simp; rfl)); intro w37 hw; have n0_ : Aside0 (Kd.R (Kd.int .i64) 3 w37 w.heap.size (fun _ => True) v183 x4_3) := ⟨(by rw [hw]; exact (by (with_reducible repeat (first | apply Kd.R_alloc | apply Kd.R_drewN | apply Kd.R_drew)); exact Kd.R_mono (Kd.R_far (p := ⟨gb186, 2, none⟩) (Kd.R_far (p := ⟨gb186, 1, none⟩) (Kd.R_far (p := ⟨gb186, 0, none⟩) (Kd.R_types HO_4.out BK186.out (by decide)) (fun _ hk => hk.2) (.int .i64 ((rd_T61 l0_1 x59_3).f0))) (fun _ hk => hk.2) (.string ((rd_T61 l0_1 x59_3).f1))) (fun _ hk => hk.2) (.slice A185_2 ((rd_T61 l0_1 x59_3).f2).length c185_2)) (fun _ hk => trivial)))⟩; have n1_ : Aside0 (w37.heap[gb181]? = some (.cells #[.int .i64 a0_0, .slice (some ad185) l0_1.length c0_1, .int .i64 a0_2, .int .i64 a0_3] 54 (0, 0))) := ⟨(by rw [hw]; exact (by (with_reducible repeat (first | refine blk_drewN ?_ _ | refine blk_drew ?_ | refine blk_alloc ?_ _)); refine blk_far ?_ NB181_186.out _; (with_reducible repeat (first | refine blk_drewN ?_ _ | refine blk_drew ?_ | refine blk_alloc ?_ _)); refine blk_far ?_ NB181_186.out _; (with_reducible repeat (first | refine blk_drewN ?_ _ | refine blk_drew ?_ | refine blk_alloc ?_ _)); refine blk_far ?_ NB181_186.out _; (with_reducible repeat (first | refine blk_drewN ?_ _ | refine blk_drew ?_ | refine blk_alloc ?_ _)); exact BK181.out))⟩; have n2_ : Aside0 (w37.heap[gb186]? = some (.cells #[.int .i64 ((rd_T61 l0_1 x59_3).f0), .string ((rd_T61 l0_1 x59_3).f1), .slice A185_2 ((rd_T61 l0_1 x59_3).f2).length c185_2] 61 (0, 0))) := ⟨(by rw [hw]; exact (by (with_reducible repeat (first | refine blk_drewN ?_ _ | refine blk_drew ?_ | refine blk_alloc ?_ _)); refine blk_put (cs := #[.int .i64 ((rd_T61 l0_1 x59_3).f0), .string ((rd_T61 l0_1 x59_3).f1), .slice none 0 0]) ?_ 2 _ rfl; (with_reducible repeat (first | refine blk_drewN ?_ _ | refine blk_drew ?_ | refine blk_alloc ?_ _)); refine blk_put (cs := #[.int .i64 ((rd_T61 l0_1 x59_3).f0), .string (⟨#[]⟩ : ByteArray), .slice none 0 0]) ?_ 1 _ rfl; (with_reducible repeat (first | refine blk_drewN ?_ _ | refine blk_drew ?_ | refine blk_alloc ?_ _)); refine blk_put (cs := #[.int .i64 0, .string (⟨#[]⟩ : ByteArray), .slice none 0 0]) ?_ 0 _ rfl; (with_reducible repeat (first | refine blk_drewN ?_ _ | refine blk_drew ?_ | refine blk_alloc ?_ _)); exact BK186.out))⟩; have n3_ : Aside0 (Below w.heap.size w w37) := ⟨(by rw [hw]; exact (be_ HB))⟩; clear hw; clear HO_4; clear BK181; clear BK186; clear HB; have HO_4 := n0_; have BK181 := n1_; have BK186 := n2_; have HB := n3_; clear n0_ n1_ n2_ n3_; have hcz38_0 : w37.cell? ⟨gb186, 0, none⟩ = some (.int .i64 ((rd_T61 l0_1 x59_3).f0)) := bc_ BK186 0; have hcz38_1 : w37.cell? ⟨gb186, 1, none⟩ = some (.string ((rd_T61 l0_1 x59_3).f1)) := bc_ BK186 1; have hcz38_2 : w37.cell? ⟨gb186, 2, none⟩ = some (.slice A185_2 ((rd_T61 l0_1 x59_3).f2).length c185_2) := bc_ BK186 2; have hfz38_0 := blk_frozen BK186.out 0; have hfz38_1 := blk_frozen BK186.out 1; have hfz38_2 := blk_frozen BK186.out 2; have p31 : 0 ≤ (x59_3 : Int) := dc_; have q31 : (x59_3 : Int) < ((x4_3.length : Int) : Int) := dc_; obtain ⟨go31, co31, eo31, gb31, gl31, cl31, HG31⟩ := Kd.R_form HO_4.out (by omega); (first | cases eo31 | (injection eo31 with ea_ en_ ec_; (first | subst ea_ | (injection ea_ with ea_; subst ea_)); subst ec_; clear en_)); have GB31 := Aside0.mk gb31; have GG31 := Aside0.mk HG31; clear gb31 gl31 HG31; obtain ⟨hx31_0, hf31_0⟩ := Kd.R_celln 0 HO_4.out (x59_3 : Int) p31 q31; replace p31 := eq_true p31; replace q31 := eq_true q31; obtain ⟨hy39_, hz39_⟩ := Kd.R_celln 0 HO_4.out (x59_3 : Int) (dc_) (dc_); have HP39 := Kd.R_putg HO_4.out (x59_3 : Int) ((rd_T61 l0_1 x59_3).f0)) | ((with_reducible refine gate_store (t := 3) (p := 68) rfl ?_); refine store_event (t := 3) (p := 68) (v := ?vo_w40) (w1 := (w37.setCell ⟨go31, (x59_3 : Int).toNat, none⟩ (.int .i64 ((rd_T61 l0_1 x59_3).f0)))) ?hg ?ho ?hn ?hr ?_; (case ho => rfl); (case hg => rfl); (case hn => rfl); (case hr => first | (go_simp; done) | (go_simp; rfl)); intro w40 hw; have hg : w37.grownBy w40 (some go31) := (by rw [hw]; exact HP39.2); have hp_ : Kd.R (Kd.int .i64) 3 w40 w.heap.size (fun _ => True) (.slice (some ⟨go31, 0, none⟩) x4_3.length co31) y187 := (by rw [hw, Ny187.out]; exact HP39.1); clear HP39; have n0_ := Aside0.mk (hp_); have n1_ := Aside0.mk (blk_grown (g := gb181) (o := .cells #[.int .i64 a0_0, .slice (some ad185) l0_1.length c0_1, .int .i64 a0_2, .int .i64 a0_3] 54 (0, 0)) (bk_ BK181) hg (Kd.R_ne HO_4.out BK181.out (by decide))); have n2_ := Aside0.mk (blk_grown (g := gb186) (o := .cells #[.int .i64 ((rd_T61 l0_1 x59_3).f0), .string ((rd_T61 l0_1 x59_3).f1), .slice A185_2 ((rd_T61 l0_1 x59_3).f2).length c185_2] 61 (0, 0)) (bk_ BK186) hg (Kd.R_ne HO_4.out BK186.out (by decide))); have n3_ := Aside0.mk ((by rw [hw]; exact below_set (HB.out) GB31.out : Below w.heap.size w w40)); clear HO_4; clear BK181; clear BK186; clear HB; have HO_4 := n0_; have BK181 := n1_; have BK186 := n2_; have HB := n3_; clear n0_ n1_ n2_ n3_; clear hg hw hp_; have hcz41_0 : w40.cell? ⟨gb186, 0, none⟩ = some (.int .i64 ((rd_T61 l0_1 x59_3).f0)) := bc_ BK186 0; have hcz41_1 : w40.cell? ⟨gb186, 1, none⟩ = some (.string ((rd_T61 l0_1 x59_3).f1)) := bc_ BK186 1; have hcz41_2 : w40.cell? ⟨gb186, 2, none⟩ = some (.slice A185_2 ((rd_T61 l0_1 x59_3).f2).length c185_2) := bc_ BK186 2; have hfz41_0 := blk_frozen BK186.out 0; have hfz41_1 := blk_frozen BK186.out 1; have hfz41_2 := blk_frozen BK186.out 2; have hcz42_0 : w40.cell? ⟨gb181, 0, none⟩ = some (.int .i64 a0_0) := bc_ BK181 0; have hcz42_1 : w40.cell? ⟨gb181, 1, none⟩ = some (.slice (some ad185) l0_1.length c0_1) := bc_ BK181 1; have hcz42_2 : w40.cell? ⟨gb181, 2, none⟩ = some (.int .i64 a0_2) := bc_ BK181 2; have hcz42_3 : w40.cell? ⟨gb181, 3, none⟩ = some (.int .i64 a0_3) := bc_ BK181 3; have hfz42_0 := blk_frozen BK181.out 0; have hfz42_1 := blk_frozen BK181.out 1; have hfz42_2 := blk_frozen BK181.out 2; have hfz42_3 := blk_frozen BK181.out 3) | ((with_reducible refine gate_callee (f := 50) rfl ?_); refine goesL_ (some 72) rfl rfl Try.func50 (by kernel_rfl) rfl #[.agg #[.int .i64 ((rd_T61 l0_1 x59_3).f0), .string ((rd_T61 l0_1 x59_3).f1), .slice A185_2 ((rd_T61 l0_1 x59_3).f2).length c185_2], .int .i64 a0_0] rfl (by (try simp only [List.map_toArray, List.map_cons, List.map_nil]); first | done | rfl | (simp only [List.length_drop, List.length_take]; rfl)) ?_; (with_reducible refine (split_may.calls k3 ((rd_T61 l0_1 x59_3).f0) ((rd_T61 l0_1 x59_3).f1) _ _ ((rd_T61 l0_1 x59_3).f2) a0_0 true _ ?side1 ?side2 A32.out).mono ?_); (case side1 => repeat (first | exact (Kd.C_below HR185_2.out HB.out) | (with_reducible refine Kd.C_alloc ?_ _) | (with_reducible refine Kd.C_drewN ?_ _) | (with_reducible refine Kd.C_drew ?_))); (case side2 => exact HC185_2.out); rintro e w43 ⟨rfl, hb⟩; refine ⟨_, rfl, ?_⟩; have n0_ := Aside0.mk (Kd.R_below (ro_ HO_4) hb); have n1_ := Aside0.mk (blk_below (g := gb181) (o := .cells #[.int .i64 a0_0, .slice (some ad185) l0_1.length c0_1, .int .i64 a0_2, .int .i64 a0_3] 54 (0, 0)) (bk_ BK181) hb); have n2_ := Aside0.mk (blk_below (g := gb186) (o := .cells #[.int .i64 ((rd_T61 l0_1 x59_3).f0), .string ((rd_T61 l0_1 x59_3).f1), .slice A185_2 ((rd_T61 l0_1 x59_3).f2).length c185_2] 61 (0, 0)) (bk_ BK186) hb); have n3_ := Aside0.mk (below_step (be_ HB) hb); clear HO_4; clear BK181; clear BK186; clear HB; have HO_4 := n0_; have BK181 := n1_; have BK186 := n2_; have HB := n3_; clear n0_ n1_ n2_ n3_; (try clear hb); (try clear hb2); (try clear hk); (try clear hi)))
               go_roundg k3
               case measure => have := HJ1.out; have := HJ8.out; have := HK3.out; omega
               case rel => exact ⟨(y187), (wrap64 (x59_3 + 1)), eq_, H', ⟨by have := HJ1.out; have := HJ8.out; have := HK3.out; omega⟩, ⟨ro_ HO_4⟩, ⟨bk_ BK181⟩, ⟨be_ HB⟩⟩
              ·
               replace c33 := Bool.eq_false_iff.mpr c33
               subst c33
               have H1 : (some 1) = some r := by rw [if_neg (show ¬ (false = true) by decide)] at H; exact H
               clear H
               have H := H1
               clear H1
               obtain rfl := Option.some.inj H
               have p185 : 0 ≤ (x59_3 : Int) := dc_
               have q185 : x59_3 < (l0_1.length : Int) := dc_
               obtain ⟨ad185, A185_2, c185_2, e185, hx185_0, hx185_1, hx185_2, hl185_2, hi185_2⟩ := at_T61 HR0_1.out x59_3 p185 q185
               cases e185
               replace hx185_0 := (HB.out.cell (World.block_lt_of_cell? w _ hx185_0)).trans hx185_0
               replace hx185_1 := (HB.out.cell (World.block_lt_of_cell? w _ hx185_1)).trans hx185_1
               replace hx185_2 := (HB.out.cell (World.block_lt_of_cell? w _ hx185_2)).trans hx185_2
               have HR185_2 := Aside0.mk hi185_2
               have HC185_2 := Aside0.mk hl185_2
               clear hi185_2 hl185_2
               replace p185 := eq_true p185
               replace q185 := eq_true q185
               go_wp2_with (first | ((with_reducible refine gate_dst (N := 6) rfl ?_); (try (refine gate_guard (by rfl) ?_; dsimp only)); refine box_event ?hg (N := 6) ?hd (cs := #[.int .i64 0, .string (⟨#[]⟩ : ByteArray), .slice none 0 0]) (t := 61) ?hr ?_; (case hd => rfl); (case hg => rfl); (case hr => first | (go_simp; done) | (go_simp; rfl)); intro gb186 hg w44 hbox hb; have n0_ := Aside0.mk (Kd.R_below (ro_ HO_4) hb); have n1_ := Aside0.mk (blk_below (g := gb181) (o := .cells #[.int .i64 a0_0, .slice (some ad185) l0_1.length c0_1, .int .i64 a0_2, .int .i64 a0_3] 54 (0, 0)) (bk_ BK181) hb); have n2_ := Aside0.mk (below_step (be_ HB) hb); have n3_ := Aside0.mk (hbox); have n4_ := Aside0.mk ((by rw [hg]; exact (below_size (be_ HB)) : w.heap.size ≤ gb186)); have n5_ := Aside0.mk ((by rw [hg]; exact (below_size (be_ HB)) : w.heap.size ≤ gb186)); have n6_ := Aside0.mk ((by rw [hg]; exact Nat.ne_of_lt (blk_lt (g := gb181) (o := .cells #[.int .i64 a0_0, .slice (some ad185) l0_1.length c0_1, .int .i64 a0_2, .int .i64 a0_3] 54 (0, 0)) (bk_ BK181)) : gb181 ≠ gb186)); have n7_ := Aside0.mk ((by rw [hg]; exact Nat.ne_of_gt (blk_lt (g := gb181) (o := .cells #[.int .i64 a0_0, .slice (some ad185) l0_1.length c0_1, .int .i64 a0_2, .int .i64 a0_3] 54 (0, 0)) (bk_ BK181)) : gb186 ≠ gb181)); clear HO_4; clear BK181; clear HB; have HO_4 := n0_; have BK181 := n1_; have HB := n2_; have BK186 := n3_; have GW186 := n4_; have GE186 := n5_; have NB181_186 := n6_; have NB186_181 := n7_; clear n0_ n1_ n2_ n3_ n4_ n5_ n6_ n7_; clear hb hbox hg; have hnb45 := NB186_181.out; have hnc45 := NB181_186.out; have hcz46_0 : w44.cell? ⟨gb186, 0, none⟩ = some (.int .i64 0) := bc_ BK186 0; have hcz46_1 : w44.cell? ⟨gb186, 1, none⟩ = some (.string (⟨#[]⟩ : ByteArray)) := bc_ BK186 1; have hcz46_2 : w44.cell? ⟨gb186, 2, none⟩ = some (.slice none 0 0) := bc_ BK186 2; have hfz46_0 := blk_frozen BK186.out 0; have hfz46_1 := blk_frozen BK186.out 1; have hfz46_2 := blk_frozen BK186.out 2) | ((with_reducible refine gate_store (t := 61) (p := 6) rfl ?_); refine store_event (t := 61) (p := 6) (v := ?vo_w47) (w1 := (((w44.setCell ⟨gb186, 0, none⟩ (.int .i64 ((rd_T61 l0_1 x59_3).f0))).setCell ⟨gb186, 1, none⟩ (.string ((rd_T61 l0_1 x59_3).f1))).setCell ⟨gb186, 2, none⟩ (.slice A185_2 ((rd_T61 l0_1 x59_3).f2).length c185_2))) ?hg ?ho ?hn ?hr ?_; (case ho => rfl); (case hg => rfl); (case hn => rfl); (case hr => first | (go_simp; done) | (go_simp; rfl)); intro w47 hw; have n0_ : Aside0 (Kd.R (Kd.int .i64) 3 w47 w.heap.size (fun _ => True) v183 x4_3) := ⟨(by rw [hw]; exact (by (with_reducible repeat (first | apply Kd.R_alloc | apply Kd.R_drewN | apply Kd.R_drew)); exact Kd.R_mono (Kd.R_far (p := ⟨gb186, 2, none⟩) (Kd.R_far (p := ⟨gb186, 1, none⟩) (Kd.R_far (p := ⟨gb186, 0, none⟩) (Kd.R_types HO_4.out BK186.out (by decide)) (fun _ hk => hk.2) (.int .i64 ((rd_T61 l0_1 x59_3).f0))) (fun _ hk => hk.2) (.string ((rd_T61 l0_1 x59_3).f1))) (fun _ hk => hk.2) (.slice A185_2 ((rd_T61 l0_1 x59_3).f2).length c185_2)) (fun _ hk => trivial)))⟩; have n1_ : Aside0 (w47.heap[gb181]? = some (.cells #[.int .i64 a0_0, .slice (some ad185) l0_1.length c0_1, .int .i64 a0_2, .int .i64 a0_3] 54 (0, 0))) := ⟨(by rw [hw]; exact (by (with_reducible repeat (first | refine blk_drewN ?_ _ | refine blk_drew ?_ | refine blk_alloc ?_ _)); refine blk_far ?_ NB181_186.out _; (with_reducible repeat (first | refine blk_drewN ?_ _ | refine blk_drew ?_ | refine blk_alloc ?_ _)); refine blk_far ?_ NB181_186.out _; (with_reducible repeat (first | refine blk_drewN ?_ _ | refine blk_drew ?_ | refine blk_alloc ?_ _)); refine blk_far ?_ NB181_186.out _; (with_reducible repeat (first | refine blk_drewN ?_ _ | refine blk_drew ?_ | refine blk_alloc ?_ _)); exact BK181.out))⟩; have n2_ : Aside0 (w47.heap[gb186]? = some (.cells #[.int .i64 ((rd_T61 l0_1 x59_3).f0), .string ((rd_T61 l0_1 x59_3).f1), .slice A185_2 ((rd_T61 l0_1 x59_3).f2).length c185_2] 61 (0, 0))) := ⟨(by rw [hw]; exact (by (with_reducible repeat (first | refine blk_drewN ?_ _ | refine blk_drew ?_ | refine blk_alloc ?_ _)); refine blk_put (cs := #[.int .i64 ((rd_T61 l0_1 x59_3).f0), .string ((rd_T61 l0_1 x59_3).f1), .slice none 0 0]) ?_ 2 _ rfl; (with_reducible repeat (first | refine blk_drewN ?_ _ | refine blk_drew ?_ | refine blk_alloc ?_ _)); refine blk_put (cs := #[.int .i64 ((rd_T61 l0_1 x59_3).f0), .string (⟨#[]⟩ : ByteArray), .slice none 0 0]) ?_ 1 _ rfl; (with_reducible repeat (first | refine blk_drewN ?_ _ | refine blk_drew ?_ | refine blk_alloc ?_ _)); refine blk_put (cs := #[.int .i64 0, .string (⟨#[]⟩ : ByteArray), .slice none 0 0]) ?_ 0 _ rfl; (with_reducible repeat (first | refine blk_drewN ?_ _ | refine blk_drew ?_ | refine blk_alloc ?_ _)); exact BK186.out))⟩; have n3_ : Aside0 (Below w.heap.size w w47) := ⟨(by rw [hw]; exact (be_ HB))⟩; clear hw; clear HO_4; clear BK181; clear BK186; clear HB; have HO_4 := n0_; have BK181 := n1_; have BK186 := n2_; have HB := n3_; clear n0_ n1_ n2_ n3_; have hcz48_0 : w47.cell? ⟨gb186, 0, none⟩ = some (.int .i64 ((rd_T61 l0_1 x59_3).f0)) := bc_ BK186 0; have hcz48_1 : w47.cell? ⟨gb186, 1, none⟩ = some (.string ((rd_T61 l0_1 x59_3).f1)) := bc_ BK186 1; have hcz48_2 : w47.cell? ⟨gb186, 2, none⟩ = some (.slice A185_2 ((rd_T61 l0_1 x59_3).f2).length c185_2) := bc_ BK186 2; have hfz48_0 := blk_frozen BK186.out 0; have hfz48_1 := blk_frozen BK186.out 1; have hfz48_2 := blk_frozen BK186.out 2; have p31 : 0 ≤ (x59_3 : Int) := dc_; have q31 : (x59_3 : Int) < ((x4_3.length : Int) : Int) := dc_; obtain ⟨go31, co31, eo31, gb31, gl31, cl31, HG31⟩ := Kd.R_form HO_4.out (by omega); (first | cases eo31 | (injection eo31 with ea_ en_ ec_; (first | subst ea_ | (injection ea_ with ea_; subst ea_)); subst ec_; clear en_)); have GB31 := Aside0.mk gb31; have GG31 := Aside0.mk HG31; clear gb31 gl31 HG31; obtain ⟨hx31_0, hf31_0⟩ := Kd.R_celln 0 HO_4.out (x59_3 : Int) p31 q31; replace p31 := eq_true p31; replace q31 := eq_true q31; obtain ⟨hy49_, hz49_⟩ := Kd.R_celln 0 HO_4.out (x59_3 : Int) (dc_) (dc_); have HP49 := Kd.R_putg HO_4.out (x59_3 : Int) ((rd_T61 l0_1 x59_3).f0)) | ((with_reducible refine gate_store (t := 3) (p := 68) rfl ?_); refine store_event (t := 3) (p := 68) (v := ?vo_w50) (w1 := (w47.setCell ⟨go31, (x59_3 : Int).toNat, none⟩ (.int .i64 ((rd_T61 l0_1 x59_3).f0)))) ?hg ?ho ?hn ?hr ?_; (case ho => rfl); (case hg => rfl); (case hn => rfl); (case hr => first | (go_simp; done) | (go_simp; rfl)); intro w50 hw; have hg : w47.grownBy w50 (some go31) := (by rw [hw]; exact HP49.2); have hp_ : Kd.R (Kd.int .i64) 3 w50 w.heap.size (fun _ => True) (.slice (some ⟨go31, 0, none⟩) x4_3.length co31) y187 := (by rw [hw, Ny187.out]; exact HP49.1); clear HP49; have n0_ := Aside0.mk (hp_); have n1_ := Aside0.mk (blk_grown (g := gb181) (o := .cells #[.int .i64 a0_0, .slice (some ad185) l0_1.length c0_1, .int .i64 a0_2, .int .i64 a0_3] 54 (0, 0)) (bk_ BK181) hg (Kd.R_ne HO_4.out BK181.out (by decide))); have n2_ := Aside0.mk (blk_grown (g := gb186) (o := .cells #[.int .i64 ((rd_T61 l0_1 x59_3).f0), .string ((rd_T61 l0_1 x59_3).f1), .slice A185_2 ((rd_T61 l0_1 x59_3).f2).length c185_2] 61 (0, 0)) (bk_ BK186) hg (Kd.R_ne HO_4.out BK186.out (by decide))); have n3_ := Aside0.mk ((by rw [hw]; exact below_set (HB.out) GB31.out : Below w.heap.size w w50)); clear HO_4; clear BK181; clear BK186; clear HB; have HO_4 := n0_; have BK181 := n1_; have BK186 := n2_; have HB := n3_; clear n0_ n1_ n2_ n3_; clear hg hw hp_; have hcz51_0 : w50.cell? ⟨gb186, 0, none⟩ = some (.int .i64 ((rd_T61 l0_1 x59_3).f0)) := bc_ BK186 0; have hcz51_1 : w50.cell? ⟨gb186, 1, none⟩ = some (.string ((rd_T61 l0_1 x59_3).f1)) := bc_ BK186 1; have hcz51_2 : w50.cell? ⟨gb186, 2, none⟩ = some (.slice A185_2 ((rd_T61 l0_1 x59_3).f2).length c185_2) := bc_ BK186 2; have hfz51_0 := blk_frozen BK186.out 0; have hfz51_1 := blk_frozen BK186.out 1; have hfz51_2 := blk_frozen BK186.out 2; have hcz52_0 : w50.cell? ⟨gb181, 0, none⟩ = some (.int .i64 a0_0) := bc_ BK181 0; have hcz52_1 : w50.cell? ⟨gb181, 1, none⟩ = some (.slice (some ad185) l0_1.length c0_1) := bc_ BK181 1; have hcz52_2 : w50.cell? ⟨gb181, 2, none⟩ = some (.int .i64 a0_2) := bc_ BK181 2; have hcz52_3 : w50.cell? ⟨gb181, 3, none⟩ = some (.int .i64 a0_3) := bc_ BK181 3; have hfz52_0 := blk_frozen BK181.out 0; have hfz52_1 := blk_frozen BK181.out 1; have hfz52_2 := blk_frozen BK181.out 2; have hfz52_3 := blk_frozen BK181.out 3) | ((with_reducible refine gate_callee (f := 50) rfl ?_); refine goesL_ (some 72) rfl rfl Try.func50 (by kernel_rfl) rfl #[.agg #[.int .i64 ((rd_T61 l0_1 x59_3).f0), .string ((rd_T61 l0_1 x59_3).f1), .slice A185_2 ((rd_T61 l0_1 x59_3).f2).length c185_2], .int .i64 a0_0] rfl (by (try simp only [List.map_toArray, List.map_cons, List.map_nil]); first | done | rfl | (simp only [List.length_drop, List.length_take]; rfl)) ?_; (with_reducible refine (split_may.calls k3 ((rd_T61 l0_1 x59_3).f0) ((rd_T61 l0_1 x59_3).f1) _ _ ((rd_T61 l0_1 x59_3).f2) a0_0 false _ ?side1 ?side2 A32.out).mono ?_); (case side1 => repeat (first | exact (Kd.C_below HR185_2.out HB.out) | (with_reducible refine Kd.C_alloc ?_ _) | (with_reducible refine Kd.C_drewN ?_ _) | (with_reducible refine Kd.C_drew ?_))); (case side2 => exact HC185_2.out); rintro e w53 ⟨rfl, hb⟩; refine ⟨_, rfl, ?_⟩; have n0_ := Aside0.mk (Kd.R_below (ro_ HO_4) hb); have n1_ := Aside0.mk (blk_below (g := gb181) (o := .cells #[.int .i64 a0_0, .slice (some ad185) l0_1.length c0_1, .int .i64 a0_2, .int .i64 a0_3] 54 (0, 0)) (bk_ BK181) hb); have n2_ := Aside0.mk (blk_below (g := gb186) (o := .cells #[.int .i64 ((rd_T61 l0_1 x59_3).f0), .string ((rd_T61 l0_1 x59_3).f1), .slice A185_2 ((rd_T61 l0_1 x59_3).f2).length c185_2] 61 (0, 0)) (bk_ BK186) hb); have n3_ := Aside0.mk (below_step (be_ HB) hb); clear HO_4; clear BK181; clear BK186; clear HB; have HO_4 := n0_; have BK181 := n1_; have BK186 := n2_; have HB := n3_; clear n0_ n1_ n2_ n3_; (try clear hb); (try clear hb2); (try clear hk); (try clear hi)))
               go_ret
               exact ⟨re_, be_ HB⟩
             ·
              rw [if_neg c30] at H
              exact absurd H (by simp)
            ·
             rw [if_neg c29] at H
             exact absurd H (by simp)
           ·
            rw [if_neg c28] at H
            exact absurd H (by simp)
          ·
           rw [if_neg c27] at H
           have c27b0 : decide (x59_3 < (l0_1.length : Int)) = false := decide_eq_false c27
           clear c27
           replace H := Option.bind_eq_some_iff.mp H
           obtain ⟨t189, A540, H⟩ := H
           replace H : (if t189 = true then (some 0) else (some 1)) = some r := H
           have A54 := Aside0.mk A540
           clear A540
           by_cases c55 : t189 = true
           ·
            subst c55
            have H1 : (some 0) = some r := by rw [if_pos rfl] at H; exact H
            clear H
            have H := H1
            clear H1
            obtain rfl := Option.some.inj H
            obtain ⟨Ao56, co56, eo56⟩ := Kd.R_slice HO_4.out
            subst eo56
            go_wp2_with (first | ((with_reducible refine gate_callee (f := 51) rfl ?_); refine goesL_ (some 76) rfl rfl Try.func51 (by kernel_rfl) rfl #[.slice Ao56 x4_3.length co56, .int .i64 1048576] rfl (by (try simp only [List.map_toArray, List.map_cons, List.map_nil]); first | done | rfl | (simp only [List.length_drop, List.length_take]; rfl)) ?_; (with_reducible refine (split_Rising.calls k3 _ _ x4_3 1048576 true _ ?side1 ?side2 A54.out).mono ?_); (case side1 => repeat (first | exact (Kd.R_reads' HO_4.out).2.2 | (with_reducible refine Kd.C_alloc ?_ _) | (with_reducible refine Kd.C_drewN ?_ _) | (with_reducible refine Kd.C_drew ?_))); (case side2 => exact (Kd.R_reads' HO_4.out).2.1); rintro e w' ⟨rfl, ⟨nd, rfl⟩⟩; refine ⟨_, rfl, ?_⟩))
            go_ret
            exact ⟨re_, be_ HB⟩
           ·
            replace c55 := Bool.eq_false_iff.mpr c55
            subst c55
            have H1 : (some 1) = some r := by rw [if_neg (show ¬ (false = true) by decide)] at H; exact H
            clear H
            have H := H1
            clear H1
            obtain rfl := Option.some.inj H
            obtain ⟨Ao57, co57, eo57⟩ := Kd.R_slice HO_4.out
            subst eo57
            go_wp2_with (first | ((with_reducible refine gate_callee (f := 51) rfl ?_); refine goesL_ (some 76) rfl rfl Try.func51 (by kernel_rfl) rfl #[.slice Ao57 x4_3.length co57, .int .i64 1048576] rfl (by (try simp only [List.map_toArray, List.map_cons, List.map_nil]); first | done | rfl | (simp only [List.length_drop, List.length_take]; rfl)) ?_; (with_reducible refine (split_Rising.calls k3 _ _ x4_3 1048576 false _ ?side1 ?side2 A54.out).mono ?_); (case side1 => repeat (first | exact (Kd.R_reads' HO_4.out).2.2 | (with_reducible refine Kd.C_alloc ?_ _) | (with_reducible refine Kd.C_drewN ?_ _) | (with_reducible refine Kd.C_drew ?_))); (case side2 => exact (Kd.R_reads' HO_4.out).2.1); rintro e w' ⟨rfl, ⟨nd, rfl⟩⟩; refine ⟨_, rfl, ?_⟩))
            go_ret
            exact ⟨re_, be_ HB⟩
       ·
        rw [if_neg c22] at H
        exact absurd H (by simp)
      ·
       rw [if_neg c21] at H
       exact absurd H (by simp)
     ·
      replace c20 := Bool.eq_false_iff.mpr c20
      subst c20
      have H1 : (some 1) = some r := by rw [if_neg (show ¬ (false = true) by decide)] at H; exact H
      clear H
      have H := H1
      clear H1
      obtain rfl := Option.some.inj H
      go_wp2
      go_ret
      exact ⟨re_, be_ HB⟩

/-! ### slices_Clone_int_int: function 58 -/
def slices_Clone_int_int.f (l0 : List Int) : Option (List Int) := (some (([] : List Int) : List Int)).bind fun y190 => (if y190.length + l0.length < 17592186044416 then (some (y190 ++ l0)) else (none))
set_option maxHeartbeats 8000000 in
set_option maxRecDepth 100000 in
theorem slices_Clone_int_int.calls (A0 : Option Addr) (c0 : Nat) (l0 : List Int) (r : List Int) (w : World) (hr0 : Kd.C (Kd.int .i64) w A0 l0.length l0) (hc0 : l0.length ≤ c0) (h : slices_Clone_int_int.f l0 = some r) :
  Calls Try.prog 58 #[.slice A0 l0.length c0] w fun e w' => ∃ v0_ : Value, e = .returned (v0_) ∧ Kd.R (Kd.int .i64) 3 w' w.heap.size (fun _ => True) v0_ r ∧ Below w.heap.size w w' := by
 have HR0 := Aside0.mk hr0
 have HC0 := Aside0.mk hc0
 clear hr0 hc0
 have HB := Aside0.mk (Below.refl w.heap.size w)
 have H : ((some (([] : List Int) : List Int)).bind fun y190 => (if y190.length + l0.length < 17592186044416 then (some (y190 ++ l0)) else (none))) = some r := h
 clear h
 obtain ⟨y190, hy190⟩ : ∃ y_ : List Int, y_ = (([] : List Int)) := ⟨_, rfl⟩
 replace H : (if y190.length + l0.length < 17592186044416 then (some (y190 ++ l0)) else (none)) = some r := by first | (rw [hy190]; with_reducible exact H) | (have H2_ := (Option.bind_some _ _).symm.trans H; rw [hy190]; with_reducible exact H2_) | (have H2_ := (Option.bind_some _ _).symm.trans H; with_reducible exact H2_) | with_reducible exact H | (rw [hy190]; exact H) | exact H
 have Ny190 := Aside0.mk hy190
 clear hy190
 by_cases c2 : y190.length + l0.length < 17592186044416
 ·
  rw [if_pos c2] at H
  have LMc2 := Aside0.mk c2
  clear c2
  obtain ⟨y193, hy193⟩ : ∃ y_ : List Int, y_ = (y190 ++ l0) := ⟨_, rfl⟩
  replace H : (some y193) = some r := by first | (rw [hy193]; with_reducible exact H) | (have H2_ := (Option.bind_some _ _).symm.trans H; rw [hy193]; with_reducible exact H2_) | (have H2_ := (Option.bind_some _ _).symm.trans H; with_reducible exact H2_) | with_reducible exact H | (rw [hy193]; exact H) | exact H
  have Ny193 := Aside0.mk hy193
  clear hy193
  obtain rfl := Option.some.inj H
  cases A0 with
  | none =>
   have hl : l0 = [] := by
    have hh := HR0.out
    cases l0 with
    | nil => rfl
    | cons x xs =>
     obtain ⟨ad, had, _⟩ := hh.2.2 (by simp)
     cases had
   subst hl
   have hres : y193 = [] := by rw [Ny193.out, Ny190.out]; rfl
   have HRES := Aside0.mk hres
   clear hres
   have heq := fun (wx : World) => Lib.run_eql_slice_nil (P := Try.prog) wx 55 3 none 0 c0 0 0 Try.underlying55
   go_enter Try.func58, Try.ntmps58
   go_wp2
   go_ret
   exact ⟨_, rfl, by rw [HRES.out]; exact Kd.R_nil _ _ _ _ _, Below.refl _ _⟩
  | some ad0 =>
   have heq := fun (wx : World) => Lib.run_eql_slice_nil (P := Try.prog) wx 55 3 (some ad0) l0.length c0 0 0 Try.underlying55
   go_enter Try.func58, Try.ntmps58
   go_wp2_with (first | ((with_reducible refine gate_dst (N := 5) rfl ?_); refine Kd.R_lit (Kd.int .i64) _ 3 ?hg (N := 5) ?hd (xs := ([] : List Int)) (inner := []) (ok := fun _ => True) (okp := fun _ => True) ?hr ?hp (fun _ hk => hk) trivial (Below.refl _ _) (Nat.le_refl _) (by simp) ?_; (case hd => rfl); (case hg => rfl); (case hr => first | (go_simp; done) | (go_simp; rfl)); (case hp => exact (Reps.none _ _)); intro v191 w3 ho4 hb hg_ hnew_; clear hg_ hnew_; (first | rw [← Ny190.out] at ho4 | (simp only [Int.reduceToNat] at ho4; rw [← Ny190.out] at ho4)); have n0_ := Aside0.mk (Kd.R_lower ho4 (below_size (be_ HB))); have n1_ := Aside0.mk (below_step (be_ HB) hb); clear HB; have HO192 := n0_; have HB := n1_; clear n0_ n1_; clear hb ho4) | ((with_reducible refine gate_builtin (b := .append) (xs := #[.tmp 5, .tmp 6]) rfl ?_); at_builtin; refine Kd.R_append_rows (Kd.int .i64) (w0 := w) w.heap.size rfl (.tmp 5) (.tmp 6) 55 3 (.int .i64 0) 8 rfl Try.underlying55 info3 rfl (by decide) (by omega) v191 y190 l0 _ _ _ (fun _ => True) (fun _ => False) rfl rfl ?aO ?aR (fun _ _ h => h) (fun _ h => h.elim) ?aF ?aB ?aS ?aL ?_; (case aR => repeat (first | exact (Kd.C_below HR0.out HB.out) | (with_reducible refine Kd.C_alloc ?_ _) | (with_reducible refine Kd.C_drewN ?_ _) | (with_reducible refine Kd.C_drew ?_))); (case aB => exact (be_ HB)); (case aF => exact (fun _ _ => trivial)); (case aO => exact (ro_ HO192)); (case aS => exact (below_size (be_ HB))); (case aL => have := LMc2.out; omega); intro v194 w5 ho hb hg hat; rw [← Ny193.out] at ho; have n0_ := Aside0.mk (hb); have n1_ := Aside0.mk (ho); clear HB; clear HO192; have HB := n0_; have HO195 := n1_; clear n0_ n1_; clear ho hb hg hat))
   go_ret
   exact ⟨_, re_, by (with_reducible repeat (first | apply Kd.R_alloc | apply Kd.R_drewN | apply Kd.R_drew)); exact HO195.out, be_ HB⟩
 ·
  rw [if_neg c2] at H
  exact absurd H (by simp)

/-! ### split_Own: function 57 -/
def split_Own.f (a0_0 : Int) (a0_1 : ByteArray) (l0_2 : List Int) : Option (Int × ByteArray × List Int) := (slices_Clone_int_int.f l0_2).bind fun t198 => (some (a0_0, a0_1, t198))
set_option maxHeartbeats 8000000 in
set_option maxRecDepth 100000 in
theorem split_Own.calls (a0_0 : Int) (a0_1 : ByteArray) (A0_2 : Option Addr) (c0_2 : Nat) (l0_2 : List Int) (r1 : Int) (r2 : ByteArray) (r3 : List Int) (w : World) (hr0_2 : Kd.C (Kd.int .i64) w A0_2 l0_2.length l0_2) (hc0_2 : l0_2.length ≤ c0_2) (h : split_Own.f a0_0 a0_1 l0_2 = some (r1, r2, r3)) :
  Calls Try.prog 57 #[.agg #[.int .i64 a0_0, .string a0_1, .slice A0_2 l0_2.length c0_2]] w fun e w' => ∃ v2_ : Value, e = .returned (.agg #[.int .i64 r1, .string r2, v2_]) ∧ Kd.R (Kd.int .i64) 3 w' w.heap.size (fun _ => True) v2_ r3 ∧ Below w.heap.size w w' := by
 have hu61 := Try.underlying61
 have HR0_2 := Aside0.mk hr0_2
 have HC0_2 := Aside0.mk hc0_2
 clear hr0_2 hc0_2
 have HB := Aside0.mk (Below.refl w.heap.size w)
 have H : ((slices_Clone_int_int.f l0_2).bind fun t198 => (some (a0_0, a0_1, t198))) = some (r1, r2, r3) := h
 clear h
 replace H := Option.bind_eq_some_iff.mp H
 obtain ⟨t198, A20, H⟩ := H
 replace H : (some (a0_0, a0_1, t198)) = some (r1, r2, r3) := H
 have A2 := Aside0.mk A20
 clear A20
 simp only [Option.some.injEq, Prod.mk.injEq] at H
 obtain ⟨rfl, rfl, rfl⟩ := H
 go_enter Try.func57, Try.ntmps57
 go_wp2_with (first | ((with_reducible refine gate_dst (N := 1) rfl ?_); refine box_event ?hg (N := 1) ?hd (cs := #[.int .i64 a0_0, .string a0_1, .slice A0_2 l0_2.length c0_2]) (t := 61) ?hr ?_; (case hd => rfl); (case hg => rfl); (case hr => first | (go_simp; done) | (go_simp; rfl)); intro gb196 hg w3 hbox hb; have n0_ := Aside0.mk (below_step (be_ HB) hb); have n1_ := Aside0.mk (hbox); have n2_ := Aside0.mk ((by rw [hg]; exact (below_size (be_ HB)) : w.heap.size ≤ gb196)); have n3_ := Aside0.mk ((by rw [hg]; exact (below_size (be_ HB)) : w.heap.size ≤ gb196)); clear HB; have HB := n0_; have BK196 := n1_; have GW196 := n2_; have GE196 := n3_; clear n0_ n1_ n2_ n3_; clear hb hbox hg) | ((with_reducible refine gate_dst (N := 2) rfl ?_); refine box_event ?hg (N := 2) ?hd (cs := #[.int .i64 0, .string (⟨#[]⟩ : ByteArray), .slice none 0 0]) (t := 61) ?hr ?_; (case hd => rfl); (case hg => rfl); (case hr => first | (go_simp; done) | (go_simp; rfl)); intro gb197 hg w4 hbox hb; have n0_ := Aside0.mk (blk_below (g := gb196) (o := .cells #[.int .i64 a0_0, .string a0_1, .slice A0_2 l0_2.length c0_2] 61 (0, 0)) (bk_ BK196) hb); have n1_ := Aside0.mk (below_step (be_ HB) hb); have n2_ := Aside0.mk (hbox); have n3_ := Aside0.mk ((by rw [hg]; exact (below_size (be_ HB)) : w.heap.size ≤ gb197)); have n4_ := Aside0.mk ((by rw [hg]; exact (below_size (be_ HB)) : w.heap.size ≤ gb197)); have n5_ := Aside0.mk ((by rw [hg]; exact Nat.ne_of_lt (blk_lt (g := gb196) (o := .cells #[.int .i64 a0_0, .string a0_1, .slice A0_2 l0_2.length c0_2] 61 (0, 0)) (bk_ BK196)) : gb196 ≠ gb197)); have n6_ := Aside0.mk ((by rw [hg]; exact Nat.ne_of_gt (blk_lt (g := gb196) (o := .cells #[.int .i64 a0_0, .string a0_1, .slice A0_2 l0_2.length c0_2] 61 (0, 0)) (bk_ BK196)) : gb197 ≠ gb196)); clear BK196; clear HB; have BK196 := n0_; have HB := n1_; have BK197 := n2_; have GW197 := n3_; have GE197 := n4_; have NB196_197 := n5_; have NB197_196 := n6_; clear n0_ n1_ n2_ n3_ n4_ n5_ n6_; clear hb hbox hg; have hnb5 := NB196_197.out; have hnc5 := NB197_196.out; have hcz6_0 : w4.cell? ⟨gb196, 0, none⟩ = some (.int .i64 a0_0) := bc_ BK196 0; have hcz6_1 : w4.cell? ⟨gb196, 1, none⟩ = some (.string a0_1) := bc_ BK196 1; have hcz6_2 : w4.cell? ⟨gb196, 2, none⟩ = some (.slice A0_2 l0_2.length c0_2) := bc_ BK196 2; have hfz6_0 := blk_frozen BK196.out 0; have hfz6_1 := blk_frozen BK196.out 1; have hfz6_2 := blk_frozen BK196.out 2) | ((with_reducible refine gate_callee (f := 58) rfl ?_); refine goesL_ (some 5) rfl rfl Try.func58 (by kernel_rfl) rfl #[.slice A0_2 l0_2.length c0_2] rfl (by (try simp only [List.map_toArray, List.map_cons, List.map_nil]); first | done | rfl | (simp only [List.length_drop, List.length_take]; rfl)) ?_; (with_reducible refine (slices_Clone_int_int.calls _ _ l0_2 t198 _ ?side1 ?side2 A2.out).mono ?_); (case side1 => repeat (first | exact (Kd.C_below HR0_2.out HB.out) | (with_reducible refine Kd.C_alloc ?_ _) | (with_reducible refine Kd.C_drewN ?_ _) | (with_reducible refine Kd.C_drew ?_))); (case side2 => exact HC0_2.out); rintro e w7 ⟨v199, rfl, ho0, hb⟩; refine ⟨_, rfl, ?_⟩; have n0_ := Aside0.mk (Kd.R_lower ho0 (below_size (be_ HB))); have n1_ := Aside0.mk (blk_below (g := gb196) (o := .cells #[.int .i64 a0_0, .string a0_1, .slice A0_2 l0_2.length c0_2] 61 (0, 0)) (bk_ BK196) hb); have n2_ := Aside0.mk (blk_below (g := gb197) (o := .cells #[.int .i64 0, .string (⟨#[]⟩ : ByteArray), .slice none 0 0] 61 (0, 0)) (bk_ BK197) hb); have n3_ := Aside0.mk (below_step (be_ HB) hb); clear BK196; clear BK197; clear HB; have HO200 := n0_; have BK196 := n1_; have BK197 := n2_; have HB := n3_; clear n0_ n1_ n2_ n3_; (try clear hb); (try clear hb2); (try clear hk); (try clear hi); (try clear ho0); obtain ⟨Ao8, co8, eo8⟩ := Kd.R_slice HO200.out; subst eo8; have hcz9_0 : w7.cell? ⟨gb196, 0, none⟩ = some (.int .i64 a0_0) := bc_ BK196 0; have hcz9_1 : w7.cell? ⟨gb196, 1, none⟩ = some (.string a0_1) := bc_ BK196 1; have hcz9_2 : w7.cell? ⟨gb196, 2, none⟩ = some (.slice A0_2 l0_2.length c0_2) := bc_ BK196 2; have hfz9_0 := blk_frozen BK196.out 0; have hfz9_1 := blk_frozen BK196.out 1; have hfz9_2 := blk_frozen BK196.out 2; have hcz10_0 : w7.cell? ⟨gb197, 0, none⟩ = some (.int .i64 0) := bc_ BK197 0; have hcz10_1 : w7.cell? ⟨gb197, 1, none⟩ = some (.string (⟨#[]⟩ : ByteArray)) := bc_ BK197 1; have hcz10_2 : w7.cell? ⟨gb197, 2, none⟩ = some (.slice none 0 0) := bc_ BK197 2; have hfz10_0 := blk_frozen BK197.out 0; have hfz10_1 := blk_frozen BK197.out 1; have hfz10_2 := blk_frozen BK197.out 2))
 refine bodyPost_ret (results_cell_row rfl _ _ gb197 61 #[.int .i64 a0_0, .string a0_1, .slice Ao8 t198.length co8] (0, 0) _ rfl (by (with_reducible repeat (first | refine blk_drewN ?_ _ | refine blk_drew ?_ | refine blk_alloc ?_ _)); refine blk_put (cs := #[.int .i64 a0_0, .string a0_1, .slice none 0 0]) ?_ 2 _ rfl; (with_reducible repeat (first | refine blk_drewN ?_ _ | refine blk_drew ?_ | refine blk_alloc ?_ _)); refine blk_put (cs := #[.int .i64 a0_0, .string (⟨#[]⟩ : ByteArray), .slice none 0 0]) ?_ 1 _ rfl; (with_reducible repeat (first | refine blk_drewN ?_ _ | refine blk_drew ?_ | refine blk_alloc ?_ _)); refine blk_put (cs := #[.int .i64 0, .string (⟨#[]⟩ : ByteArray), .slice none 0 0]) ?_ 0 _ rfl; (with_reducible repeat (first | refine blk_drewN ?_ _ | refine blk_drew ?_ | refine blk_alloc ?_ _)); refine blk_far ?_ NB197_196.out _; (with_reducible repeat (first | refine blk_drewN ?_ _ | refine blk_drew ?_ | refine blk_alloc ?_ _)); exact BK197.out) Try.underlying61 rfl (by kernel_rfl)) rfl ?_
 exact ⟨_, re_, by (with_reducible repeat (first | apply Kd.R_alloc | apply Kd.R_drewN | apply Kd.R_drew)); exact Kd.R_mono (Kd.R_far (p := ⟨gb197, 2, none⟩) (Kd.R_far (p := ⟨gb197, 1, none⟩) (Kd.R_far (p := ⟨gb197, 0, none⟩) (Kd.R_far (p := ⟨gb196, 2, none⟩) (Kd.R_types (Kd.R_types HO200.out BK196.out (by decide)) BK197.out (by decide)) (fun _ hk => hk.1.2) (.slice Ao8 t198.length co8)) (fun _ hk => hk.2) (.int .i64 a0_0)) (fun _ hk => hk.2) (.string a0_1)) (fun _ hk => hk.2) (.slice Ao8 t198.length co8)) (fun _ hk => trivial), be_ HB⟩

end Go.Proofs.Ytgchbhepnfnhpaa.QSplit
