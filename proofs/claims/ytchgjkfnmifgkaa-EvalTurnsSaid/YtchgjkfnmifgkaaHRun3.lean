/- The program's machine, by hand: a repetition, a block, and eval.Run. -/
import Derived.Test.YtchgjkfnmifgkaaHRun2
namespace Go.Proofs.Ytchgjkfnmifgkaa.QE
open Go.RowKit Go.Proofs.YtchgjkfnmifgkaaW.PrintWords Go.Proofs.YtchgjkfnmifgkaaW.PrintLast Go.Proofs.YtchgjkfnmifgkaaW.PrintMore
attribute [local go_sem] max2_int min2_int max_two min_two max_three min_three max_four min_four
set_option linter.unusedVariables false
set_option linter.unusedSimpArgs false


set_option maxHeartbeats 8000000 in
set_option maxRecDepth 100000 in
theorem machine_repeat.calls (a : Int) (b : ByteArray) (v : Int) (k : Nat) (ih : ∀ j, j < k → RunSpec a b v j) : RepSpec a b v k := by
  intro w0 w g st fu out vs vo n A0 c0 l0 r hm hr hc h
  cases k with
  | zero => simp [mrep] at h
  | succ k =>
  have HR := Aside0.mk hr
  have HC := Aside0.mk hc
  have HM := Aside0.mk hm
  have H' := Aside0.mk h
  clear hr hc hm h
  go_enter Try.func63, Try.ntmps63
  go_wp2
  go_loopg [1] (k + 1) (fun kq v1 w' => ∃ (n1 : Int) (st1 : List Int) (fu1 : Int) (out1 : List S50) (vs1 vo1 : Value), v1 = .int .i64 n1 ∧ Aside0 (mrep etwo eone a b v kq n1 l0 st1 fu1 out1 = some r) ∧ Aside0 (kq ≤ k + 1) ∧ Aside0 (Mach w0 w' g a b v st1 fu1 out1 vs1 vo1))
  case atStart => exact ⟨n, st, fu, out, vs, vo, rfl, H', ⟨Nat.le_refl _⟩, HM⟩
  case round =>
    clear H' HM
    obtain ⟨n1, st1, fu1, out1, vs1, vo1, rfl, HA, HK1, HM⟩ := hrel
    cases gk with
    | zero => exact absurd HA.out (by simp [mrep])
    | succ k1 =>
      have H := HA.out
      clear HA
      simp only [mrep] at H
      by_cases c1 : n1 > 0
      · rw [if_pos c1] at H
        have c1b0 : decide (0 < n1) = true := decide_eq_true c1
        by_cases c2 : (l0.length : Int) > 0
        · rw [if_pos c2] at H
          have c2b0 : decide (0 < (l0.length : Int)) = true := decide_eq_true c2
          obtain ⟨⟨e1, st2, fu2, out2⟩, hrun, H⟩ := Option.bind_eq_some_iff.mp H
          dsimp only at H
          have HH := Aside0.mk H
          have HRUN := Aside0.mk hrun
          clear H hrun
          go_wp2_with (fail)
          refine (ih k1 (by have := HK1.out; omega) w0 _ g st1 fu1 out1 vs1 vo1 A0 c0 l0 _ HM.out HR.out HC.out HRUN.out).mono ?_
          rintro e w5 ⟨rfl, vs5, vo5, hm5⟩
          have HM5 := Aside0.mk hm5
          have H := HH.out
          clear hm5 HM HH
          dsimp only
          by_cases c3 : e1 = 0
          · subst c3
            rw [if_pos rfl] at H
            have H' := Aside0.mk H
            clear H
            go_wp2
            go_roundg k1
            case measure => have := HK1.out; omega
            case rel => exact ⟨wrap64 (n1 - 1), st2, fu2, out2, vs5, vo5, rfl, H', ⟨by have := HK1.out; omega⟩, HM5⟩
          · rw [if_neg c3] at H
            obtain rfl := Option.some.inj H
            have c3b0 : (e1 == 0) = false := beq_eq_false_iff_ne.mpr c3
            have c3b1 : (e1 != 0) = true := bne_iff_ne.mpr c3
            clear H
            go_wp2
            go_ret
            exact ⟨rfl, _, _, HM5.out⟩
        · rw [if_neg c2] at H
          obtain rfl := Option.some.inj H
          have c2b0 : decide (0 < (l0.length : Int)) = false := decide_eq_false c2
          clear H
          go_wp2
          go_ret
          exact ⟨rfl, _, _, HM.out⟩
      · rw [if_neg c1] at H
        obtain rfl := Option.some.inj H
        have c1b0 : decide (0 < n1) = false := decide_eq_false c1
        clear H
        go_wp2
        go_ret
        exact ⟨rfl, _, _, HM.out⟩

theorem rd_T34_get' {l : List S34} {i : Nat} (h : i < l.length) : rd_T34 l (i : Int) = l[i] := by
  unfold rd_T34
  rw [List.getD_eq_getElem?_getD]
  simp [h]

set_option maxHeartbeats 8000000 in
set_option maxRecDepth 100000 in
theorem machine_block.calls (a : Int) (b : ByteArray) (v : Int) : ∀ k, RunSpec a b v k := by
  intro k
  induction k using Nat.strongRecOn with
  | _ k ih =>
  intro w0 w g st fu out vs vo A0 c0 l0 r hm hr hc h
  cases k with
  | zero => simp [mrun] at h
  | succ k =>
  have hu34 := Try.underlying34
  have HL := Aside0.mk (mrun.len etwo eone a b v h)
  have HR := Aside0.mk hr
  have HC := Aside0.mk hc
  have HM := Aside0.mk hm
  have H' := Aside0.mk h
  clear hr hc hm h
  go_enter Try.func44, Try.ntmps44
  go_wp2
  go_loopg [10] (k + 1) (fun kq v10 w' => ∃ (i : Nat) (xi : Int) (st1 : List Int) (fu1 : Int) (out1 : List S50) (vs1 vo1 : Value), v10 = .int .i64 xi ∧ Aside0 (mrun etwo eone a b v kq (l0.drop i) st1 fu1 out1 = some r) ∧ Aside0 (xi = i) ∧ Aside0 (i ≤ l0.length) ∧ Aside0 (kq ≤ k + 1) ∧ Aside0 (Mach w0 w' g a b v st1 fu1 out1 vs1 vo1))
  case atStart => exact ⟨0, 0, st, fu, out, vs, vo, rfl, H', ⟨rfl⟩, ⟨Nat.zero_le _⟩, ⟨Nat.le_refl _⟩, HM⟩
  case round =>
    clear H' HM
    obtain ⟨i, xi, st1, fu1, out1, vs1, vo1, rfl, HA, HXI, HI, HK1, HM⟩ := hrel
    cases gk with
    | zero => exact absurd HA.out (by simp [mrun])
    | succ k1 =>
      have H := HA.out
      clear HA
      have HX := HXI.out
      subst HX
      by_cases hi : i < l0.length
      · rw [List.drop_eq_getElem_cons hi, ← rd_T34_get' hi] at H
        simp only [mrun] at H
        split at H
        case isFalse => simp at H
        have HH := Aside0.mk H
        clear H
        have c3b0 : decide ((i : Int) < (l0.length : Int)) = true := decide_eq_true (by omega)
        have p107 : 0 ≤ (i : Int) := by omega
        have q107 : (i : Int) < l0.length := by omega
        obtain ⟨ad107, A2, c2, e107, hx0, hx1, hx2, hl2, hr2⟩ := at_T34 HR.out (i : Int) p107 q107
        cases e107
        rw [Int.toNat_natCast] at hx0 hx1 hx2
        replace hx0 := (HM.out.bel.cell (World.block_lt_of_cell? w0 _ hx0)).trans hx0
        replace hx1 := (HM.out.bel.cell (World.block_lt_of_cell? w0 _ hx1)).trans hx1
        replace hx2 := (HM.out.bel.cell (World.block_lt_of_cell? w0 _ hx2)).trans hx2
        have HR2 := Aside0.mk hr2
        have HC2 := Aside0.mk hl2
        clear hr2 hl2
        replace p107 := eq_true p107
        replace q107 := eq_true q107
        go_upto_region 4 with (first | ((with_reducible refine gate_dst (N := 6) rfl ?_); (try (refine gate_guard (by rfl) ?_; dsimp only)); refine box_event ?hg (N := 6) ?hd (cs := #[.int .i64 0, .int .i64 0, .slice none 0 0]) (t := 34) ?hr ?_; (case hd => rfl); (case hg => rfl); (case hr => first | (go_simp; done) | (go_simp; rfl)); intro gb hg w7 hbox hb; have GB := Aside0.mk hbox; have HM7 := Aside0.mk (HM.out.below hb); have GE := Aside0.mk (show w0.heap.size ≤ gb by rw [hg]; exact below_size HM.out.bel); have HNE := Aside0.mk (blk_ne HM7.out.blk hbox (by decide)); clear hbox hb hg; have hcz0 : w7.cell? ⟨gb, 0, none⟩ = some (.int .i64 0) := (blk_cell GB.out 0).trans rfl; have hcz1 : w7.cell? ⟨gb, 1, none⟩ = some (.int .i64 0) := (blk_cell GB.out 1).trans rfl; have hcz2 : w7.cell? ⟨gb, 2, none⟩ = some (.slice none 0 0) := (blk_cell GB.out 2).trans rfl; have hfz0 := blk_frozen GB.out 0; have hfz1 := blk_frozen GB.out 1; have hfz2 := blk_frozen GB.out 2))
        have GB1 := Aside0.mk (blk_put (cs := #[.int .i64 0, .int .i64 0, .slice none 0 0]) (cs' := #[.int .i64 ((rd_T34 l0 (i : Int)).f0), .int .i64 0, .slice none 0 0]) GB.out 0 (.int .i64 ((rd_T34 l0 (i : Int)).f0)) rfl)
        have GB2 := Aside0.mk (blk_put (cs := #[.int .i64 ((rd_T34 l0 (i : Int)).f0), .int .i64 0, .slice none 0 0]) (cs' := #[.int .i64 ((rd_T34 l0 (i : Int)).f0), .int .i64 ((rd_T34 l0 (i : Int)).f1), .slice none 0 0]) GB1.out 1 (.int .i64 ((rd_T34 l0 (i : Int)).f1)) rfl)
        have GB8 := Aside0.mk (blk_put (cs := #[.int .i64 ((rd_T34 l0 (i : Int)).f0), .int .i64 ((rd_T34 l0 (i : Int)).f1), .slice none 0 0]) (cs' := #[.int .i64 ((rd_T34 l0 (i : Int)).f0), .int .i64 ((rd_T34 l0 (i : Int)).f1), .slice A2 (rd_T34 l0 (i : Int)).f2.length c2]) GB2.out 2 (.slice A2 (rd_T34 l0 (i : Int)).f2.length c2) rfl)
        have HM8 := Aside0.mk (((HM7.out.far (j := 0) (.int .i64 ((rd_T34 l0 (i : Int)).f0)) GB.out GE.out (by decide)).far (j := 1) (.int .i64 ((rd_T34 l0 (i : Int)).f1)) GB1.out GE.out (by decide)).far (j := 2) (.slice A2 (rd_T34 l0 (i : Int)).f2.length c2) GB2.out GE.out (by decide))
        generalize hw8 : (((w7.setCell ⟨gb, 0, none⟩ (.int .i64 ((rd_T34 l0 (i : Int)).f0))).setCell ⟨gb, 1, none⟩ (.int .i64 ((rd_T34 l0 (i : Int)).f1))).setCell ⟨gb, 2, none⟩ (.slice A2 (rd_T34 l0 (i : Int)).f2.length c2)) = w8 at GB8 HM8 ⊢
        clear hw8 GB GB1 GB2 HM HM7
        have H := HH.out
        clear HH
        have hz4 : w8.cell? ⟨g, 4, none⟩ = some (.int .i64 fu1) := (blk_cell HM8.out.blk 4).trans rfl
        have hzf4 := blk_frozen HM8.out.blk 4
        by_cases c1 : fu1 = 0
        · subst c1
          rw [if_pos rfl] at H
          obtain rfl := Option.some.inj H
          clear H
          go_wp2
          go_ret
          exact ⟨rfl, _, _, HM8.out⟩
        · rw [if_neg c1] at H
          have c1b0 : (fu1 == 0) = false := beq_eq_false_iff_ne.mpr c1
          obtain ⟨⟨e1, st2, fu2, out2⟩, hdo, H⟩ := Option.bind_eq_some_iff.mp H
          dsimp only at H
          have HH := Aside0.mk H
          have HDO := Aside0.mk hdo
          clear H hdo
          go_upto_region 7 with (fail)
          have GB9 := Aside0.mk (blk_far (p := ⟨g, 4, none⟩) GB8.out (Ne.symm HNE.out) (.int .i64 (wrap64 (fu1 - 1))))
          have HM9 := Aside0.mk (HM8.out.setFuel (wrap64 (fu1 - 1)))
          generalize hw9 : w8.setCell ⟨g, 4, none⟩ (.int .i64 (wrap64 (fu1 - 1))) = w9 at GB9 HM9 ⊢
          clear hw9 GB8 HM8 hz4 hzf4
          have hcz0 : w9.cell? ⟨gb, 0, none⟩ = some (.int .i64 (rd_T34 l0 (i : Int)).f0) := (blk_cell GB9.out 0).trans rfl
          have hcz1 : w9.cell? ⟨gb, 1, none⟩ = some (.int .i64 (rd_T34 l0 (i : Int)).f1) := (blk_cell GB9.out 1).trans rfl
          have hcz2 : w9.cell? ⟨gb, 2, none⟩ = some (.slice A2 (rd_T34 l0 (i : Int)).f2.length c2) := (blk_cell GB9.out 2).trans rfl
          go_wp2_with (fail)
          cases k1 with
          | zero => exact absurd HDO.out (by simp [mdo])
          | succ k2 =>
          refine (machine_do.calls a b v k2 (machine_repeat.calls a b v k2 (fun j hj => ih j (by have := HK1.out; omega))) w0 _ g st1 (wrap64 (fu1 - 1)) out1 vs1 vo1 (rd_T34 l0 (i : Int)) A2 c2 _ HM9.out HR2.out HC2.out HDO.out).mono ?_
          rintro e w10 ⟨rfl, vs10, vo10, hm10⟩
          have HM10 := Aside0.mk hm10
          have H := HH.out
          clear hm10 HM9 HH hcz0 hcz1 hcz2 GB9
          dsimp only
          by_cases c3 : e1 = 0
          · subst c3
            rw [if_pos rfl] at H
            have H' := Aside0.mk H
            clear H
            go_wp2
            go_roundg (k2 + 1)
            case measure => have := HK1.out; omega
            case rel => exact ⟨i + 1, wrap64 (i + 1), st2, fu2, out2, vs10, vo10, rfl, H', ⟨by have := HL.out; unfold wrap64; omega⟩, ⟨hi⟩, ⟨by have := HK1.out; omega⟩, HM10⟩
          · rw [if_neg c3] at H
            obtain rfl := Option.some.inj H
            have c3b0 : (e1 == 0) = false := beq_eq_false_iff_ne.mpr c3
            have c3b1 : (e1 != 0) = true := bne_iff_ne.mpr c3
            clear H
            go_wp2
            go_ret
            exact ⟨rfl, _, _, HM10.out⟩
      · have hi2 : l0.drop i = [] := List.drop_eq_nil_of_le (by omega)
        rw [hi2] at H
        simp only [mrun] at H
        obtain rfl := Option.some.inj H
        have c3b0 : decide ((i : Int) < (l0.length : Int)) = false := decide_eq_false (by omega)
        clear H
        go_wp2
        go_ret
        exact ⟨rfl, _, _, HM.out⟩

end Go.Proofs.Ytchgjkfnmifgkaa.QE
