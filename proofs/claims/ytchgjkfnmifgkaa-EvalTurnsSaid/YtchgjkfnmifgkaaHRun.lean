/- What eval.Run answers, by hand. -/
import Derived.Test.YtchgjkfnmifgkaaHRun3
import Derived.Test.YtchgjkfnmifgkaaQEx6
import Derived.Test.YtchgjkfnmifgkaaQEx10
namespace Go.Proofs.Ytchgjkfnmifgkaa.QE
open Go.RowKit Go.Proofs.YtchgjkfnmifgkaaW.PrintWords Go.Proofs.YtchgjkfnmifgkaaW.PrintLast Go.Proofs.YtchgjkfnmifgkaaW.PrintMore
attribute [local go_sem] max2_int min2_int max_two min_two max_three min_three max_four min_four
set_option linter.unusedVariables false
set_option linter.unusedSimpArgs false

def eval_Run.f (k : Nat) (l0 : List S34) (a : Int) (b : ByteArray) (v : Int) (fu : Int) : Option (List S50 × Int × Int) :=
  (check_Check.f k l0).bind fun e => if e = 0 then
    (key_Check.f a b).bind fun e2 => if e2 = 0 then
      (if fu < 0 then some ([], 0, 1) else if fu > 2000 then some ([], 0, 1) else
        (mrun etwo eone a b v k l0 [] fu []).bind fun r => if r.1 = 0 then some (r.2.2.2, r.2.2.1, 0) else some ([], 0, r.1))
      else some ([], 0, 1)
    else some ([], 0, e)

theorem eval_Run.mono : ∀ l0 a b v fu k, LeO (eval_Run.f k l0 a b v fu) (eval_Run.f (k + 1) l0 a b v fu) := by
  intro l0 a b v fu k
  unfold eval_Run.f
  exact LeO.bind (check_Check.mono _ _) fun _ => LeO.ite (LeO.bind (LeO.refl _) fun _ => LeO.ite (LeO.ite (LeO.refl _) (LeO.ite (LeO.refl _) (LeO.bind ((m_mono _ _ _ _ _ _).1 _ _ _ _) fun _ => LeO.refl _))) (LeO.refl _)) (LeO.refl _)

set_option maxHeartbeats 8000000 in
set_option maxRecDepth 100000 in
theorem eval_Run.calls (k : Nat) (A0 : Option Addr) (c0 : Nat) (l0 : List S34) (a : Int) (b : ByteArray) (v : Int) (fu : Int) (r1 : List S50) (r2 : Int) (r3 : Int) (w : World) (hr0 : Kd.C k34 w A0 l0.length l0) (hc0 : l0.length ≤ c0) (h : eval_Run.f k l0 a b v fu = some (r1, r2, r3)) :
    Calls Try.prog 25 #[.slice A0 l0.length c0, .agg #[.int .i64 a, .string b, .int .i64 v], .int .i64 fu] w fun e w' => ∃ v0_ : Value, e = .returned (.tuple #[v0_, .int .i64 r2, .int .i64 r3]) ∧ Kd.R k50 50 w' w.heap.size (fun _ => True) v0_ r1 ∧ Below w.heap.size w w' := by
  have hu48 := Try.underlying48
  have hu50 := Try.underlying50
  have HR0 := Aside0.mk hr0
  have HC0 := Aside0.mk hc0
  clear hr0 hc0
  obtain ⟨e1, hl, H⟩ := Option.bind_eq_some_iff.mp h
  have HLC := Aside0.mk hl
  have HH := Aside0.mk H
  clear hl h H
  go_enter Try.func25, Try.ntmps25
  go_upto_region 2 with (first | ((with_reducible refine gate_dst (N := 4) rfl ?_); refine box_event ?hg (N := 4) ?hd (cs := #[.int .i64 a, .string b, .int .i64 v]) (t := 50) ?hr ?_; (case hd => rfl); (case hg => rfl); (case hr => first | (go_simp; done) | (go_simp; rfl)); intro gb hg w4 hbox hb; have GB := Aside0.mk hbox; have HB4 := Aside0.mk hb; have GE := Aside0.mk (show w.heap.size ≤ gb by rw [hg]; exact Nat.le_refl _); clear hbox hb hg) | ((with_reducible refine gate_callee (f := 36) rfl ?_); refine goesL_ (some 13) rfl rfl Try.func36 (by kernel_rfl) rfl #[.slice A0 l0.length c0] rfl (by (try simp only [List.map_toArray, List.map_cons, List.map_nil]); first | done | rfl) ?_; (with_reducible refine (check_Check.calls k _ _ l0 e1 _ (Kd.C_below HR0.out HB4.out) HC0.out HLC.out).mono ?_); rintro e w5 ⟨rfl, hb⟩; refine ⟨_, rfl, ?_⟩; have HB5 := Aside0.mk (below_step HB4.out hb); have GB5 := Aside0.mk (blk_below GB.out hb); clear hb))
  have H := HH.out
  clear HH GB HB4
  have hx0 : w5.cell? ⟨gb, 0, none⟩ = some (.int .i64 a) := (blk_cell GB5.out 0).trans rfl
  have hx1 : w5.cell? ⟨gb, 1, none⟩ = some (.string b) := (blk_cell GB5.out 1).trans rfl
  have hx2 : w5.cell? ⟨gb, 2, none⟩ = some (.int .i64 v) := (blk_cell GB5.out 2).trans rfl
  by_cases c1 : e1 = 0
  · subst c1
    rw [if_pos rfl] at H
    obtain ⟨e2, hk, H⟩ := Option.bind_eq_some_iff.mp H
    have HK := Aside0.mk hk
    clear hk
    by_cases c2 : e2 = 0
    · subst c2
      rw [if_pos rfl] at H
      by_cases c3 : fu < 0
      · rw [if_pos c3] at H
        obtain ⟨rfl, rfl, rfl⟩ : [] = r1 ∧ 0 = r2 ∧ 1 = r3 := by simpa using H
        have c3b0 : decide (fu < 0) = true := decide_eq_true c3
        clear H
        go_wp2_with (first | ((with_reducible refine gate_callee (f := 43) rfl ?_); refine goesL_ (some 19) rfl rfl Try.func43 (by kernel_rfl) rfl #[.agg #[.int .i64 a, .string b]] rfl (by (try simp only [List.map_toArray, List.map_cons, List.map_nil]); first | done | rfl) ?_; (with_reducible refine (key_Check.calls a b 0 _ HK.out).mono ?_); rintro e w6 ⟨rfl, hb⟩; refine ⟨_, rfl, ?_⟩; have HB6 := Aside0.mk (below_step HB5.out hb); clear hb))
        go_ret3
        exact ⟨_, rfl, Kd.R_nil _ _ _ _ _, HB6.out⟩
      · rw [if_neg c3] at H
        have c3b0 : decide (fu < 0) = false := decide_eq_false c3
        by_cases c4 : fu > 2000
        · rw [if_pos c4] at H
          obtain ⟨rfl, rfl, rfl⟩ : [] = r1 ∧ 0 = r2 ∧ 1 = r3 := by simpa using H
          have c4b0 : decide (2000 < fu) = true := decide_eq_true c4
          clear H
          go_wp2_with (first | ((with_reducible refine gate_callee (f := 43) rfl ?_); refine goesL_ (some 19) rfl rfl Try.func43 (by kernel_rfl) rfl #[.agg #[.int .i64 a, .string b]] rfl (by (try simp only [List.map_toArray, List.map_cons, List.map_nil]); first | done | rfl) ?_; (with_reducible refine (key_Check.calls a b 0 _ HK.out).mono ?_); rintro e w6 ⟨rfl, hb⟩; refine ⟨_, rfl, ?_⟩; have HB6 := Aside0.mk (below_step HB5.out hb); clear hb))
          go_ret3
          exact ⟨_, rfl, Kd.R_nil _ _ _ _ _, HB6.out⟩
        · rw [if_neg c4] at H
          have c4b0 : decide (2000 < fu) = false := decide_eq_false c4
          obtain ⟨⟨e3, st3, fu3, out3⟩, hrun, H⟩ := Option.bind_eq_some_iff.mp H
          dsimp only at H
          have HRUN := Aside0.mk hrun
          have HH := Aside0.mk H
          clear hrun H
          go_upto_region 7 with (first | ((with_reducible refine gate_callee (f := 43) rfl ?_); refine goesL_ (some 19) rfl rfl Try.func43 (by kernel_rfl) rfl #[.agg #[.int .i64 a, .string b]] rfl (by (try simp only [List.map_toArray, List.map_cons, List.map_nil]); first | done | rfl) ?_; (with_reducible refine (key_Check.calls a b 0 _ HK.out).mono ?_); rintro e w6 ⟨rfl, hb⟩; refine ⟨_, rfl, ?_⟩; have HB6 := Aside0.mk (below_step HB5.out hb); have GB6 := Aside0.mk (blk_below GB5.out hb); have hy0 : w6.cell? ⟨gb, 0, none⟩ = some (.int .i64 a) := (blk_cell GB6.out 0).trans rfl; have hy1 : w6.cell? ⟨gb, 1, none⟩ = some (.string b) := (blk_cell GB6.out 1).trans rfl; have hy2 : w6.cell? ⟨gb, 2, none⟩ = some (.int .i64 v) := (blk_cell GB6.out 2).trans rfl; clear hb) | ((with_reducible refine gate_dst (N := 32) rfl ?_); refine box_event ?hg (N := 32) ?hd (cs := #[.int .i64 a, .string b, .int .i64 v, .slice none 0 0, .int .i64 fu, .slice none 0 0]) (t := 82) ?hr ?_; (case hd => rfl); (case hg => rfl); (case hr => first | (go_simp; done) | (go_simp; rfl)); intro g hg w7 hbox hb; have HM7 := Aside0.mk (show Mach w w7 g a b v [] fu [] (.slice none 0 0) (.slice none 0 0) from ⟨hbox, by rw [hg]; exact below_size HB6.out, below_step HB6.out hb, Kd.R_nil _ _ _ _ _, Kd.R_nil _ _ _ _ _⟩); clear hbox hb hg))
          go_wp2_with (fail)
          refine (machine_block.calls a b v k w _ g [] fu [] _ _ A0 c0 l0 _ HM7.out HR0.out HC0.out HRUN.out).mono ?_
          rintro e w8 ⟨rfl, vs8, vo8, hm8⟩
          obtain ⟨A8, c8, rfl⟩ := Kd.R_slice hm8.ro
          have HM8 := Aside0.mk hm8
          have H := HH.out
          clear hm8 HH HM7
          dsimp only
          by_cases c5 : e3 = 0
          · subst c5
            rw [if_pos rfl] at H
            obtain ⟨rfl, rfl, rfl⟩ : out3 = r1 ∧ fu3 = r2 ∧ 0 = r3 := by simpa using H
            clear H
            have hz5 : w8.cell? ⟨g, 5, none⟩ = some (.slice A8 out3.length c8) := (blk_cell HM8.out.blk 5).trans rfl
            have hz4 : w8.cell? ⟨g, 4, none⟩ = some (.int .i64 fu3) := (blk_cell HM8.out.blk 4).trans rfl
            go_wp2
            go_region
            go_wp2
            go_ret3
            exact ⟨_, rfl, Kd.R_drew HM8.out.ro, below_drew1 HM8.out.bel⟩
          · rw [if_neg c5] at H
            obtain ⟨rfl, rfl, rfl⟩ : [] = r1 ∧ 0 = r2 ∧ e3 = r3 := by simpa using H
            have c5b0 : (e3 == 0) = false := beq_eq_false_iff_ne.mpr c5
            have c5b1 : (e3 != 0) = true := bne_iff_ne.mpr c5
            clear H
            go_wp2
            go_ret3
            exact ⟨_, rfl, Kd.R_nil _ _ _ _ _, HM8.out.bel⟩
    · rw [if_neg c2] at H
      obtain ⟨rfl, rfl, rfl⟩ : [] = r1 ∧ 0 = r2 ∧ 1 = r3 := by simpa using H
      have c2b0 : (e2 == 0) = false := beq_eq_false_iff_ne.mpr c2
      have c2b1 : (e2 != 0) = true := bne_iff_ne.mpr c2
      clear H
      go_wp2_with (first | ((with_reducible refine gate_callee (f := 43) rfl ?_); refine goesL_ (some 19) rfl rfl Try.func43 (by kernel_rfl) rfl #[.agg #[.int .i64 a, .string b]] rfl (by (try simp only [List.map_toArray, List.map_cons, List.map_nil]); first | done | rfl) ?_; (with_reducible refine (key_Check.calls a b e2 _ HK.out).mono ?_); rintro e w6 ⟨rfl, hb⟩; refine ⟨_, rfl, ?_⟩; have HB6 := Aside0.mk (below_step HB5.out hb); clear hb))
      go_ret3
      exact ⟨_, rfl, Kd.R_nil _ _ _ _ _, HB6.out⟩
  · rw [if_neg c1] at H
    obtain ⟨rfl, rfl, rfl⟩ : [] = r1 ∧ 0 = r2 ∧ e1 = r3 := by simpa using H
    have c1b0 : (e1 == 0) = false := beq_eq_false_iff_ne.mpr c1
    have c1b1 : (e1 != 0) = true := bne_iff_ne.mpr c1
    clear H
    go_wp2
    go_ret3
    exact ⟨_, rfl, Kd.R_nil _ _ _ _ _, HB5.out⟩

end Go.Proofs.Ytchgjkfnmifgkaa.QE
