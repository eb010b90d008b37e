/- The program's machine, by hand: an op, a repetition, a block, and eval.Run. -/
import Derived.Test.YtchgjkfnmifgkaaHRun1
import Derived.Test.YtchgjkfnmifgkaaHRev
import Derived.Test.YtchgjkfnmifgkaaQEx11
import Derived.StillTailTactics
namespace Go.Proofs.Ytchgjkfnmifgkaa.QE
open Go.RowKit Go.Proofs.YtchgjkfnmifgkaaW.PrintWords Go.Proofs.YtchgjkfnmifgkaaW.PrintLast Go.Proofs.YtchgjkfnmifgkaaW.PrintMore
attribute [local go_sem] max2_int min2_int max_two min_two max_three min_three max_four min_four
set_option linter.unusedVariables false
set_option linter.unusedSimpArgs false

def etwo (kind n m : Int) : Option Int := eval_two.f 9 kind n m
def width (kind : Int) : Int := if kind = 19 ∨ kind = 22 then 8 else if kind = 20 ∨ kind = 23 then 16 else 32
def eone (kind n : Int) : Option Int := if kind = 18 then some (if n = 0 then 1 else 0) else (num_Cut.f 9 n (width kind) (decide (kind ≥ 22))).bind fun p => some p.1

set_option maxHeartbeats 8000000 in
set_option maxRecDepth 100000 in
theorem eone.calls (kind n r : Int) (w : World) (h1 : 18 ≤ kind) (h2 : kind ≤ 24) (h : eone kind n = some r) :
    Calls Try.prog 61 #[.int .i64 kind, .int .i64 n] w fun e w' => e = .returned (.int .i64 r) ∧ Drawn0 w w' := by
  by_cases c1 : kind = 18
  · subst c1
    unfold eone at h
    rw [if_pos rfl] at h
    by_cases c2 : n = 0
    · subst c2
      rw [if_pos rfl] at h
      obtain rfl := Option.some.inj h
      go_enter Try.func61, Try.ntmps61
      go_wp2_with (first | (go_at_call 64; (with_reducible refine (eval_truth.calls _ 1 _ (by decide)).mono ?_); rintro e w' ⟨rfl, ⟨nd, rfl⟩⟩))
      go_ret
      exact ⟨rfl, by repeat (first | exact Drawn0.refl _ | apply Drawn0.step)⟩
    · rw [if_neg c2] at h
      obtain rfl := Option.some.inj h
      have c2b0 : (n == 0) = false := beq_eq_false_iff_ne.mpr c2
      go_enter Try.func61, Try.ntmps61
      go_wp2_with (first | (go_at_call 64; (with_reducible refine (eval_truth.calls _ 0 _ (by decide)).mono ?_); rintro e w' ⟨rfl, ⟨nd, rfl⟩⟩))
      go_ret
      exact ⟨rfl, by repeat (first | exact Drawn0.refl _ | apply Drawn0.step)⟩
  · unfold eone at h
    rw [if_neg c1] at h
    obtain ⟨⟨p1, p2⟩, hp, h⟩ := Option.bind_eq_some_iff.mp h
    obtain rfl := Option.some.inj h
    have hk : kind = 19 ∨ kind = 20 ∨ kind = 21 ∨ kind = 22 ∨ kind = 23 ∨ kind = 24 := by omega
    have HP := Aside0.mk hp
    clear hp h c1 h1 h2
    rcases hk with rfl | rfl | rfl | rfl | rfl | rfl
    all_goals
      go_enter Try.func61, Try.ntmps61
      go_wp2_with (first | (go_at_call 73; (refine (num_Cut.calls 9 n _ _ p1 p2 _ HP.out).mono ?_); rintro e w' ⟨rfl, ⟨nd, rfl⟩⟩))
      go_ret
      exact ⟨rfl, by repeat (first | exact Drawn0.refl _ | apply Drawn0.step)⟩

section
variable (a : Int) (b : ByteArray) (v : Int)
/-- What is told of a repetition of ops, in k rounds. -/
def RepSpec (k : Nat) : Prop := ∀ (w0 w : World) (g : Nat) (st : List Int) (fu : Int) (out : List S50) (vs vo : Value) (n : Int) (A0 : Option Addr) (c0 : Nat) (l0 : List S34) (r : Int × List Int × Int × List S50), Mach w0 w g a b v st fu out vs vo → Kd.C k34 w0 A0 l0.length l0 → l0.length ≤ c0 → mrep etwo eone a b v k n l0 st fu out = some r →
  Calls Try.prog 63 #[.pointer (some ⟨g, 0, none⟩), .int .i64 n, .slice A0 l0.length c0] w fun e w' => e = .returned (.int .i64 r.1) ∧ ∃ vs' vo', Mach w0 w' g a b v r.2.1 r.2.2.1 r.2.2.2 vs' vo'
def RunSpec (k : Nat) : Prop := ∀ (w0 w : World) (g : Nat) (st : List Int) (fu : Int) (out : List S50) (vs vo : Value) (A0 : Option Addr) (c0 : Nat) (l0 : List S34) (r : Int × List Int × Int × List S50), Mach w0 w g a b v st fu out vs vo → Kd.C k34 w0 A0 l0.length l0 → l0.length ≤ c0 → mrun etwo eone a b v k l0 st fu out = some r →
  Calls Try.prog 44 #[.pointer (some ⟨g, 0, none⟩), .slice A0 l0.length c0] w fun e w' => e = .returned (.int .i64 r.1) ∧ ∃ vs' vo', Mach w0 w' g a b v r.2.1 r.2.2.1 r.2.2.2 vs' vo'
end

set_option maxHeartbeats 8000000 in
set_option maxRecDepth 100000 in
theorem machine_do.calls (a : Int) (b : ByteArray) (v : Int) (k : Nat) (hrep : RepSpec a b v k) (w0 w : World) (g : Nat) (st : List Int) (fu : Int) (out : List S50) (vs vo : Value) (x : S34) (A : Option Addr) (c : Nat) (r : Int × List Int × Int × List S50) (hm : Mach w0 w g a b v st fu out vs vo) (hr : Kd.C k34 w0 A x.f2.length x.f2) (hc : x.f2.length ≤ c) (h : mdo etwo eone a b v (k + 1) x st fu out = some r) :
    Calls Try.prog 53 #[.pointer (some ⟨g, 0, none⟩), .agg #[.int .i64 x.f0, .int .i64 x.f1, .slice A x.f2.length c]] w fun e w' => e = .returned (.int .i64 r.1) ∧ ∃ vs' vo', Mach w0 w' g a b v r.2.1 r.2.2.1 r.2.2.2 vs' vo' := by
  have hu34 := Try.underlying34
  have HR := Aside0.mk hr
  have HC := Aside0.mk hc
  have HM := Aside0.mk hm
  have HF := Aside0.mk hrep
  clear hr hc hm hrep
  obtain ⟨fx, fn, l⟩ := x
  simp only [mdo] at h
  have HH := Aside0.mk h
  clear h
  go_enter Try.func53, Try.ntmps53
  go_upto_region 1 with (first | ((with_reducible refine gate_dst (N := 3) rfl ?_); refine box_event ?hg (N := 3) ?hd (cs := #[.int .i64 fx, .int .i64 fn, .slice A l.length c]) (t := 34) ?hr ?_; (case hd => rfl); (case hg => rfl); (case hr => first | (go_simp; done) | (go_simp; rfl)); intro gb hg w4 hbox hb; have GB := Aside0.mk hbox; have HM4 := Aside0.mk (HM.out.below hb); have GE := Aside0.mk (show w0.heap.size ≤ gb by rw [hg]; exact below_size HM.out.bel); clear hbox hb hg))
  have H := HH.out
  clear HH HM
  have hx0 : w4.cell? ⟨gb, 0, none⟩ = some (.int .i64 fx) := (blk_cell GB.out 0).trans rfl
  have hx1 : w4.cell? ⟨gb, 1, none⟩ = some (.int .i64 fn) := (blk_cell GB.out 1).trans rfl
  have hx2 : w4.cell? ⟨gb, 2, none⟩ = some (.slice A l.length c) := (blk_cell GB.out 2).trans rfl
  by_cases c1 : fx ≤ 4
  · have c1b0 : decide (fx ≤ 4) = true := decide_eq_true c1
    rw [if_pos c1] at H
    obtain ⟨hl, rfl⟩ := push1_some H
    clear H
    go_wp2_with (first | ((with_reducible refine gate_callee (f := 58) rfl ?_); refine goesL_ (some 18) rfl rfl Try.func58 (by kernel_rfl) rfl #[.pointer (some ⟨g, 0, none⟩), .agg #[.int .i64 fx, .int .i64 fn, .slice A l.length c]] rfl (by (try simp only [List.map_toArray, List.map_cons, List.map_nil]); first | done | rfl) ?_; (with_reducible refine (machine_value.calls w0 _ g a b v _ _ out _ _ fx fn A c l HM4.out).mono ?_); rintro e w5 ⟨rfl, hm5⟩; refine ⟨_, rfl, ?_⟩; have HM5 := Aside0.mk hm5; clear hm5) | ((with_reducible refine gate_callee (f := 57) rfl ?_); refine goesL_ (some 19) rfl rfl Try.func57 (by kernel_rfl) rfl #[.pointer (some ⟨g, 0, none⟩), .int .i64 (mvalue fx fn a b v)] rfl (by (try simp only [List.map_toArray, List.map_cons, List.map_nil]); first | done | rfl) ?_; (with_reducible refine (machine_push.calls w0 _ g a b v _ _ out _ _ (mvalue fx fn a b v) HM5.out hl).mono ?_); rintro e w6 ⟨rfl, vs6, hm6⟩; refine ⟨_, rfl, ?_⟩; have HM6 := Aside0.mk hm6; clear hm6))
    go_ret
    exact ⟨rfl, _, _, HM6.out⟩
  have c1b0 : decide (fx ≤ 4) = false := decide_eq_false c1
  rw [if_neg c1] at H
  by_cases c2 : fx ≤ 17
  · have c2b0 : decide (fx ≤ 17) = true := decide_eq_true c2
    rw [if_pos c2] at H
    obtain ⟨⟨p, st1⟩, hp, H⟩ := Option.bind_eq_some_iff.mp H
    obtain ⟨⟨q, st2⟩, hq, H⟩ := Option.bind_eq_some_iff.mp H
    obtain ⟨t, ht, H⟩ := Option.bind_eq_some_iff.mp H
    dsimp only at *
    obtain ⟨hl, rfl⟩ := push1_some H
    clear H
    go_wp2_with (first | ((with_reducible refine gate_callee (f := 59) rfl ?_); refine goesL_ (some 24) rfl rfl Try.func59 (by kernel_rfl) rfl #[.pointer (some ⟨g, 0, none⟩)] rfl (by (try simp only [List.map_toArray, List.map_cons, List.map_nil]); first | done | rfl) ?_; (with_reducible refine (machine_pop.calls w0 _ g a b v _ _ out _ _ p _ HM4.out hp).mono ?_); rintro e w5 ⟨rfl, ⟨vs5, hm5⟩, _⟩; refine ⟨_, rfl, ?_⟩; have HM5 := Aside0.mk hm5; clear hm5) | ((with_reducible refine gate_callee (f := 59) rfl ?_); refine goesL_ (some 26) rfl rfl Try.func59 (by kernel_rfl) rfl #[.pointer (some ⟨g, 0, none⟩)] rfl (by (try simp only [List.map_toArray, List.map_cons, List.map_nil]); first | done | rfl) ?_; (with_reducible refine (machine_pop.calls w0 _ g a b v _ _ out _ _ q _ HM5.out hq).mono ?_); rintro e w6 ⟨rfl, ⟨vs6, hm6⟩, _⟩; refine ⟨_, rfl, ?_⟩; have HM6 := Aside0.mk hm6; clear hm6) | (go_at_call 60; (refine (eval_two.calls 9 fx q p t _ (show eval_two.f 9 fx q p = some t from ht)).mono ?_); rintro e w' ⟨rfl, ⟨nd, rfl⟩⟩; have HM7 := Aside0.mk (HM6.out.drewN nd)) | ((with_reducible refine gate_callee (f := 57) rfl ?_); refine goesL_ (some 32) rfl rfl Try.func57 (by kernel_rfl) rfl #[.pointer (some ⟨g, 0, none⟩), .int .i64 t] rfl (by (try simp only [List.map_toArray, List.map_cons, List.map_nil]); first | done | rfl) ?_; (with_reducible refine (machine_push.calls w0 _ g a b v _ _ out _ _ t HM7.out hl).mono ?_); rintro e w8 ⟨rfl, vs8, hm8⟩; refine ⟨_, rfl, ?_⟩; have HM8 := Aside0.mk hm8; clear hm8))
    go_ret
    exact ⟨rfl, _, _, HM8.out⟩
  have c2b0 : decide (fx ≤ 17) = false := decide_eq_false c2
  rw [if_neg c2] at H
  by_cases c3 : fx ≤ 24
  · have c3b0 : decide (fx ≤ 24) = true := decide_eq_true c3
    rw [if_pos c3] at H
    obtain ⟨⟨p, st1⟩, hp, H⟩ := Option.bind_eq_some_iff.mp H
    obtain ⟨t, ht, H⟩ := Option.bind_eq_some_iff.mp H
    dsimp only at *
    obtain ⟨hl, rfl⟩ := push1_some H
    clear H
    go_wp2_with (first | ((with_reducible refine gate_callee (f := 59) rfl ?_); refine goesL_ (some 39) rfl rfl Try.func59 (by kernel_rfl) rfl #[.pointer (some ⟨g, 0, none⟩)] rfl (by (try simp only [List.map_toArray, List.map_cons, List.map_nil]); first | done | rfl) ?_; (with_reducible refine (machine_pop.calls w0 _ g a b v _ _ out _ _ p _ HM4.out hp).mono ?_); rintro e w5 ⟨rfl, ⟨vs5, hm5⟩, _⟩; refine ⟨_, rfl, ?_⟩; have HM5 := Aside0.mk hm5; clear hm5) | (go_at_call 61; (with_reducible refine (eone.calls fx p t _ (by omega) c3 ht).mono ?_); rintro e w' ⟨rfl, ⟨nd, rfl⟩⟩; have HM7 := Aside0.mk (HM5.out.drewN nd)) | ((with_reducible refine gate_callee (f := 57) rfl ?_); refine goesL_ (some 41) rfl rfl Try.func57 (by kernel_rfl) rfl #[.pointer (some ⟨g, 0, none⟩), .int .i64 t] rfl (by (try simp only [List.map_toArray, List.map_cons, List.map_nil]); first | done | rfl) ?_; (with_reducible refine (machine_push.calls w0 _ g a b v _ _ out _ _ t HM7.out hl).mono ?_); rintro e w8 ⟨rfl, vs8, hm8⟩; refine ⟨_, rfl, ?_⟩; have HM8 := Aside0.mk hm8; clear hm8))
    go_ret
    exact ⟨rfl, _, _, HM8.out⟩
  have c3b0 : decide (fx ≤ 24) = false := decide_eq_false c3
  rw [if_neg c3] at H
  by_cases c4 : fx = 25
  · subst c4
    rw [if_pos rfl] at H
    obtain ⟨⟨p, st1⟩, hp, H⟩ := Option.bind_eq_some_iff.mp H
    dsimp only at H
    obtain ⟨hl, rfl⟩ := push1_some H
    obtain ⟨As, cs, rfl⟩ := Kd.R_slice HM4.out.rs
    obtain ⟨⟨hp0, hp1⟩, rfl, rfl⟩ := pop1_some hp
    have hz3 : w4.cell? ⟨g, 3, none⟩ = some (.slice As st.length cs) := (blk_cell HM4.out.blk 3).trans rfl
    have p1 : 0 ≤ (st.length : Int) - 1 := by omega
    have q1 : (st.length : Int) - 1 < st.length := by omega
    have e1 : wrap64 ((st.length : Int) - 1) = (st.length : Int) - 1 := by unfold wrap64; omega
    have e2 : IntKind.i64.wrap ((st.length : Int) - 1) = (st.length : Int) - 1 := (i64_w _).trans e1
    obtain ⟨ad, ea, hx⟩ := Kd.at_int (Kd.R_reads' HM4.out.rs).2.2 ((st.length : Int) - 1) p1 q1
    cases ea
    have hc : ((st.length : Int) - 1).toNat = st.length - 1 := by omega
    rw [hc] at hx
    have p2 : (1 : Int) ≤ st.length := by omega
    clear H hp
    go_wp2
    go_still_tail 13, (by kernel_rfl)
    change wpList _ _ _ _ _ w4.drew
    have HM5 := Aside0.mk HM4.out.drew
    generalize w4.drew = w5 at HM5 ⊢
    go_wp2_with (first | ((with_reducible refine gate_callee (f := 57) rfl ?_); refine goesL_ (some 58) rfl rfl Try.func57 (by kernel_rfl) rfl #[.pointer (some ⟨g, 0, none⟩), .int .i64 (rd st ((st.length : Int) - 1))] rfl (by (try simp only [List.map_toArray, List.map_cons, List.map_nil]); first | done | rfl) ?_; (with_reducible refine (machine_push.calls w0 _ g a b v _ _ out _ _ (rd st ((st.length : Int) - 1)) HM5.out hl).mono ?_); rintro e w6 ⟨rfl, vs6, hm6⟩; refine ⟨_, rfl, ?_⟩; have HM6 := Aside0.mk hm6; clear hm6))
    go_ret
    exact ⟨rfl, _, _, HM6.out⟩
  have c4b0 : (fx == 25) = false := beq_eq_false_iff_ne.mpr c4
  rw [if_neg c4] at H
  by_cases c5 : fx = 26
  · subst c5
    rw [if_pos rfl] at H
    obtain ⟨⟨p, st1⟩, hp, H⟩ := Option.bind_eq_some_iff.mp H
    obtain ⟨⟨q, st2⟩, hq, H⟩ := Option.bind_eq_some_iff.mp H
    obtain rfl := Option.some.inj H
    dsimp only at hq
    have hst := pop1_form hp
    have hst1 := pop1_form hq
    have hl1 := (pop1_some hp).1.2
    subst hst1
    obtain ⟨As, cs, rfl⟩ := Kd.R_slice HM4.out.rs
    have hlen : st.length = st2.length + 2 := by rw [hst]; simp
    have hz3 : w4.cell? ⟨g, 3, none⟩ = some (.slice As st.length cs) := (blk_cell HM4.out.blk 3).trans rfl
    have e3 : IntKind.i64.wrap (st2.length : Int) = st2.length := (i64_w _).trans (by unfold wrap64; omega)
    have e4 : wrap64 (st2.length : Int) = st2.length := by unfold wrap64; omega
    have hcap := (Kd.R_reads' HM4.out.rs).2.1
    have hne : (cs = st2.length) = False := eq_false (by omega)
    obtain ⟨ad, ea, _⟩ := Kd.at_int (Kd.R_reads' HM4.out.rs).2.2 (st2.length : Int) (by omega) (by omega)
    cases ea
    obtain ⟨gs, rfl⟩ := Kd.R_head HM4.out.rs
    have hc0 := Kd.R_celln (0 : Int) HM4.out.rs (st2.length : Int) (by omega) (by omega)
    have hc1 := Kd.R_celln (0 : Int) HM4.out.rs ((st2.length + 1 : Nat) : Int) (by omega) (by omega)
    have hr0 : rdOf 0 st (st2.length : Int) = q := by rw [hst]; simp [rdOf]
    have hr1 : rdOf 0 st ((st2.length + 1 : Nat) : Int) = p := by rw [hst]; simp [rdOf]
    rw [hr0, Int.toNat_natCast] at hc0
    rw [hr1, Int.toNat_natCast] at hc1
    have HC0 := Aside0.mk hc0
    have HC1 := Aside0.mk hc1
    have HCAP := Aside0.mk (show 2 ≤ cs - st2.length by omega)
    rw [hlen] at hz3
    have p5 : (st2.length : Int) ≤ st2.length + 2 := by omega
    have hset : (st.set st2.length p).set (st2.length + 1) q = st2 ++ [p, q] := by rw [hst]; simp
    clear hcap hc0 hc1
    clear H hp hq
    go_wp2
    go_still_tail 11, (by kernel_rfl)
    change wpList _ _ _ _ _ w4.drew
    have HM5 := Aside0.mk HM4.out.drew
    generalize w4.drew = w5 at HM5 ⊢
    have HN : Aside0 (Mach w0 ((w5.setCell ⟨gs, st2.length, none⟩ (.int .i64 p)).setCell ⟨gs, st2.length + 1, none⟩ (.int .i64 q)) g a b v (st2 ++ [p, q]) fu out (.slice (some ⟨gs, 0, none⟩) st.length cs) vo) := ⟨hset ▸ (HM5.out.putStack st2.length (by omega) p).putStack (st2.length + 1) (by omega) q⟩
    have hd0 : w5.cell? ⟨gs, st2.length, none⟩ = some (.int .i64 q) ∧ w5.frozen? ⟨gs, st2.length, none⟩ = false := by
      have h_ := Kd.R_celln (0 : Int) HM5.out.rs (st2.length : Int) (by omega) (by omega)
      rw [hr0, Int.toNat_natCast] at h_
      exact h_
    have hd1 : w5.cell? ⟨gs, st2.length + 1, none⟩ = some (.int .i64 p) ∧ w5.frozen? ⟨gs, st2.length + 1, none⟩ = false := by
      have h_ := Kd.R_celln (0 : Int) HM5.out.rs ((st2.length + 1 : Nat) : Int) (by omega) (by omega)
      rw [hr1, Int.toNat_natCast] at h_
      exact h_
    go_wp2_with (fail)
    refine (rev2.calls _ gs st2.length (cs - st2.length) q p hd0.1 hd1.1 hd0.2 hd1.2 HCAP.out).mono ?_
    rintro e w6 ⟨rfl, nd, rfl⟩
    have HN2 := Aside0.mk (HN.out.drewN nd)
    go_wp2
    go_ret
    exact ⟨rfl, _, _, HN2.out⟩
  have c5b0 : (fx == 26) = false := beq_eq_false_iff_ne.mpr c5
  rw [if_neg c5] at H
  by_cases c6 : fx = 27
  · subst c6
    rw [if_pos rfl] at H
    obtain ⟨⟨p, st1⟩, hp, H⟩ := Option.bind_eq_some_iff.mp H
    obtain rfl := Option.some.inj H
    clear H
    go_wp2_with (first | ((with_reducible refine gate_callee (f := 59) rfl ?_); refine goesL_ (some 78) rfl rfl Try.func59 (by kernel_rfl) rfl #[.pointer (some ⟨g, 0, none⟩)] rfl (by (try simp only [List.map_toArray, List.map_cons, List.map_nil]); first | done | rfl) ?_; (with_reducible refine (machine_pop.calls w0 _ g a b v _ _ out _ _ p _ HM4.out hp).mono ?_); rintro e w5 ⟨rfl, ⟨vs5, hm5⟩, _⟩; refine ⟨_, rfl, ?_⟩; have HM5 := Aside0.mk hm5; clear hm5))
    go_ret
    exact ⟨rfl, _, _, HM5.out⟩
  have c6b0 : (fx == 27) = false := beq_eq_false_iff_ne.mpr c6
  rw [if_neg c6] at H
  have HNE := Aside0.mk (blk_ne HM4.out.blk GB.out (by decide))
  by_cases c7 : fx = 28
  · subst c7
    rw [if_pos rfl] at H
    obtain ⟨⟨p, st1⟩, hp, H⟩ := Option.bind_eq_some_iff.mp H
    dsimp only at H
    by_cases c9 : p = 0
    · subst c9
      rw [if_pos rfl] at H
      go_wp2
      go_region_with (first | (go_at_call 59; refine (machine_pop.calls w0 _ g a b v _ _ out _ _ 0 _ (by first | exact HM4.out | exact HM4.out.drew) hp).mono ?_; rintro e w5 ⟨rfl, ⟨vs5, hm5⟩, hk5⟩; have HM5 := Aside0.mk hm5; have hy2 := keep_cell hk5 hx2 (Ne.symm HNE.out); clear hm5 hk5) | (go_at_call 64; refine (eval_truth.calls false 0 _ (by decide)).mono ?_; rintro e w' ⟨rfl, ⟨nd, rfl⟩⟩; have HM6 := Aside0.mk (HM5.out.drewN nd)) | (go_at_call 63; refine (HF.out w0 _ g st1 fu out _ _ 0 A c l r HM6.out HR.out HC.out H).mono ?_; rintro e w7 ⟨rfl, vs7, vo7, hm7⟩; have HM7 := Aside0.mk hm7; clear hm7))
      all_goals (go_wp2; go_ret; exact ⟨rfl, _, _, HM7.out⟩)
    · have c9b0 : (p == 0) = false := beq_eq_false_iff_ne.mpr c9
      have c9b1 : (p != 0) = true := bne_iff_ne.mpr c9
      rw [if_neg c9] at H
      go_wp2
      go_region_with (first | (go_at_call 59; refine (machine_pop.calls w0 _ g a b v _ _ out _ _ p _ (by first | exact HM4.out | exact HM4.out.drew) hp).mono ?_; rintro e w5 ⟨rfl, ⟨vs5, hm5⟩, hk5⟩; have HM5 := Aside0.mk hm5; have hy2 := keep_cell hk5 hx2 (Ne.symm HNE.out); clear hm5 hk5) | (go_at_call 64; refine (eval_truth.calls true 1 _ (by decide)).mono ?_; rintro e w' ⟨rfl, ⟨nd, rfl⟩⟩; have HM6 := Aside0.mk (HM5.out.drewN nd)) | (go_at_call 63; refine (HF.out w0 _ g st1 fu out _ _ 1 A c l r HM6.out HR.out HC.out H).mono ?_; rintro e w7 ⟨rfl, vs7, vo7, hm7⟩; have HM7 := Aside0.mk hm7; clear hm7))
      all_goals (go_wp2; go_ret; exact ⟨rfl, _, _, HM7.out⟩)
  have c7b0 : (fx == 28) = false := beq_eq_false_iff_ne.mpr c7
  rw [if_neg c7] at H
  by_cases c8 : fx = 29
  · subst c8
    rw [if_pos rfl] at H
    obtain ⟨⟨p, st1⟩, hp, H⟩ := Option.bind_eq_some_iff.mp H
    dsimp only at H
    go_wp2
    go_region_with (first | (go_at_call 59; refine (machine_pop.calls w0 _ g a b v _ _ out _ _ p _ (by first | exact HM4.out | exact HM4.out.drew) hp).mono ?_; rintro e w5 ⟨rfl, ⟨vs5, hm5⟩, hk5⟩; have HM5 := Aside0.mk hm5; have hy2 := keep_cell hk5 hx2 (Ne.symm HNE.out); clear hm5 hk5) | (go_at_call 63; refine (HF.out w0 _ g st1 fu out _ _ p A c l r HM5.out HR.out HC.out H).mono ?_; rintro e w7 ⟨rfl, vs7, vo7, hm7⟩; have HM7 := Aside0.mk hm7; clear hm7))
    all_goals (go_wp2; go_ret; exact ⟨rfl, _, _, HM7.out⟩)
  have c8b0 : (fx == 29) = false := beq_eq_false_iff_ne.mpr c8
  rw [if_neg c8] at H
  obtain ⟨⟨p, st1⟩, hp, H⟩ := Option.bind_eq_some_iff.mp H
  obtain ⟨⟨q, st2⟩, hq, H⟩ := Option.bind_eq_some_iff.mp H
  dsimp only at hq H
  go_wp2_with (first | ((with_reducible refine gate_callee (f := 65) rfl ?_); refine goesL_ (some 11) rfl rfl Try.func65 (by kernel_rfl) rfl #[.pointer (some ⟨g, 0, none⟩)] rfl (by (try simp only [List.map_toArray, List.map_cons, List.map_nil]); first | done | rfl) ?_; (with_reducible refine (machine_emit.calls' w0 _ g a b v _ _ out _ _ p q _ _ r HM4.out hp hq H).mono ?_); rintro e w5 ⟨vs5, vo5, rfl, hm5⟩; refine ⟨_, rfl, ?_⟩; have HM5 := Aside0.mk hm5; clear hm5))
  go_ret
  exact ⟨rfl, _, _, HM5.out⟩
end Go.Proofs.Ytchgjkfnmifgkaa.QE
