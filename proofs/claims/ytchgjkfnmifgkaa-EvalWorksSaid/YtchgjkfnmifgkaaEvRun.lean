/- slices.Reverse of two numbers, by hand.
   The program's machine, by hand: its stack and what it emits lie in rows of its own, led to out of its block.
   The program's machine, by hand: an op, a repetition, a block, and eval.Run.
   The program's machine, by hand: a repetition, a block, and eval.Run.
   What eval.Run answers, by hand. -/
import Derived.Test.YtchgjkfnmifgkaaQEx0
import Derived.BigRegion
import Derived.Test.YtchgjkfnmifgkaaQEx3
import Derived.Test.YtchgjkfnmifgkaaHMach
import Derived.Deep.RegionLaw
import Derived.Test.YtchgjkfnmifgkaaQEx11
import Derived.StillTailTactics
import Derived.Test.YtchgjkfnmifgkaaQEx6
import Derived.Test.YtchgjkfnmifgkaaQEx10
namespace Go.Proofs.Ytchgjkfnmifgkaa.QE
open Go.RowKit Go.Proofs.YtchgjkfnmifgkaaW.PrintWords Go.Proofs.YtchgjkfnmifgkaaW.PrintLast Go.Proofs.YtchgjkfnmifgkaaW.PrintMore
set_option linter.unusedVariables false
set_option linter.unusedSimpArgs false

set_option maxHeartbeats 8000000 in
set_option maxRecDepth 100000 in
theorem rev2.calls (w : World) (gs m c : Nat) (p q : Int) (h0 : w.cell? ⟨gs, m, none⟩ = some (.int .i64 p)) (h1 : w.cell? ⟨gs, m + 1, none⟩ = some (.int .i64 q)) (f0 : w.frozen? ⟨gs, m, none⟩ = false) (f1 : w.frozen? ⟨gs, m + 1, none⟩ = false) (hc : 2 ≤ c) :
  Calls Try.prog 62 #[.slice (some ⟨gs, m, none⟩) 2 c] w fun e w' => e = .returned (.tuple #[]) ∧ Drawn0 ((w.setCell ⟨gs, m, none⟩ (.int .i64 q)).setCell ⟨gs, m + 1, none⟩ (.int .i64 p)) w' := by
 go_enter Try.func62, Try.ntmps62
 go_wp2
 go_loopg [2, 3] 1 (fun kq v2 v3 w' => (kq = 1 ∧ v2 = .int .i64 0 ∧ v3 = .int .i64 1 ∧ Aside0 (w' = w)) ∨ (kq = 0 ∧ v2 = .int .i64 1 ∧ v3 = .int .i64 0 ∧ Drawn0 ((w.setCell ⟨gs, m, none⟩ (.int .i64 q)).setCell ⟨gs, m + 1, none⟩ (.int .i64 p)) w'))
 case atStart => exact .inl ⟨rfl, rfl, rfl, ⟨rfl⟩⟩
 case round =>
  rcases hrel with ⟨rfl, rfl, rfl, hw⟩ | ⟨rfl, rfl, rfl, hw⟩
  ·
   obtain rfl := hw.out
   go_wp2
   go_region
   go_wp2
   go_roundg 0
   case measure => omega
   case rel => exact .inr ⟨rfl, rfl, rfl, ⟨⟨1, rfl⟩⟩⟩
  ·
   go_wp2
   go_end0
   exact ⟨rfl, hw⟩
end Go.Proofs.Ytchgjkfnmifgkaa.QE

namespace Go.Proofs.Ytchgjkfnmifgkaa.QE
open Go.RowKit Go.Proofs.YtchgjkfnmifgkaaW.PrintWords Go.Proofs.YtchgjkfnmifgkaaW.PrintLast Go.Proofs.YtchgjkfnmifgkaaW.PrintMore
attribute [local go_sem] max2_int min2_int max_two min_two max_three min_three max_four min_four
set_option linter.unusedVariables false
set_option linter.unusedSimpArgs false

theorem info50h : (Try.prog.info? 50).map (fun i => (i.zero, i.size, i.bytes)) = some (some (.agg #[(.int .i64 0), (.string ⟨#[]⟩), (.int .i64 0)]), 3, 32) := by kernel_rfl

/-- The machine at block g: its record, its stack, its fuel, what it emitted. -/
structure Mach (w0 w : World) (g : Nat) (a : Int) (b : ByteArray) (v : Int) (st : List Int) (fu : Int) (out : List S50) (vs vo : Value) : Prop where
 blk : w.heap[g]? = some (.cells #[.int .i64 a, .string b, .int .i64 v, vs, .int .i64 fu, vo] 82 (0, 0))
 ge : w0.heap.size ≤ g
 bel : Below w0.heap.size w0 w
 rs : Kd.R (Kd.int .i64) 2 w w0.heap.size (fun _ => True) vs st
 ro : Kd.R k50 50 w w0.heap.size (fun _ => True) vo out

section
variable {w0 w w1 : World} {g : Nat} {a : Int} {b : ByteArray} {v : Int} {st : List Int} {fu : Int} {out : List S50} {vs vo : Value}
theorem Mach.below (h : Mach w0 w g a b v st fu out vs vo) (hb : Below w.heap.size w w1) : Mach w0 w1 g a b v st fu out vs vo :=
 ⟨blk_below h.blk hb, h.ge, below_step h.bel hb, Kd.R_below h.rs hb, Kd.R_below h.ro hb⟩
theorem Mach.drewN (h : Mach w0 w g a b v st fu out vs vo) (n : Nat) : Mach w0 (w.drewN n) g a b v st fu out vs vo := ⟨h.blk, h.ge, pw_below_drewN h.bel n, Kd.R_drewN h.rs n, Kd.R_drewN h.ro n⟩
theorem Mach.drew (h : Mach w0 w g a b v st fu out vs vo) : Mach w0 w.drew g a b v st fu out vs vo := ⟨h.blk, h.ge, below_drew1 h.bel, Kd.R_drew h.rs, Kd.R_drew h.ro⟩
theorem Mach.far (h : Mach w0 w g a b v st fu out vs vo) {t : TypeId} {cells : Array Value} {gb j : Nat} (u : Value) (hb : w.heap[gb]? = some (.cells cells t (0, 0))) (hg : w0.heap.size ≤ gb) (ht : t ≠ 82 ∧ t ≠ 2 ∧ t ≠ 50) : Mach w0 (w.setCell ⟨gb, j, none⟩ u) g a b v st fu out vs vo := by
 have hne : g ≠ gb := blk_ne h.blk hb (Ne.symm ht.1)
 exact ⟨blk_far h.blk hne u, h.ge, below_set h.bel hg, Kd.R_set h.rs hb (by simpa [Kd.int, Kd.scalar] using Ne.symm ht.2.1) j u, Kd.R_set h.ro hb (by simpa [k50, k48, Kd.iso, Kd.pair, Kd.int, Kd.string, Kd.scalar] using Ne.symm ht.2.2) j u⟩
/-- The stack's row is another one, as far as it holds the same block or none, or has been written. -/
theorem Mach.setStack (h : Mach w0 w g a b v st fu out vs vo) {vs1 : Value} {st1 : List Int} (hr : Kd.R (Kd.int .i64) 2 w1 w0.heap.size (fun _ => True) vs1 st1) (hb : Below w0.heap.size w0 w1) (hg : w.grownBy w1 vs.ownBlock) : Mach w0 (w1.setCell ⟨g, 3, none⟩ vs1) g a b v st1 fu out vs1 vo := by
 have hk : w1.heap[g]? = some (.cells #[.int .i64 a, .string b, .int .i64 v, vs, .int .i64 fu, vo] 82 (0, 0)) := blk_grown h.blk hg (Kd.R_ne h.rs h.blk (by decide))
 have ho : Kd.R k50 50 w1 w0.heap.size (fun _ => True) vo out := Kd.R_over h.ro h.rs (by decide) hg
 exact ⟨blk_put hk 3 vs1 rfl, h.ge, below_set hb h.ge, Kd.R_set hr hk (by decide) 3 vs1, Kd.R_set ho hk (by decide) 3 vs1⟩
theorem Mach.setOut (h : Mach w0 w g a b v st fu out vs vo) {vo1 : Value} {out1 : List S50} (hr : Kd.R k50 50 w1 w0.heap.size (fun _ => True) vo1 out1) (hb : Below w0.heap.size w0 w1) (hg : w.grownBy w1 vo.ownBlock) : Mach w0 (w1.setCell ⟨g, 5, none⟩ vo1) g a b v st fu out1 vs vo1 := by
 have hk : w1.heap[g]? = some (.cells #[.int .i64 a, .string b, .int .i64 v, vs, .int .i64 fu, vo] 82 (0, 0)) := blk_grown h.blk hg (Kd.R_ne h.ro h.blk (by decide))
 have ho : Kd.R (Kd.int .i64) 2 w1 w0.heap.size (fun _ => True) vs st := Kd.R_over h.rs h.ro (by decide) hg
 exact ⟨blk_put hk 5 vo1 rfl, h.ge, below_set hb h.ge, Kd.R_set ho hk (by decide) 5 vo1, Kd.R_set hr hk (by decide) 5 vo1⟩
theorem Mach.setFuel (h : Mach w0 w g a b v st fu out vs vo) (x : Int) : Mach w0 (w.setCell ⟨g, 4, none⟩ (.int .i64 x)) g a b v st x out vs vo :=
 ⟨blk_put h.blk 4 _ rfl, h.ge, below_set h.bel h.ge, Kd.R_set h.rs h.blk (by decide) 4 _, Kd.R_set h.ro h.blk (by decide) 4 _⟩
end

/-- A number of the stack is turned. -/
theorem Mach.putStack {w0 w : World} {g : Nat} {a : Int} {b : ByteArray} {v : Int} {st : List Int} {fu : Int} {out : List S50} {gs n cs : Nat} {vo : Value} (h : Mach w0 w g a b v st fu out (.slice (some ⟨gs, 0, none⟩) n cs) vo) (i : Nat) (hi : i < n) (x : Int) : Mach w0 (w.setCell ⟨gs, i, none⟩ (.int .i64 x)) g a b v (st.set i x) fu out (.slice (some ⟨gs, 0, none⟩) n cs) vo := by
 have hg := Kd.R_putg h.rs (i : Int) x
 rw [Int.toNat_natCast] at hg
 have hb := (Kd.R_bound h.rs).1 gs rfl
 exact ⟨blk_grown h.blk hg.2 (Kd.R_ne h.rs h.blk (by decide)), h.ge, below_set h.bel hb.2.1, hg.1, Kd.R_over h.ro h.rs (by decide) hg.2⟩

set_option maxHeartbeats 8000000 in
set_option maxRecDepth 100000 in
theorem machine_push.calls (w0 w : World) (g : Nat) (a : Int) (b : ByteArray) (v : Int) (st : List Int) (fu : Int) (out : List S50) (vs vo : Value) (n : Int) (h : Mach w0 w g a b v st fu out vs vo) (hl : st.length < 1000000) :
  Calls Try.prog 57 #[.pointer (some ⟨g, 0, none⟩), .int .i64 n] w fun e w' => e = .returned (.tuple #[]) ∧ ∃ vs', Mach w0 w' g a b v (st ++ [n]) fu out vs' vo := by
 obtain ⟨As, cs, rfl⟩ := Kd.R_slice h.rs
 have HM := Aside0.mk h
 clear h
 have hz3 : w.cell? ⟨g, 3, none⟩ = some (.slice As st.length cs) := (blk_cell HM.out.blk 3).trans rfl
 go_enter Try.func57, Try.ntmps57
 go_wp2_with (first | ((with_reducible refine gate_builtin (b := .append) (xs := #[.tmp 8, .tmp 10]) rfl ?_); at_builtin; refine Kd.R_append (Kd.int .i64) (w0 := w0) w0.heap.size rfl (.tmp 8) (.tmp 10) 58 2 (.int .i64 0) 8 rfl Try.underlying58 info2 rfl (by decide) (by omega) (.slice As st.length cs) st n [.int .i64 n] (fun _ => True) (fun _ => False) rfl rfl ?aP (fun _ hk => hk.elim) ?aF ?aO ?aB ?aS ?aL ?_; (case aP => exact rfl); (case aB => exact HM.out.bel); (case aF => exact (fun _ _ => trivial)); (case aO => exact HM.out.rs); (case aS => exact below_size HM.out.bel); (case aL => omega); intro v1 w1 ho hb hg hat; obtain ⟨A1, c1, rfl⟩ := Kd.R_slice ho; have hk1 := blk_grown HM.out.blk hg (Kd.R_ne HM.out.rs HM.out.blk (by decide)); have hy3 : w1.cell? ⟨g, 3, none⟩ = some (.slice As st.length cs) := (blk_cell hk1 3).trans rfl; have hf3 := blk_frozen hk1 3; have HN := Aside0.mk (HM.out.setStack ho hb hg); clear ho hb hg hat hk1))
 go_end0
 exact ⟨rfl, _, by simpa using HN.out⟩

/-- pop: the last number is told, and the stack is shorter. -/
theorem Mach.pop {w0 w : World} {g : Nat} {a : Int} {b : ByteArray} {v : Int} {st : List Int} {fu : Int} {out : List S50} {As : Option Addr} {cs : Nat} {vo : Value} (h : Mach w0 w g a b v st fu out (.slice As st.length cs) vo) : Mach w0 (w.setCell ⟨g, 3, none⟩ (.slice As (st.take (st.length - 1)).length cs)) g a b v (st.take (st.length - 1)) fu out (.slice As (st.take (st.length - 1)).length cs) vo := by
 have hr := Kd.R_take (m := st.length - 1) h.rs (by omega)
 have hk := h.blk
 rw [show st.length - 1 = (st.take (st.length - 1)).length by simp] at hr
 exact ⟨blk_put hk 3 _ rfl, h.ge, below_set h.bel h.ge, Kd.R_set (by simpa using hr) hk (by decide) 3 _, Kd.R_set h.ro hk (by decide) 3 _⟩

set_option maxHeartbeats 8000000 in
set_option maxRecDepth 100000 in
theorem machine_pop.calls (w0 w : World) (g : Nat) (a : Int) (b : ByteArray) (v : Int) (st : List Int) (fu : Int) (out : List S50) (vs vo : Value) (x : Int) (st' : List Int) (h : Mach w0 w g a b v st fu out vs vo) (hp : pop1 st = some (x, st')) :
  Calls Try.prog 59 #[.pointer (some ⟨g, 0, none⟩)] w fun e w' => e = .returned (.int .i64 x) ∧ (∃ vs', Mach w0 w' g a b v st' fu out vs' vo) ∧ KeepBut w w' g none := by
 obtain ⟨As, cs, rfl⟩ := Kd.R_slice h.rs
 obtain ⟨⟨hp0, hp1⟩, rfl, rfl⟩ := pop1_some hp
 have HM := Aside0.mk h
 clear h hp
 have hz3 : w.cell? ⟨g, 3, none⟩ = some (.slice As st.length cs) := (blk_cell HM.out.blk 3).trans rfl
 have hf3 := blk_frozen HM.out.blk 3
 have p1 : 0 ≤ (st.length : Int) - 1 := by omega
 have q1 : (st.length : Int) - 1 < st.length := by omega
 have e1 : wrap64 ((st.length : Int) - 1) = (st.length : Int) - 1 := by unfold wrap64; omega
 obtain ⟨ad, ea, hx⟩ := Kd.at_int (Kd.R_reads' HM.out.rs).2.2 ((st.length : Int) - 1) p1 q1
 cases ea
 have hc : ((st.length : Int) - 1).toNat = st.length - 1 := by omega
 rw [hc] at hx
 have hcap := (Kd.R_reads' HM.out.rs).2.1
 have HN := Aside0.mk HM.out.pop
 rw [List.length_take, Nat.min_eq_left (by omega)] at HN
 go_enter Try.func59, Try.ntmps59
 go_wp2
 go_ret
 exact ⟨rfl, ⟨_, HN.out⟩, (KeepBut.refl w g none).set_ 3 _⟩

set_option maxHeartbeats 8000000 in
set_option maxRecDepth 100000 in
theorem machine_value.calls (w0 w : World) (g : Nat) (a : Int) (b : ByteArray) (v : Int) (st : List Int) (fu : Int) (out : List S50) (vs vo : Value) (x0 x1 : Int) (A : Option Addr) (c : Nat) (l : List S34) (h : Mach w0 w g a b v st fu out vs vo) :
  Calls Try.prog 58 #[.pointer (some ⟨g, 0, none⟩), .agg #[.int .i64 x0, .int .i64 x1, .slice A l.length c]] w fun e w' => e = .returned (.int .i64 (mvalue x0 x1 a b v)) ∧ Mach w0 w' g a b v st fu out vs vo := by
 have hu34 := Try.underlying34
 have HM := Aside0.mk h
 clear h
 go_enter Try.func58, Try.ntmps58
 go_upto_region 1 with (first | ((with_reducible refine gate_dst (N := 3) rfl ?_); refine box_event ?hg (N := 3) ?hd (cs := #[.int .i64 x0, .int .i64 x1, .slice A l.length c]) (t := 34) ?hr ?_; (case hd => rfl); (case hg => rfl); (case hr => first | (go_simp; done) | (go_simp; rfl)); intro gb hg w4 hbox hb; have GB := Aside0.mk hbox; have HM4 := Aside0.mk (HM.out.below hb); clear hbox hb hg))
 have hx0 : w4.cell? ⟨gb, 0, none⟩ = some (.int .i64 x0) := (blk_cell GB.out 0).trans rfl
 have hx1 : w4.cell? ⟨gb, 1, none⟩ = some (.int .i64 x1) := (blk_cell GB.out 1).trans rfl
 have hz0 : w4.cell? ⟨g, 0, none⟩ = some (.int .i64 a) := (blk_cell HM4.out.blk 0).trans rfl
 have hz1 : w4.cell? ⟨g, 1, none⟩ = some (.string b) := (blk_cell HM4.out.blk 1).trans rfl
 have hz2 : w4.cell? ⟨g, 2, none⟩ = some (.int .i64 v) := (blk_cell HM4.out.blk 2).trans rfl
 by_cases c1 : x0 = 1
 ·
  subst c1
  go_wp2
  go_ret
  exact ⟨rfl, HM4.out⟩
 ·
  have c1b0 : (x0 == 1) = false := beq_eq_false_iff_ne.mpr c1
  by_cases c2 : x0 = 2
  ·
   subst c2
   go_wp2
   go_ret
   exact ⟨rfl, HM4.out⟩
  ·
   have c2b0 : (x0 == 2) = false := beq_eq_false_iff_ne.mpr c2
   by_cases c3 : x0 = 3
   ·
    subst c3
    go_wp2
    go_ret
    exact ⟨rfl, HM4.out⟩
   ·
    have c3b0 : (x0 == 3) = false := beq_eq_false_iff_ne.mpr c3
    go_wp2
    go_ret
    exact ⟨by simp [mvalue, c1, c2, c3], HM4.out⟩

set_option maxHeartbeats 8000000 in
set_option maxRecDepth 100000 in
theorem machine_emit.calls (w0 w : World) (g : Nat) (a : Int) (b : ByteArray) (v : Int) (st : List Int) (fu : Int) (out : List S50) (vs vo : Value) (x y : Int) (st1 st2 : List Int) (h : Mach w0 w g a b v st fu out vs vo) (hp : pop1 st = some (x, st1)) (hq : pop1 st1 = some (y, st2)) (hl : out.length < 1000000) :
  Calls Try.prog 65 #[.pointer (some ⟨g, 0, none⟩)] w fun e w' => ∃ vs' vo', e = .returned (.int .i64 (if out.length = 256 then 2 else 0)) ∧ Mach w0 w' g a b v st2 fu (if out.length = 256 then out else out ++ [⟨⟨y, b⟩, x⟩]) vs' vo' := by
 have hu48 := Try.underlying48
 have hu50 := Try.underlying50
 obtain ⟨Ao, co, rfl⟩ := Kd.R_slice h.ro
 have HM := Aside0.mk h
 clear h
 by_cases cO : out.length = 256
 ·
  have c0b0 : ((out.length : Int) == 256) = true := beq_iff_eq.mpr (by omega)
  rw [if_pos cO, if_pos cO]
  go_enter Try.func65, Try.ntmps65
  go_wp2_with (first | ((with_reducible refine gate_callee (f := 59) rfl ?_); refine goesL_ (some 6) rfl rfl Try.func59 (by kernel_rfl) rfl #[.pointer (some ⟨g, 0, none⟩)] rfl (by (try simp only [List.map_toArray, List.map_cons, List.map_nil]); first | done | rfl) ?_; (with_reducible refine (machine_pop.calls w0 _ g a b v st fu out _ _ x st1 HM.out hp).mono ?_); rintro e w5 ⟨rfl, ⟨vs5, hm5⟩, _⟩; refine ⟨_, rfl, ?_⟩; have HM5 := Aside0.mk hm5; clear hm5 HM) | ((with_reducible refine gate_callee (f := 59) rfl ?_); refine goesL_ (some 8) rfl rfl Try.func59 (by kernel_rfl) rfl #[.pointer (some ⟨g, 0, none⟩)] rfl (by (try simp only [List.map_toArray, List.map_cons, List.map_nil]); first | done | rfl) ?_; (with_reducible refine (machine_pop.calls w0 _ g a b v st1 fu out _ _ y st2 HM5.out hq).mono ?_); rintro e w7 ⟨rfl, ⟨vs7, hm7⟩, _⟩; refine ⟨_, rfl, ?_⟩; have HM7 := Aside0.mk hm7; clear hm7 HM5; have hz5 : w7.cell? ⟨g, 5, none⟩ = some (.slice Ao out.length co) := (blk_cell HM7.out.blk 5).trans rfl; have hz1 : w7.cell? ⟨g, 1, none⟩ = some (.string b) := (blk_cell HM7.out.blk 1).trans rfl))
  go_ret
  exact ⟨_, _, rfl, HM7.out⟩
 ·
  have c0b0 : ((out.length : Int) == 256) = false := beq_eq_false_iff_ne.mpr (by omega)
  rw [if_neg cO, if_neg cO]
  go_enter Try.func65, Try.ntmps65
  go_wp2_with (first | ((with_reducible refine gate_callee (f := 59) rfl ?_); refine goesL_ (some 6) rfl rfl Try.func59 (by kernel_rfl) rfl #[.pointer (some ⟨g, 0, none⟩)] rfl (by (try simp only [List.map_toArray, List.map_cons, List.map_nil]); first | done | rfl) ?_; (with_reducible refine (machine_pop.calls w0 _ g a b v st fu out _ _ x st1 HM.out hp).mono ?_); rintro e w5 ⟨rfl, ⟨vs5, hm5⟩, _⟩; refine ⟨_, rfl, ?_⟩; have HM5 := Aside0.mk hm5; clear hm5 HM) | ((with_reducible refine gate_callee (f := 59) rfl ?_); refine goesL_ (some 8) rfl rfl Try.func59 (by kernel_rfl) rfl #[.pointer (some ⟨g, 0, none⟩)] rfl (by (try simp only [List.map_toArray, List.map_cons, List.map_nil]); first | done | rfl) ?_; (with_reducible refine (machine_pop.calls w0 _ g a b v st1 fu out _ _ y st2 HM5.out hq).mono ?_); rintro e w7 ⟨rfl, ⟨vs7, hm7⟩, _⟩; refine ⟨_, rfl, ?_⟩; have HM7 := Aside0.mk hm7; clear hm7 HM5; have hz5 : w7.cell? ⟨g, 5, none⟩ = some (.slice Ao out.length co) := (blk_cell HM7.out.blk 5).trans rfl; have hz1 : w7.cell? ⟨g, 1, none⟩ = some (.string b) := (blk_cell HM7.out.blk 1).trans rfl))
  have hal : (w7.alloc (Obj.cells #[.int .i64 y, .string b, .int .i64 x] 50)).cell? ⟨g, 5, none⟩ = some (.slice Ao out.length co) := (World.cell?_alloc_lt _ _ _ (World.block_lt_of_cell? _ _ hz5)).trans hz5
  go_region_law (first | ((refine Kd.R_append_step k50 (w0 := w0) (W := w7.drew) w0.heap.size (by rfl) (.tmp 19) (.tmp 30) 41 50 (.agg #[(.int .i64 0), (.string ⟨#[]⟩), (.int .i64 0)]) 32 (by rfl) Try.underlying41 info50h (by rfl) (by decide) (by omega) (.slice Ao out.length co) out ⟨⟨y, b⟩, x⟩ [.int .i64 y, .string b, .int .i64 x] (fun _ => True) (fun _ => False) (by rfl) (by rfl) (k50_mkM _ _ _ (⟨⟨y, b⟩, x⟩ : S50)) (fun _ hk => hk.elim) (fun _ _ => trivial) (by first | exact HM7.out.ro | exact HM7.out.drew.ro) (by first | exact HM7.out.bel | exact HM7.out.drew.bel) (below_size HM7.out.drew.bel) (by omega) ?_; intro v1 w1 ho hb hg hat; obtain ⟨A1, c1, rfl⟩ := Kd.R_slice ho; have hk1 := (by first | exact blk_grown HM7.out.blk hg (Kd.R_ne HM7.out.ro HM7.out.blk (by decide)) | exact blk_grown HM7.out.drew.blk hg (Kd.R_ne HM7.out.drew.ro HM7.out.drew.blk (by decide)) : w1.heap[g]? = some (.cells #[.int .i64 a, .string b, .int .i64 v, vs7, .int .i64 fu, .slice Ao out.length co] 82 (0, 0))); have hy5 : w1.cell? ⟨g, 5, none⟩ = some (.slice Ao out.length co) := (blk_cell hk1 5).trans rfl; have hy1 : w1.cell? ⟨g, 1, none⟩ = some (.string b) := (blk_cell hk1 1).trans rfl; have hf5 := blk_frozen hk1 5; have HN := Aside0.mk (by first | exact HM7.out.setOut ho hb hg | exact HM7.out.drew.setOut ho hb hg : Mach w0 (w1.setCell ⟨g, 5, none⟩ (.slice A1 (out ++ [(⟨⟨y, b⟩, x⟩ : S50)]).length c1)) g a b v st2 fu (out ++ [(⟨⟨y, b⟩, x⟩ : S50)]) vs7 (.slice A1 (out ++ [(⟨⟨y, b⟩, x⟩ : S50)]).length c1)); clear ho hb hg hat hk1)))
  all_goals (go_wp2; go_ret; exact ⟨_, _, rfl, by first | simpa using HN.out.drew | simpa using HN.out⟩)

theorem machine_emit.calls' (w0 w : World) (g : Nat) (a : Int) (b : ByteArray) (v : Int) (st : List Int) (fu : Int) (out : List S50) (vs vo : Value) (x y : Int) (st1 st2 : List Int) (r : Int × List Int × Int × List S50) (h : Mach w0 w g a b v st fu out vs vo) (hp : pop1 st = some (x, st1)) (hq : pop1 st1 = some (y, st2)) (hr : (if out.length = 256 then some (2, st2, fu, out) else if out.length < 1000000 then some (0, st2, fu, out ++ [⟨⟨y, b⟩, x⟩]) else none) = some r) :
  Calls Try.prog 65 #[.pointer (some ⟨g, 0, none⟩)] w fun e w' => ∃ vs' vo', e = .returned (.int .i64 r.1) ∧ Mach w0 w' g a b v r.2.1 r.2.2.1 r.2.2.2 vs' vo' := by
 by_cases c : out.length = 256
 ·
  rw [if_pos c] at hr
  obtain rfl := Option.some.inj hr
  refine (machine_emit.calls w0 w g a b v st fu out vs vo x y st1 st2 h hp hq (by omega)).mono ?_
  rintro e w' ⟨vs', vo', rfl, hm⟩
  rw [if_pos c] at hm
  exact ⟨vs', vo', by rw [if_pos c], hm⟩
 ·
  rw [if_neg c] at hr
  split at hr
  case isFalse => simp at hr
  case isTrue hl =>
  obtain rfl := Option.some.inj hr
  refine (machine_emit.calls w0 w g a b v st fu out vs vo x y st1 st2 h hp hq hl).mono ?_
  rintro e w' ⟨vs', vo', rfl, hm⟩
  rw [if_neg c] at hm
  exact ⟨vs', vo', by rw [if_neg c], hm⟩

end Go.Proofs.Ytchgjkfnmifgkaa.QE

namespace Go.Proofs.Ytchgjkfnmifgkaa.QE
open Go.RowKit Go.Proofs.YtchgjkfnmifgkaaW.PrintWords Go.Proofs.YtchgjkfnmifgkaaW.PrintLast Go.Proofs.YtchgjkfnmifgkaaW.PrintMore
attribute [local go_sem] max2_int min2_int max_two min_two max_three min_three max_four min_four
set_option linter.unusedVariables false
set_option linter.unusedSimpArgs false

def etwo (kind n m : Int) : Option Int := eval_two.f 9 kind n m
def width (kind : Int) : Int := if kind = 19 ∨ kind = 22 then 8 else if kind = 20 ∨ kind = 23 then 16 else 32
def eone (kind n : Int) : Option Int := if kind = 18 then some (if n = 0 then 1 else 0) else (num_Cut.f 9 n (width kind) (decide (kind ≥ 22))).bind fun p => some p.1

set_option maxHeartbeats 8000000 in
set_option maxRecDepth 100000 in
theorem eone.calls (kind n r : Int) (w : World) (h1 : 18 ≤ kind) (h2 : kind ≤ 24) (h : eone kind n = some r) :
  Calls Try.prog 61 #[.int .i64 kind, .int .i64 n] w fun e w' => e = .returned (.int .i64 r) ∧ Drawn0 w w' := by
 by_cases c1 : kind = 18
 ·
  subst c1
  unfold eone at h
  rw [if_pos rfl] at h
  by_cases c2 : n = 0
  ·
   subst c2
   rw [if_pos rfl] at h
   obtain rfl := Option.some.inj h
   go_enter Try.func61, Try.ntmps61
   go_wp2_with (first | (go_at_call 64; (with_reducible refine (eval_truth.calls _ 1 _ (by decide)).mono ?_); rintro e w' ⟨rfl, ⟨nd, rfl⟩⟩))
   go_ret
   exact ⟨rfl, by repeat (first | exact Drawn0.refl _ | apply Drawn0.step)⟩
  ·
   rw [if_neg c2] at h
   obtain rfl := Option.some.inj h
   have c2b0 : (n == 0) = false := beq_eq_false_iff_ne.mpr c2
   go_enter Try.func61, Try.ntmps61
   go_wp2_with (first | (go_at_call 64; (with_reducible refine (eval_truth.calls _ 0 _ (by decide)).mono ?_); rintro e w' ⟨rfl, ⟨nd, rfl⟩⟩))
   go_ret
   exact ⟨rfl, by repeat (first | exact Drawn0.refl _ | apply Drawn0.step)⟩
 ·
  unfold eone at h
  rw [if_neg c1] at h
  obtain ⟨⟨p1, p2⟩, hp, h⟩ := Option.bind_eq_some_iff.mp h
  obtain rfl := Option.some.inj h
  have hk : kind = 19 ∨ kind = 20 ∨ kind = 21 ∨ kind = 22 ∨ kind = 23 ∨ kind = 24 := by omega
  have HP := Aside0.mk hp
  clear hp h c1 h1 h2
  rcases hk with rfl | rfl | rfl | rfl | rfl | rfl
  all_goals
   go_enter Try.func61, Try.ntmps61
   go_wp2_with (first | (go_at_call 73; (refine (num_Cut.calls 9 n _ _ p1 p2 _ HP.out).mono ?_); rintro e w' ⟨rfl, ⟨nd, rfl⟩⟩))
   go_ret
   exact ⟨rfl, by repeat (first | exact Drawn0.refl _ | apply Drawn0.step)⟩

section
variable (a : Int) (b : ByteArray) (v : Int)
/-- What is told of a repetition of ops, in k rounds. -/
def RepSpec (k : Nat) : Prop := ∀ (w0 w : World) (g : Nat) (st : List Int) (fu : Int) (out : List S50) (vs vo : Value) (n : Int) (A0 : Option Addr) (c0 : Nat) (l0 : List S34) (r : Int × List Int × Int × List S50), Mach w0 w g a b v st fu out vs vo → Kd.C k34 w0 A0 l0.length l0 → l0.length ≤ c0 → mrep etwo eone a b v k n l0 st fu out = some r →
 Calls Try.prog 63 #[.pointer (some ⟨g, 0, none⟩), .int .i64 n, .slice A0 l0.length c0] w fun e w' => e = .returned (.int .i64 r.1) ∧ ∃ vs' vo', Mach w0 w' g a b v r.2.1 r.2.2.1 r.2.2.2 vs' vo'
def RunSpec (k : Nat) : Prop := ∀ (w0 w : World) (g : Nat) (st : List Int) (fu : Int) (out : List S50) (vs vo : Value) (A0 : Option Addr) (c0 : Nat) (l0 : List S34) (r : Int × List Int × Int × List S50), Mach w0 w g a b v st fu out vs vo → Kd.C k34 w0 A0 l0.length l0 → l0.length ≤ c0 → mrun etwo eone a b v k l0 st fu out = some r →
 Calls Try.prog 44 #[.pointer (some ⟨g, 0, none⟩), .slice A0 l0.length c0] w fun e w' => e = .returned (.int .i64 r.1) ∧ ∃ vs' vo', Mach w0 w' g a b v r.2.1 r.2.2.1 r.2.2.2 vs' vo'
end

set_option maxHeartbeats 8000000 in
set_option maxRecDepth 100000 in
theorem machine_do.calls (a : Int) (b : ByteArray) (v : Int) (k : Nat) (hrep : RepSpec a b v k) (w0 w : World) (g : Nat) (st : List Int) (fu : Int) (out : List S50) (vs vo : Value) (x : S34) (A : Option Addr) (c : Nat) (r : Int × List Int × Int × List S50) (hm : Mach w0 w g a b v st fu out vs vo) (hr : Kd.C k34 w0 A x.f2.length x.f2) (hc : x.f2.length ≤ c) (h : mdo etwo eone a b v (k + 1) x st fu out = some r) :
  Calls Try.prog 53 #[.pointer (some ⟨g, 0, none⟩), .agg #[.int .i64 x.f0, .int .i64 x.f1, .slice A x.f2.length c]] w fun e w' => e = .returned (.int .i64 r.1) ∧ ∃ vs' vo', Mach w0 w' g a b v r.2.1 r.2.2.1 r.2.2.2 vs' vo' := by
 have hu34 := Try.underlying34
 have HR := Aside0.mk hr
 have HC := Aside0.mk hc
 have HM := Aside0.mk hm
 have HF := Aside0.mk hrep
 clear hr hc hm hrep
 obtain ⟨fx, fn, l⟩ := x
 simp only [mdo] at h
 by_cases c0 : fx < 1
 ·
  rw [if_pos c0] at h
  exact absurd h (by simp)
 rw [if_neg c0] at h
 have HH := Aside0.mk h
 clear h
 go_enter Try.func53, Try.ntmps53
 go_upto_region 1 with (first | ((with_reducible refine gate_dst (N := 3) rfl ?_); refine box_event ?hg (N := 3) ?hd (cs := #[.int .i64 fx, .int .i64 fn, .slice A l.length c]) (t := 34) ?hr ?_; (case hd => rfl); (case hg => rfl); (case hr => first | (go_simp; done) | (go_simp; rfl)); intro gb hg w4 hbox hb; have GB := Aside0.mk hbox; have HM4 := Aside0.mk (HM.out.below hb); have GE := Aside0.mk (show w0.heap.size ≤ gb by rw [hg]; exact below_size HM.out.bel); clear hbox hb hg))
 have H := HH.out
 clear HH HM
 have hx0 : w4.cell? ⟨gb, 0, none⟩ = some (.int .i64 fx) := (blk_cell GB.out 0).trans rfl
 have hx1 : w4.cell? ⟨gb, 1, none⟩ = some (.int .i64 fn) := (blk_cell GB.out 1).trans rfl
 have hx2 : w4.cell? ⟨gb, 2, none⟩ = some (.slice A l.length c) := (blk_cell GB.out 2).trans rfl
 by_cases c1 : fx ≤ 4
 ·
  have c1b0 : decide (fx ≤ 4) = true := decide_eq_true c1
  rw [if_pos c1] at H
  obtain ⟨hl, rfl⟩ := push1_some H
  clear H
  go_wp2_with (first | ((with_reducible refine gate_callee (f := 58) rfl ?_); refine goesL_ (some 18) rfl rfl Try.func58 (by kernel_rfl) rfl #[.pointer (some ⟨g, 0, none⟩), .agg #[.int .i64 fx, .int .i64 fn, .slice A l.length c]] rfl (by (try simp only [List.map_toArray, List.map_cons, List.map_nil]); first | done | rfl) ?_; (with_reducible refine (machine_value.calls w0 _ g a b v _ _ out _ _ fx fn A c l HM4.out).mono ?_); rintro e w5 ⟨rfl, hm5⟩; refine ⟨_, rfl, ?_⟩; have HM5 := Aside0.mk hm5; clear hm5) | ((with_reducible refine gate_callee (f := 57) rfl ?_); refine goesL_ (some 19) rfl rfl Try.func57 (by kernel_rfl) rfl #[.pointer (some ⟨g, 0, none⟩), .int .i64 (mvalue fx fn a b v)] rfl (by (try simp only [List.map_toArray, List.map_cons, List.map_nil]); first | done | rfl) ?_; (with_reducible refine (machine_push.calls w0 _ g a b v _ _ out _ _ (mvalue fx fn a b v) HM5.out hl).mono ?_); rintro e w6 ⟨rfl, vs6, hm6⟩; refine ⟨_, rfl, ?_⟩; have HM6 := Aside0.mk hm6; clear hm6))
  go_ret
  exact ⟨rfl, _, _, HM6.out⟩
 have c1b0 : decide (fx ≤ 4) = false := decide_eq_false c1
 rw [if_neg c1] at H
 by_cases c2 : fx ≤ 17
 ·
  have c2b0 : decide (fx ≤ 17) = true := decide_eq_true c2
  rw [if_pos c2] at H
  obtain ⟨⟨p, st1⟩, hp, H⟩ := Option.bind_eq_some_iff.mp H
  obtain ⟨⟨q, st2⟩, hq, H⟩ := Option.bind_eq_some_iff.mp H
  obtain ⟨t, ht, H⟩ := Option.bind_eq_some_iff.mp H
  dsimp only at *
  obtain ⟨hl, rfl⟩ := push1_some H
  clear H
  go_wp2_with (first | ((with_reducible refine gate_callee (f := 59) rfl ?_); refine goesL_ (some 24) rfl rfl Try.func59 (by kernel_rfl) rfl #[.pointer (some ⟨g, 0, none⟩)] rfl (by (try simp only [List.map_toArray, List.map_cons, List.map_nil]); first | done | rfl) ?_; (with_reducible refine (machine_pop.calls w0 _ g a b v _ _ out _ _ p _ HM4.out hp).mono ?_); rintro e w5 ⟨rfl, ⟨vs5, hm5⟩, _⟩; refine ⟨_, rfl, ?_⟩; have HM5 := Aside0.mk hm5; clear hm5) | ((with_reducible refine gate_callee (f := 59) rfl ?_); refine goesL_ (some 26) rfl rfl Try.func59 (by kernel_rfl) rfl #[.pointer (some ⟨g, 0, none⟩)] rfl (by (try simp only [List.map_toArray, List.map_cons, List.map_nil]); first | done | rfl) ?_; (with_reducible refine (machine_pop.calls w0 _ g a b v _ _ out _ _ q _ HM5.out hq).mono ?_); rintro e w6 ⟨rfl, ⟨vs6, hm6⟩, _⟩; refine ⟨_, rfl, ?_⟩; have HM6 := Aside0.mk hm6; clear hm6) | (go_at_call 60; (refine (eval_two.calls 9 fx q p t _ (show eval_two.f 9 fx q p = some t from ht)).mono ?_); rintro e w' ⟨rfl, ⟨nd, rfl⟩⟩; have HM7 := Aside0.mk (HM6.out.drewN nd)) | ((with_reducible refine gate_callee (f := 57) rfl ?_); refine goesL_ (some 32) rfl rfl Try.func57 (by kernel_rfl) rfl #[.pointer (some ⟨g, 0, none⟩), .int .i64 t] rfl (by (try simp only [List.map_toArray, List.map_cons, List.map_nil]); first | done | rfl) ?_; (with_reducible refine (machine_push.calls w0 _ g a b v _ _ out _ _ t HM7.out hl).mono ?_); rintro e w8 ⟨rfl, vs8, hm8⟩; refine ⟨_, rfl, ?_⟩; have HM8 := Aside0.mk hm8; clear hm8))
  go_ret
  exact ⟨rfl, _, _, HM8.out⟩
 have c2b0 : decide (fx ≤ 17) = false := decide_eq_false c2
 rw [if_neg c2] at H
 by_cases c3 : fx ≤ 24
 ·
  have c3b0 : decide (fx ≤ 24) = true := decide_eq_true c3
  rw [if_pos c3] at H
  obtain ⟨⟨p, st1⟩, hp, H⟩ := Option.bind_eq_some_iff.mp H
  obtain ⟨t, ht, H⟩ := Option.bind_eq_some_iff.mp H
  dsimp only at *
  obtain ⟨hl, rfl⟩ := push1_some H
  clear H
  go_wp2_with (first | ((with_reducible refine gate_callee (f := 59) rfl ?_); refine goesL_ (some 39) rfl rfl Try.func59 (by kernel_rfl) rfl #[.pointer (some ⟨g, 0, none⟩)] rfl (by (try simp only [List.map_toArray, List.map_cons, List.map_nil]); first | done | rfl) ?_; (with_reducible refine (machine_pop.calls w0 _ g a b v _ _ out _ _ p _ HM4.out hp).mono ?_); rintro e w5 ⟨rfl, ⟨vs5, hm5⟩, _⟩; refine ⟨_, rfl, ?_⟩; have HM5 := Aside0.mk hm5; clear hm5) | (go_at_call 61; (with_reducible refine (eone.calls fx p t _ (by omega) c3 ht).mono ?_); rintro e w' ⟨rfl, ⟨nd, rfl⟩⟩; have HM7 := Aside0.mk (HM5.out.drewN nd)) | ((with_reducible refine gate_callee (f := 57) rfl ?_); refine goesL_ (some 41) rfl rfl Try.func57 (by kernel_rfl) rfl #[.pointer (some ⟨g, 0, none⟩), .int .i64 t] rfl (by (try simp only [List.map_toArray, List.map_cons, List.map_nil]); first | done | rfl) ?_; (with_reducible refine (machine_push.calls w0 _ g a b v _ _ out _ _ t HM7.out hl).mono ?_); rintro e w8 ⟨rfl, vs8, hm8⟩; refine ⟨_, rfl, ?_⟩; have HM8 := Aside0.mk hm8; clear hm8))
  go_ret
  exact ⟨rfl, _, _, HM8.out⟩
 have c3b0 : decide (fx ≤ 24) = false := decide_eq_false c3
 rw [if_neg c3] at H
 by_cases c4 : fx = 25
 ·
  subst c4
  rw [if_pos rfl] at H
  obtain ⟨⟨p, st1⟩, hp, H⟩ := Option.bind_eq_some_iff.mp H
  dsimp only at H
  obtain ⟨hl, rfl⟩ := push1_some H
  obtain ⟨As, cs, rfl⟩ := Kd.R_slice HM4.out.rs
  obtain ⟨⟨hp0, hp1⟩, rfl, rfl⟩ := pop1_some hp
  have hz3 : w4.cell? ⟨g, 3, none⟩ = some (.slice As st.length cs) := (blk_cell HM4.out.blk 3).trans rfl
  have p1 : 0 ≤ (st.length : Int) - 1 := by omega
  have q1 : (st.length : Int) - 1 < st.length := by omega
  have e1 : wrap64 ((st.length : Int) - 1) = (st.length : Int) - 1 := by unfold wrap64; omega
  have e2 : IntKind.i64.wrap ((st.length : Int) - 1) = (st.length : Int) - 1 := (i64_w _).trans e1
  obtain ⟨ad, ea, hx⟩ := Kd.at_int (Kd.R_reads' HM4.out.rs).2.2 ((st.length : Int) - 1) p1 q1
  cases ea
  have hc : ((st.length : Int) - 1).toNat = st.length - 1 := by omega
  rw [hc] at hx
  have p2 : (1 : Int) ≤ st.length := by omega
  clear H hp
  go_wp2
  go_still_tail 13, (by kernel_rfl)
  change wpList _ _ _ _ _ w4.drew
  have HM5 := Aside0.mk HM4.out.drew
  generalize w4.drew = w5 at HM5 ⊢
  go_wp2_with (first | ((with_reducible refine gate_callee (f := 57) rfl ?_); refine goesL_ (some 58) rfl rfl Try.func57 (by kernel_rfl) rfl #[.pointer (some ⟨g, 0, none⟩), .int .i64 (rd st ((st.length : Int) - 1))] rfl (by (try simp only [List.map_toArray, List.map_cons, List.map_nil]); first | done | rfl) ?_; (with_reducible refine (machine_push.calls w0 _ g a b v _ _ out _ _ (rd st ((st.length : Int) - 1)) HM5.out hl).mono ?_); rintro e w6 ⟨rfl, vs6, hm6⟩; refine ⟨_, rfl, ?_⟩; have HM6 := Aside0.mk hm6; clear hm6))
  go_ret
  exact ⟨rfl, _, _, HM6.out⟩
 have c4b0 : (fx == 25) = false := beq_eq_false_iff_ne.mpr c4
 rw [if_neg c4] at H
 by_cases c5 : fx = 26
 ·
  subst c5
  rw [if_pos rfl] at H
  obtain ⟨⟨p, st1⟩, hp, H⟩ := Option.bind_eq_some_iff.mp H
  obtain ⟨⟨q, st2⟩, hq, H⟩ := Option.bind_eq_some_iff.mp H
  obtain rfl := Option.some.inj H
  dsimp only at hq
  have hst := pop1_form hp
  have hst1 := pop1_form hq
  have hl1 := (pop1_some hp).1.2
  subst hst1
  obtain ⟨As, cs, rfl⟩ := Kd.R_slice HM4.out.rs
  have hlen : st.length = st2.length + 2 := by rw [hst]; simp
  have hz3 : w4.cell? ⟨g, 3, none⟩ = some (.slice As st.length cs) := (blk_cell HM4.out.blk 3).trans rfl
  have e3 : IntKind.i64.wrap (st2.length : Int) = st2.length := (i64_w _).trans (by unfold wrap64; omega)
  have e4 : wrap64 (st2.length : Int) = st2.length := by unfold wrap64; omega
  have hcap := (Kd.R_reads' HM4.out.rs).2.1
  have hne : (cs = st2.length) = False := eq_false (by omega)
  obtain ⟨ad, ea, _⟩ := Kd.at_int (Kd.R_reads' HM4.out.rs).2.2 (st2.length : Int) (by omega) (by omega)
  cases ea
  obtain ⟨gs, rfl⟩ := Kd.R_head HM4.out.rs
  have hc0 := Kd.R_celln (0 : Int) HM4.out.rs (st2.length : Int) (by omega) (by omega)
  have hc1 := Kd.R_celln (0 : Int) HM4.out.rs ((st2.length + 1 : Nat) : Int) (by omega) (by omega)
  have hr0 : rdOf 0 st (st2.length : Int) = q := by rw [hst]; simp [rdOf]
  have hr1 : rdOf 0 st ((st2.length + 1 : Nat) : Int) = p := by rw [hst]; simp [rdOf]
  rw [hr0, Int.toNat_natCast] at hc0
  rw [hr1, Int.toNat_natCast] at hc1
  have HC0 := Aside0.mk hc0
  have HC1 := Aside0.mk hc1
  have HCAP := Aside0.mk (show 2 ≤ cs - st2.length by omega)
  rw [hlen] at hz3
  have p5 : (st2.length : Int) ≤ st2.length + 2 := by omega
  have hset : (st.set st2.length p).set (st2.length + 1) q = st2 ++ [p, q] := by rw [hst]; simp
  clear hcap hc0 hc1
  clear H hp hq
  go_wp2
  go_still_tail 11, (by kernel_rfl)
  change wpList _ _ _ _ _ w4.drew
  have HM5 := Aside0.mk HM4.out.drew
  generalize w4.drew = w5 at HM5 ⊢
  have HN : Aside0 (Mach w0 ((w5.setCell ⟨gs, st2.length, none⟩ (.int .i64 p)).setCell ⟨gs, st2.length + 1, none⟩ (.int .i64 q)) g a b v (st2 ++ [p, q]) fu out (.slice (some ⟨gs, 0, none⟩) st.length cs) vo) := ⟨hset ▸ (HM5.out.putStack st2.length (by omega) p).putStack (st2.length + 1) (by omega) q⟩
  have hd0 : w5.cell? ⟨gs, st2.length, none⟩ = some (.int .i64 q) ∧ w5.frozen? ⟨gs, st2.length, none⟩ = false := by
   have h_ := Kd.R_celln (0 : Int) HM5.out.rs (st2.length : Int) (by omega) (by omega)
   rw [hr0, Int.toNat_natCast] at h_
   exact h_
  have hd1 : w5.cell? ⟨gs, st2.length + 1, none⟩ = some (.int .i64 p) ∧ w5.frozen? ⟨gs, st2.length + 1, none⟩ = false := by
   have h_ := Kd.R_celln (0 : Int) HM5.out.rs ((st2.length + 1 : Nat) : Int) (by omega) (by omega)
   rw [hr1, Int.toNat_natCast] at h_
   exact h_
  go_wp2_with (fail)
  refine (rev2.calls _ gs st2.length (cs - st2.length) q p hd0.1 hd1.1 hd0.2 hd1.2 HCAP.out).mono ?_
  rintro e w6 ⟨rfl, nd, rfl⟩
  have HN2 := Aside0.mk (HN.out.drewN nd)
  go_wp2
  go_ret
  exact ⟨rfl, _, _, HN2.out⟩
 have c5b0 : (fx == 26) = false := beq_eq_false_iff_ne.mpr c5
 rw [if_neg c5] at H
 by_cases c6 : fx = 27
 ·
  subst c6
  rw [if_pos rfl] at H
  obtain ⟨⟨p, st1⟩, hp, H⟩ := Option.bind_eq_some_iff.mp H
  obtain rfl := Option.some.inj H
  clear H
  go_wp2_with (first | ((with_reducible refine gate_callee (f := 59) rfl ?_); refine goesL_ (some 78) rfl rfl Try.func59 (by kernel_rfl) rfl #[.pointer (some ⟨g, 0, none⟩)] rfl (by (try simp only [List.map_toArray, List.map_cons, List.map_nil]); first | done | rfl) ?_; (with_reducible refine (machine_pop.calls w0 _ g a b v _ _ out _ _ p _ HM4.out hp).mono ?_); rintro e w5 ⟨rfl, ⟨vs5, hm5⟩, _⟩; refine ⟨_, rfl, ?_⟩; have HM5 := Aside0.mk hm5; clear hm5))
  go_ret
  exact ⟨rfl, _, _, HM5.out⟩
 have c6b0 : (fx == 27) = false := beq_eq_false_iff_ne.mpr c6
 rw [if_neg c6] at H
 have HNE := Aside0.mk (blk_ne HM4.out.blk GB.out (by decide))
 by_cases c7 : fx = 28
 ·
  subst c7
  rw [if_pos rfl] at H
  obtain ⟨⟨p, st1⟩, hp, H⟩ := Option.bind_eq_some_iff.mp H
  dsimp only at H
  by_cases c9 : p = 0
  ·
   subst c9
   rw [if_pos rfl] at H
   go_wp2
   go_region_with (first | (go_at_call 59; refine (machine_pop.calls w0 _ g a b v _ _ out _ _ 0 _ (by first | exact HM4.out | exact HM4.out.drew) hp).mono ?_; rintro e w5 ⟨rfl, ⟨vs5, hm5⟩, hk5⟩; have HM5 := Aside0.mk hm5; have hy2 := keep_cell hk5 hx2 (Ne.symm HNE.out); clear hm5 hk5) | (go_at_call 64; refine (eval_truth.calls false 0 _ (by decide)).mono ?_; rintro e w' ⟨rfl, ⟨nd, rfl⟩⟩; have HM6 := Aside0.mk (HM5.out.drewN nd)) | (go_at_call 63; refine (HF.out w0 _ g st1 fu out _ _ 0 A c l r HM6.out HR.out HC.out H).mono ?_; rintro e w7 ⟨rfl, vs7, vo7, hm7⟩; have HM7 := Aside0.mk hm7; clear hm7))
   all_goals (go_wp2; go_ret; exact ⟨rfl, _, _, HM7.out⟩)
  ·
   have c9b0 : (p == 0) = false := beq_eq_false_iff_ne.mpr c9
   have c9b1 : (p != 0) = true := bne_iff_ne.mpr c9
   rw [if_neg c9] at H
   go_wp2
   go_region_with (first | (go_at_call 59; refine (machine_pop.calls w0 _ g a b v _ _ out _ _ p _ (by first | exact HM4.out | exact HM4.out.drew) hp).mono ?_; rintro e w5 ⟨rfl, ⟨vs5, hm5⟩, hk5⟩; have HM5 := Aside0.mk hm5; have hy2 := keep_cell hk5 hx2 (Ne.symm HNE.out); clear hm5 hk5) | (go_at_call 64; refine (eval_truth.calls true 1 _ (by decide)).mono ?_; rintro e w' ⟨rfl, ⟨nd, rfl⟩⟩; have HM6 := Aside0.mk (HM5.out.drewN nd)) | (go_at_call 63; refine (HF.out w0 _ g st1 fu out _ _ 1 A c l r HM6.out HR.out HC.out H).mono ?_; rintro e w7 ⟨rfl, vs7, vo7, hm7⟩; have HM7 := Aside0.mk hm7; clear hm7))
   all_goals (go_wp2; go_ret; exact ⟨rfl, _, _, HM7.out⟩)
 have c7b0 : (fx == 28) = false := beq_eq_false_iff_ne.mpr c7
 rw [if_neg c7] at H
 by_cases c8 : fx = 29
 ·
  subst c8
  rw [if_pos rfl] at H
  obtain ⟨⟨p, st1⟩, hp, H⟩ := Option.bind_eq_some_iff.mp H
  dsimp only at H
  go_wp2
  go_region_with (first | (go_at_call 59; refine (machine_pop.calls w0 _ g a b v _ _ out _ _ p _ (by first | exact HM4.out | exact HM4.out.drew) hp).mono ?_; rintro e w5 ⟨rfl, ⟨vs5, hm5⟩, hk5⟩; have HM5 := Aside0.mk hm5; have hy2 := keep_cell hk5 hx2 (Ne.symm HNE.out); clear hm5 hk5) | (go_at_call 63; refine (HF.out w0 _ g st1 fu out _ _ p A c l r HM5.out HR.out HC.out H).mono ?_; rintro e w7 ⟨rfl, vs7, vo7, hm7⟩; have HM7 := Aside0.mk hm7; clear hm7))
  all_goals (go_wp2; go_ret; exact ⟨rfl, _, _, HM7.out⟩)
 have c8b0 : (fx == 29) = false := beq_eq_false_iff_ne.mpr c8
 rw [if_neg c8] at H
 obtain ⟨⟨p, st1⟩, hp, H⟩ := Option.bind_eq_some_iff.mp H
 obtain ⟨⟨q, st2⟩, hq, H⟩ := Option.bind_eq_some_iff.mp H
 dsimp only at hq H
 go_wp2_with (first | ((with_reducible refine gate_callee (f := 65) rfl ?_); refine goesL_ (some 11) rfl rfl Try.func65 (by kernel_rfl) rfl #[.pointer (some ⟨g, 0, none⟩)] rfl (by (try simp only [List.map_toArray, List.map_cons, List.map_nil]); first | done | rfl) ?_; (with_reducible refine (machine_emit.calls' w0 _ g a b v _ _ out _ _ p q _ _ r HM4.out hp hq H).mono ?_); rintro e w5 ⟨vs5, vo5, rfl, hm5⟩; refine ⟨_, rfl, ?_⟩; have HM5 := Aside0.mk hm5; clear hm5))
 go_ret
 exact ⟨rfl, _, _, HM5.out⟩
end Go.Proofs.Ytchgjkfnmifgkaa.QE

namespace Go.Proofs.Ytchgjkfnmifgkaa.QE
open Go.RowKit Go.Proofs.YtchgjkfnmifgkaaW.PrintWords Go.Proofs.YtchgjkfnmifgkaaW.PrintLast Go.Proofs.YtchgjkfnmifgkaaW.PrintMore
attribute [local go_sem] max2_int min2_int max_two min_two max_three min_three max_four min_four
set_option linter.unusedVariables false
set_option linter.unusedSimpArgs false


set_option maxHeartbeats 8000000 in
set_option maxRecDepth 100000 in
theorem machine_repeat.calls (a : Int) (b : ByteArray) (v : Int) (k : Nat) (ih : ∀ j, j < k → RunSpec a b v j) : RepSpec a b v k := by
 intro w0 w g st fu out vs vo n A0 c0 l0 r hm hr hc h
 cases k with
 | zero => simp [mrep] at h
 | succ k =>
 have HR := Aside0.mk hr
 have HC := Aside0.mk hc
 have HM := Aside0.mk hm
 have H' := Aside0.mk h
 clear hr hc hm h
 go_enter Try.func63, Try.ntmps63
 go_wp2
 go_loopg [1] (k + 1) (fun kq v1 w' => ∃ (n1 : Int) (st1 : List Int) (fu1 : Int) (out1 : List S50) (vs1 vo1 : Value), v1 = .int .i64 n1 ∧ Aside0 (mrep etwo eone a b v kq n1 l0 st1 fu1 out1 = some r) ∧ Aside0 (kq ≤ k + 1) ∧ Aside0 (Mach w0 w' g a b v st1 fu1 out1 vs1 vo1))
 case atStart => exact ⟨n, st, fu, out, vs, vo, rfl, H', ⟨Nat.le_refl _⟩, HM⟩
 case round =>
  clear H' HM
  obtain ⟨n1, st1, fu1, out1, vs1, vo1, rfl, HA, HK1, HM⟩ := hrel
  cases gk with
  | zero => exact absurd HA.out (by simp [mrep])
  | succ k1 =>
   have H := HA.out
   clear HA
   simp only [mrep] at H
   by_cases c0 : 9223372036854775807 < n1
   ·
    rw [if_pos c0] at H
    exact absurd H (by simp)
   rw [if_neg c0] at H
   clear c0
   by_cases c1 : n1 > 0
   ·
    rw [if_pos c1] at H
    have c1b0 : decide (0 < n1) = true := decide_eq_true c1
    by_cases c2 : (l0.length : Int) > 0
    ·
     rw [if_pos c2] at H
     have c2b0 : decide (0 < (l0.length : Int)) = true := decide_eq_true c2
     obtain ⟨⟨e1, st2, fu2, out2⟩, hrun, H⟩ := Option.bind_eq_some_iff.mp H
     dsimp only at H
     have HH := Aside0.mk H
     have HRUN := Aside0.mk hrun
     clear H hrun
     go_wp2_with (fail)
     refine (ih k1 (by have := HK1.out; omega) w0 _ g st1 fu1 out1 vs1 vo1 A0 c0 l0 _ HM.out HR.out HC.out HRUN.out).mono ?_
     rintro e w5 ⟨rfl, vs5, vo5, hm5⟩
     have HM5 := Aside0.mk hm5
     have H := HH.out
     clear hm5 HM HH
     dsimp only
     by_cases c3 : e1 = 0
     ·
      subst c3
      rw [if_pos rfl] at H
      have H' := Aside0.mk H
      clear H
      go_wp2
      go_roundg k1
      case measure => have := HK1.out; omega
      case rel => exact ⟨wrap64 (n1 - 1), st2, fu2, out2, vs5, vo5, rfl, H', ⟨by have := HK1.out; omega⟩, HM5⟩
     ·
      rw [if_neg c3] at H
      obtain rfl := Option.some.inj H
      have c3b0 : (e1 == 0) = false := beq_eq_false_iff_ne.mpr c3
      have c3b1 : (e1 != 0) = true := bne_iff_ne.mpr c3
      clear H
      go_wp2
      go_ret
      exact ⟨rfl, _, _, HM5.out⟩
    ·
     rw [if_neg c2] at H
     obtain rfl := Option.some.inj H
     have c2b0 : decide (0 < (l0.length : Int)) = false := decide_eq_false c2
     clear H
     go_wp2
     go_ret
     exact ⟨rfl, _, _, HM.out⟩
   ·
    rw [if_neg c1] at H
    obtain rfl := Option.some.inj H
    have c1b0 : decide (0 < n1) = false := decide_eq_false c1
    clear H
    go_wp2
    go_ret
    exact ⟨rfl, _, _, HM.out⟩

theorem rd_T34_get' {l : List S34} {i : Nat} (h : i < l.length) : rd_T34 l (i : Int) = l[i] := by
 unfold rd_T34
 rw [List.getD_eq_getElem?_getD]
 simp [h]

set_option maxHeartbeats 8000000 in
set_option maxRecDepth 100000 in
theorem machine_block.calls (a : Int) (b : ByteArray) (v : Int) : ∀ k, RunSpec a b v k := by
 intro k
 induction k using Nat.strongRecOn with
 | _ k ih =>
 intro w0 w g st fu out vs vo A0 c0 l0 r hm hr hc h
 cases k with
 | zero => simp [mrun] at h
 | succ k =>
 have hu34 := Try.underlying34
 have HL := Aside0.mk (mrun.len etwo eone a b v h)
 have HR := Aside0.mk hr
 have HC := Aside0.mk hc
 have HM := Aside0.mk hm
 have H' := Aside0.mk h
 clear hr hc hm h
 go_enter Try.func44, Try.ntmps44
 go_wp2
 go_loopg [10] (k + 1) (fun kq v10 w' => ∃ (i : Nat) (xi : Int) (st1 : List Int) (fu1 : Int) (out1 : List S50) (vs1 vo1 : Value), v10 = .int .i64 xi ∧ Aside0 (mrun etwo eone a b v kq (l0.drop i) st1 fu1 out1 = some r) ∧ Aside0 (xi = i) ∧ Aside0 (i ≤ l0.length) ∧ Aside0 (kq ≤ k + 1) ∧ Aside0 (Mach w0 w' g a b v st1 fu1 out1 vs1 vo1))
 case atStart => exact ⟨0, 0, st, fu, out, vs, vo, rfl, H', ⟨rfl⟩, ⟨Nat.zero_le _⟩, ⟨Nat.le_refl _⟩, HM⟩
 case round =>
  clear H' HM
  obtain ⟨i, xi, st1, fu1, out1, vs1, vo1, rfl, HA, HXI, HI, HK1, HM⟩ := hrel
  cases gk with
  | zero => exact absurd HA.out (by simp [mrun])
  | succ k1 =>
   have H := HA.out
   clear HA
   have HX := HXI.out
   subst HX
   by_cases hi : i < l0.length
   ·
    rw [List.drop_eq_getElem_cons hi, ← rd_T34_get' hi] at H
    simp only [mrun] at H
    split at H
    case isFalse => simp at H
    have HH := Aside0.mk H
    clear H
    have c3b0 : decide ((i : Int) < (l0.length : Int)) = true := decide_eq_true (by omega)
    have p107 : 0 ≤ (i : Int) := by omega
    have q107 : (i : Int) < l0.length := by omega
    obtain ⟨ad107, A2, c2, e107, hx0, hx1, hx2, hl2, hr2⟩ := at_T34 HR.out (i : Int) p107 q107
    cases e107
    rw [Int.toNat_natCast] at hx0 hx1 hx2
    replace hx0 := (HM.out.bel.cell (World.block_lt_of_cell? w0 _ hx0)).trans hx0
    replace hx1 := (HM.out.bel.cell (World.block_lt_of_cell? w0 _ hx1)).trans hx1
    replace hx2 := (HM.out.bel.cell (World.block_lt_of_cell? w0 _ hx2)).trans hx2
    have HR2 := Aside0.mk hr2
    have HC2 := Aside0.mk hl2
    clear hr2 hl2
    replace p107 := eq_true p107
    replace q107 := eq_true q107
    go_upto_region 4 with (first | ((with_reducible refine gate_dst (N := 6) rfl ?_); (try (refine gate_guard (by rfl) ?_; dsimp only)); refine box_event ?hg (N := 6) ?hd (cs := #[.int .i64 0, .int .i64 0, .slice none 0 0]) (t := 34) ?hr ?_; (case hd => rfl); (case hg => rfl); (case hr => first | (go_simp; done) | (go_simp; rfl)); intro gb hg w7 hbox hb; have GB := Aside0.mk hbox; have HM7 := Aside0.mk (HM.out.below hb); have GE := Aside0.mk (show w0.heap.size ≤ gb by rw [hg]; exact below_size HM.out.bel); have HNE := Aside0.mk (blk_ne HM7.out.blk hbox (by decide)); clear hbox hb hg; have hcz0 : w7.cell? ⟨gb, 0, none⟩ = some (.int .i64 0) := (blk_cell GB.out 0).trans rfl; have hcz1 : w7.cell? ⟨gb, 1, none⟩ = some (.int .i64 0) := (blk_cell GB.out 1).trans rfl; have hcz2 : w7.cell? ⟨gb, 2, none⟩ = some (.slice none 0 0) := (blk_cell GB.out 2).trans rfl; have hfz0 := blk_frozen GB.out 0; have hfz1 := blk_frozen GB.out 1; have hfz2 := blk_frozen GB.out 2))
    have GB1 := Aside0.mk (blk_put (cs := #[.int .i64 0, .int .i64 0, .slice none 0 0]) (cs' := #[.int .i64 ((rd_T34 l0 (i : Int)).f0), .int .i64 0, .slice none 0 0]) GB.out 0 (.int .i64 ((rd_T34 l0 (i : Int)).f0)) rfl)
    have GB2 := Aside0.mk (blk_put (cs := #[.int .i64 ((rd_T34 l0 (i : Int)).f0), .int .i64 0, .slice none 0 0]) (cs' := #[.int .i64 ((rd_T34 l0 (i : Int)).f0), .int .i64 ((rd_T34 l0 (i : Int)).f1), .slice none 0 0]) GB1.out 1 (.int .i64 ((rd_T34 l0 (i : Int)).f1)) rfl)
    have GB8 := Aside0.mk (blk_put (cs := #[.int .i64 ((rd_T34 l0 (i : Int)).f0), .int .i64 ((rd_T34 l0 (i : Int)).f1), .slice none 0 0]) (cs' := #[.int .i64 ((rd_T34 l0 (i : Int)).f0), .int .i64 ((rd_T34 l0 (i : Int)).f1), .slice A2 (rd_T34 l0 (i : Int)).f2.length c2]) GB2.out 2 (.slice A2 (rd_T34 l0 (i : Int)).f2.length c2) rfl)
    have HM8 := Aside0.mk (((HM7.out.far (j := 0) (.int .i64 ((rd_T34 l0 (i : Int)).f0)) GB.out GE.out (by decide)).far (j := 1) (.int .i64 ((rd_T34 l0 (i : Int)).f1)) GB1.out GE.out (by decide)).far (j := 2) (.slice A2 (rd_T34 l0 (i : Int)).f2.length c2) GB2.out GE.out (by decide))
    generalize hw8 : (((w7.setCell ⟨gb, 0, none⟩ (.int .i64 ((rd_T34 l0 (i : Int)).f0))).setCell ⟨gb, 1, none⟩ (.int .i64 ((rd_T34 l0 (i : Int)).f1))).setCell ⟨gb, 2, none⟩ (.slice A2 (rd_T34 l0 (i : Int)).f2.length c2)) = w8 at GB8 HM8 ⊢
    clear hw8 GB GB1 GB2 HM HM7
    have H := HH.out
    clear HH
    have hz4 : w8.cell? ⟨g, 4, none⟩ = some (.int .i64 fu1) := (blk_cell HM8.out.blk 4).trans rfl
    have hzf4 := blk_frozen HM8.out.blk 4
    by_cases c1 : fu1 = 0
    ·
     subst c1
     rw [if_pos rfl] at H
     obtain rfl := Option.some.inj H
     clear H
     go_wp2
     go_ret
     exact ⟨rfl, _, _, HM8.out⟩
    ·
     rw [if_neg c1] at H
     have c1b0 : (fu1 == 0) = false := beq_eq_false_iff_ne.mpr c1
     obtain ⟨⟨e1, st2, fu2, out2⟩, hdo, H⟩ := Option.bind_eq_some_iff.mp H
     dsimp only at H
     have HH := Aside0.mk H
     have HDO := Aside0.mk hdo
     clear H hdo
     go_upto_region 7 with (fail)
     have GB9 := Aside0.mk (blk_far (p := ⟨g, 4, none⟩) GB8.out (Ne.symm HNE.out) (.int .i64 (wrap64 (fu1 - 1))))
     have HM9 := Aside0.mk (HM8.out.setFuel (wrap64 (fu1 - 1)))
     generalize hw9 : w8.setCell ⟨g, 4, none⟩ (.int .i64 (wrap64 (fu1 - 1))) = w9 at GB9 HM9 ⊢
     clear hw9 GB8 HM8 hz4 hzf4
     have hcz0 : w9.cell? ⟨gb, 0, none⟩ = some (.int .i64 (rd_T34 l0 (i : Int)).f0) := (blk_cell GB9.out 0).trans rfl
     have hcz1 : w9.cell? ⟨gb, 1, none⟩ = some (.int .i64 (rd_T34 l0 (i : Int)).f1) := (blk_cell GB9.out 1).trans rfl
     have hcz2 : w9.cell? ⟨gb, 2, none⟩ = some (.slice A2 (rd_T34 l0 (i : Int)).f2.length c2) := (blk_cell GB9.out 2).trans rfl
     go_wp2_with (fail)
     cases k1 with
     | zero => exact absurd HDO.out (by simp [mdo])
     | succ k2 =>
     refine (machine_do.calls a b v k2 (machine_repeat.calls a b v k2 (fun j hj => ih j (by have := HK1.out; omega))) w0 _ g st1 (wrap64 (fu1 - 1)) out1 vs1 vo1 (rd_T34 l0 (i : Int)) A2 c2 _ HM9.out HR2.out HC2.out HDO.out).mono ?_
     rintro e w10 ⟨rfl, vs10, vo10, hm10⟩
     have HM10 := Aside0.mk hm10
     have H := HH.out
     clear hm10 HM9 HH hcz0 hcz1 hcz2 GB9
     dsimp only
     by_cases c3 : e1 = 0
     ·
      subst c3
      rw [if_pos rfl] at H
      have H' := Aside0.mk H
      clear H
      go_wp2
      go_roundg (k2 + 1)
      case measure => have := HK1.out; omega
      case rel => exact ⟨i + 1, wrap64 (i + 1), st2, fu2, out2, vs10, vo10, rfl, H', ⟨by have := HL.out; unfold wrap64; omega⟩, ⟨hi⟩, ⟨by have := HK1.out; omega⟩, HM10⟩
     ·
      rw [if_neg c3] at H
      obtain rfl := Option.some.inj H
      have c3b0 : (e1 == 0) = false := beq_eq_false_iff_ne.mpr c3
      have c3b1 : (e1 != 0) = true := bne_iff_ne.mpr c3
      clear H
      go_wp2
      go_ret
      exact ⟨rfl, _, _, HM10.out⟩
   ·
    have hi2 : l0.drop i = [] := List.drop_eq_nil_of_le (by omega)
    rw [hi2] at H
    simp only [mrun] at H
    obtain rfl := Option.some.inj H
    have c3b0 : decide ((i : Int) < (l0.length : Int)) = false := decide_eq_false (by omega)
    clear H
    go_wp2
    go_ret
    exact ⟨rfl, _, _, HM.out⟩

end Go.Proofs.Ytchgjkfnmifgkaa.QE

namespace Go.Proofs.Ytchgjkfnmifgkaa.QE
open Go.RowKit Go.Proofs.YtchgjkfnmifgkaaW.PrintWords Go.Proofs.YtchgjkfnmifgkaaW.PrintLast Go.Proofs.YtchgjkfnmifgkaaW.PrintMore
attribute [local go_sem] max2_int min2_int max_two min_two max_three min_three max_four min_four
set_option linter.unusedVariables false
set_option linter.unusedSimpArgs false

def eval_Run.f (k : Nat) (l0 : List S34) (a : Int) (b : ByteArray) (v : Int) (fu : Int) : Option (List S50 × Int × Int) :=
 (check_Check.f k l0).bind fun e => if e = 0 then
  (key_Check.f a b).bind fun e2 => if e2 = 0 then
   (if fu < 0 then some ([], 0, 1) else if fu > 2000 then some ([], 0, 1) else
    (mrun etwo eone a b v k l0 [] fu []).bind fun r => if r.1 = 0 then some (r.2.2.2, r.2.2.1, 0) else some ([], 0, r.1))
   else some ([], 0, 1)
  else some ([], 0, e)

theorem eval_Run.mono : ∀ l0 a b v fu k, LeO (eval_Run.f k l0 a b v fu) (eval_Run.f (k + 1) l0 a b v fu) := by
 intro l0 a b v fu k
 unfold eval_Run.f
 exact LeO.bind (check_Check.mono _ _) fun _ => LeO.ite (LeO.bind (LeO.refl _) fun _ => LeO.ite (LeO.ite (LeO.refl _) (LeO.ite (LeO.refl _) (LeO.bind ((m_mono _ _ _ _ _ _).1 _ _ _ _) fun _ => LeO.refl _))) (LeO.refl _)) (LeO.refl _)

set_option maxHeartbeats 8000000 in
set_option maxRecDepth 100000 in
theorem eval_Run.calls (k : Nat) (A0 : Option Addr) (c0 : Nat) (l0 : List S34) (a : Int) (b : ByteArray) (v : Int) (fu : Int) (r1 : List S50) (r2 : Int) (r3 : Int) (w : World) (hr0 : Kd.C k34 w A0 l0.length l0) (hc0 : l0.length ≤ c0) (h : eval_Run.f k l0 a b v fu = some (r1, r2, r3)) :
  Calls Try.prog 25 #[.slice A0 l0.length c0, .agg #[.int .i64 a, .string b, .int .i64 v], .int .i64 fu] w fun e w' => ∃ v0_ : Value, e = .returned (.tuple #[v0_, .int .i64 r2, .int .i64 r3]) ∧ Kd.R k50 50 w' w.heap.size (fun _ => True) v0_ r1 ∧ Below w.heap.size w w' := by
 have hu48 := Try.underlying48
 have hu50 := Try.underlying50
 have HR0 := Aside0.mk hr0
 have HC0 := Aside0.mk hc0
 clear hr0 hc0
 obtain ⟨e1, hl, H⟩ := Option.bind_eq_some_iff.mp h
 have HLC := Aside0.mk hl
 have HH := Aside0.mk H
 clear hl h H
 go_enter Try.func25, Try.ntmps25
 go_upto_region 2 with (first | ((with_reducible refine gate_dst (N := 4) rfl ?_); refine box_event ?hg (N := 4) ?hd (cs := #[.int .i64 a, .string b, .int .i64 v]) (t := 50) ?hr ?_; (case hd => rfl); (case hg => rfl); (case hr => first | (go_simp; done) | (go_simp; rfl)); intro gb hg w4 hbox hb; have GB := Aside0.mk hbox; have HB4 := Aside0.mk hb; have GE := Aside0.mk (show w.heap.size ≤ gb by rw [hg]; exact Nat.le_refl _); clear hbox hb hg) | ((with_reducible refine gate_callee (f := 36) rfl ?_); refine goesL_ (some 13) rfl rfl Try.func36 (by kernel_rfl) rfl #[.slice A0 l0.length c0] rfl (by (try simp only [List.map_toArray, List.map_cons, List.map_nil]); first | done | rfl) ?_; (with_reducible refine (check_Check.calls k _ _ l0 e1 _ (Kd.C_below HR0.out HB4.out) HC0.out HLC.out).mono ?_); rintro e w5 ⟨rfl, hb⟩; refine ⟨_, rfl, ?_⟩; have HB5 := Aside0.mk (below_step HB4.out hb); have GB5 := Aside0.mk (blk_below GB.out hb); clear hb))
 have H := HH.out
 clear HH GB HB4
 have hx0 : w5.cell? ⟨gb, 0, none⟩ = some (.int .i64 a) := (blk_cell GB5.out 0).trans rfl
 have hx1 : w5.cell? ⟨gb, 1, none⟩ = some (.string b) := (blk_cell GB5.out 1).trans rfl
 have hx2 : w5.cell? ⟨gb, 2, none⟩ = some (.int .i64 v) := (blk_cell GB5.out 2).trans rfl
 by_cases c1 : e1 = 0
 ·
  subst c1
  rw [if_pos rfl] at H
  obtain ⟨e2, hk, H⟩ := Option.bind_eq_some_iff.mp H
  have HK := Aside0.mk hk
  clear hk
  by_cases c2 : e2 = 0
  ·
   subst c2
   rw [if_pos rfl] at H
   by_cases c3 : fu < 0
   ·
    rw [if_pos c3] at H
    obtain ⟨rfl, rfl, rfl⟩ : [] = r1 ∧ 0 = r2 ∧ 1 = r3 := by simpa using H
    have c3b0 : decide (fu < 0) = true := decide_eq_true c3
    clear H
    go_wp2_with (first | ((with_reducible refine gate_callee (f := 43) rfl ?_); refine goesL_ (some 19) rfl rfl Try.func43 (by kernel_rfl) rfl #[.agg #[.int .i64 a, .string b]] rfl (by (try simp only [List.map_toArray, List.map_cons, List.map_nil]); first | done | rfl) ?_; (with_reducible refine (key_Check.calls a b 0 _ HK.out).mono ?_); rintro e w6 ⟨rfl, hb⟩; refine ⟨_, rfl, ?_⟩; have HB6 := Aside0.mk (below_step HB5.out hb); clear hb))
    go_ret3
    exact ⟨_, rfl, Kd.R_nil _ _ _ _ _, HB6.out⟩
   ·
    rw [if_neg c3] at H
    have c3b0 : decide (fu < 0) = false := decide_eq_false c3
    by_cases c4 : fu > 2000
    ·
     rw [if_pos c4] at H
     obtain ⟨rfl, rfl, rfl⟩ : [] = r1 ∧ 0 = r2 ∧ 1 = r3 := by simpa using H
     have c4b0 : decide (2000 < fu) = true := decide_eq_true c4
     clear H
     go_wp2_with (first | ((with_reducible refine gate_callee (f := 43) rfl ?_); refine goesL_ (some 19) rfl rfl Try.func43 (by kernel_rfl) rfl #[.agg #[.int .i64 a, .string b]] rfl (by (try simp only [List.map_toArray, List.map_cons, List.map_nil]); first | done | rfl) ?_; (with_reducible refine (key_Check.calls a b 0 _ HK.out).mono ?_); rintro e w6 ⟨rfl, hb⟩; refine ⟨_, rfl, ?_⟩; have HB6 := Aside0.mk (below_step HB5.out hb); clear hb))
     go_ret3
     exact ⟨_, rfl, Kd.R_nil _ _ _ _ _, HB6.out⟩
    ·
     rw [if_neg c4] at H
     have c4b0 : decide (2000 < fu) = false := decide_eq_false c4
     obtain ⟨⟨e3, st3, fu3, out3⟩, hrun, H⟩ := Option.bind_eq_some_iff.mp H
     dsimp only at H
     have HRUN := Aside0.mk hrun
     have HH := Aside0.mk H
     clear hrun H
     go_upto_region 7 with (first | ((with_reducible refine gate_callee (f := 43) rfl ?_); refine goesL_ (some 19) rfl rfl Try.func43 (by kernel_rfl) rfl #[.agg #[.int .i64 a, .string b]] rfl (by (try simp only [List.map_toArray, List.map_cons, List.map_nil]); first | done | rfl) ?_; (with_reducible refine (key_Check.calls a b 0 _ HK.out).mono ?_); rintro e w6 ⟨rfl, hb⟩; refine ⟨_, rfl, ?_⟩; have HB6 := Aside0.mk (below_step HB5.out hb); have GB6 := Aside0.mk (blk_below GB5.out hb); have hy0 : w6.cell? ⟨gb, 0, none⟩ = some (.int .i64 a) := (blk_cell GB6.out 0).trans rfl; have hy1 : w6.cell? ⟨gb, 1, none⟩ = some (.string b) := (blk_cell GB6.out 1).trans rfl; have hy2 : w6.cell? ⟨gb, 2, none⟩ = some (.int .i64 v) := (blk_cell GB6.out 2).trans rfl; clear hb) | ((with_reducible refine gate_dst (N := 32) rfl ?_); refine box_event ?hg (N := 32) ?hd (cs := #[.int .i64 a, .string b, .int .i64 v, .slice none 0 0, .int .i64 fu, .slice none 0 0]) (t := 82) ?hr ?_; (case hd => rfl); (case hg => rfl); (case hr => first | (go_simp; done) | (go_simp; rfl)); intro g hg w7 hbox hb; have HM7 := Aside0.mk (show Mach w w7 g a b v [] fu [] (.slice none 0 0) (.slice none 0 0) from ⟨hbox, by rw [hg]; exact below_size HB6.out, below_step HB6.out hb, Kd.R_nil _ _ _ _ _, Kd.R_nil _ _ _ _ _⟩); clear hbox hb hg))
     go_wp2_with (fail)
     refine (machine_block.calls a b v k w _ g [] fu [] _ _ A0 c0 l0 _ HM7.out HR0.out HC0.out HRUN.out).mono ?_
     rintro e w8 ⟨rfl, vs8, vo8, hm8⟩
     obtain ⟨A8, c8, rfl⟩ := Kd.R_slice hm8.ro
     have HM8 := Aside0.mk hm8
     have H := HH.out
     clear hm8 HH HM7
     dsimp only
     by_cases c5 : e3 = 0
     ·
      subst c5
      rw [if_pos rfl] at H
      obtain ⟨rfl, rfl, rfl⟩ : out3 = r1 ∧ fu3 = r2 ∧ 0 = r3 := by simpa using H
      clear H
      have hz5 : w8.cell? ⟨g, 5, none⟩ = some (.slice A8 out3.length c8) := (blk_cell HM8.out.blk 5).trans rfl
      have hz4 : w8.cell? ⟨g, 4, none⟩ = some (.int .i64 fu3) := (blk_cell HM8.out.blk 4).trans rfl
      go_wp2
      go_region
      go_wp2
      go_ret3
      exact ⟨_, rfl, Kd.R_drew HM8.out.ro, below_drew1 HM8.out.bel⟩
     ·
      rw [if_neg c5] at H
      obtain ⟨rfl, rfl, rfl⟩ : [] = r1 ∧ 0 = r2 ∧ e3 = r3 := by simpa using H
      have c5b0 : (e3 == 0) = false := beq_eq_false_iff_ne.mpr c5
      have c5b1 : (e3 != 0) = true := bne_iff_ne.mpr c5
      clear H
      go_wp2
      go_ret3
      exact ⟨_, rfl, Kd.R_nil _ _ _ _ _, HM8.out.bel⟩
  ·
   rw [if_neg c2] at H
   obtain ⟨rfl, rfl, rfl⟩ : [] = r1 ∧ 0 = r2 ∧ 1 = r3 := by simpa using H
   have c2b0 : (e2 == 0) = false := beq_eq_false_iff_ne.mpr c2
   have c2b1 : (e2 != 0) = true := bne_iff_ne.mpr c2
   clear H
   go_wp2_with (first | ((with_reducible refine gate_callee (f := 43) rfl ?_); refine goesL_ (some 19) rfl rfl Try.func43 (by kernel_rfl) rfl #[.agg #[.int .i64 a, .string b]] rfl (by (try simp only [List.map_toArray, List.map_cons, List.map_nil]); first | done | rfl) ?_; (with_reducible refine (key_Check.calls a b e2 _ HK.out).mono ?_); rintro e w6 ⟨rfl, hb⟩; refine ⟨_, rfl, ?_⟩; have HB6 := Aside0.mk (below_step HB5.out hb); clear hb))
   go_ret3
   exact ⟨_, rfl, Kd.R_nil _ _ _ _ _, HB6.out⟩
 ·
  rw [if_neg c1] at H
  obtain ⟨rfl, rfl, rfl⟩ : [] = r1 ∧ 0 = r2 ∧ e1 = r3 := by simpa using H
  have c1b0 : (e1 == 0) = false := beq_eq_false_iff_ne.mpr c1
  have c1b1 : (e1 != 0) = true := bne_iff_ne.mpr c1
  clear H
  go_wp2
  go_ret3
  exact ⟨_, rfl, Kd.R_nil _ _ _ _ _, HB5.out⟩

end Go.Proofs.Ytchgjkfnmifgkaa.QE
