/- The page's machine, by hand: its stack and what it emits lie in rows of its own, led to out of its block.
   The page's machine, by hand: an op of one number, and what two make.
   The page's machine, by hand: ops of numbers that were there.
   The page's machine, by hand: cuts, conditions, repetitions, what is emitted.
   The page's machine, by hand: conditions, repetitions, what is emitted.
   What thresherref6.Run answers, by hand. -/
import Derived.Test.YtchgjkfnmifgkaaHMach
import Derived.Deep.RegionLaw
import Derived.Test.YtchgjkfnmifgkaaQEx18
import Derived.StillTailTactics
namespace Go.Proofs.Ytchgjkfnmifgkaa.QE
open Go.RowKit Go.Proofs.YtchgjkfnmifgkaaW.PrintWords Go.Proofs.YtchgjkfnmifgkaaW.PrintLast Go.Proofs.YtchgjkfnmifgkaaW.PrintMore
attribute [local go_sem] max2_int min2_int max_two min_two max_three min_three max_four min_four
set_option linter.unusedVariables false
set_option linter.unusedSimpArgs false

theorem info50r : (Try.prog.info? 50).map (fun i => (i.zero, i.size, i.bytes)) = some (some (.agg #[(.int .i64 0), (.string ⟨#[]⟩), (.int .i64 0)]), 3, 32) := by kernel_rfl

/-- The machine at block g: its record, its stack, its fuel, what it emitted. -/
structure RMach (w0 wB w : World) (g : Nat) (a : Int) (b : ByteArray) (v : Int) (st : List Int) (fu : Int) (out : List S50) (vs vo : Value) : Prop where
 blk : w.heap[g]? = some (.cells #[.int .i64 a, .string b, .int .i64 v, .int .i64 fu, vs, vo] 96 (0, 0))
 ge : w0.heap.size ≤ g
 bel : Below w0.heap.size w0 w
 rs : Kd.R (Kd.int .i64) 2 w w0.heap.size (fun _ => True) vs st
 ro : Kd.R k50 50 w w0.heap.size (fun _ => True) vo out
 kp : ∀ (i : Nat) (cells : Array Value), wB.heap[i]? = some (.cells cells 34 (0, 0)) → w.heap[i]? = some (.cells cells 34 (0, 0))

section
variable {w0 wB w w1 : World} {g : Nat} {a : Int} {b : ByteArray} {v : Int} {st : List Int} {fu : Int} {out : List S50} {vs vo : Value}
theorem RMach.below (h : RMach w0 wB w g a b v st fu out vs vo) (hb : Below w.heap.size w w1) : RMach w0 wB w1 g a b v st fu out vs vo :=
 ⟨blk_below h.blk hb, h.ge, below_step h.bel hb, Kd.R_below h.rs hb, Kd.R_below h.ro hb, fun i cs hi => blk_below (h.kp i cs hi) hb⟩
theorem RMach.drewN (h : RMach w0 wB w g a b v st fu out vs vo) (n : Nat) : RMach w0 wB (w.drewN n) g a b v st fu out vs vo := ⟨h.blk, h.ge, pw_below_drewN h.bel n, Kd.R_drewN h.rs n, Kd.R_drewN h.ro n, h.kp⟩
theorem RMach.drew (h : RMach w0 wB w g a b v st fu out vs vo) : RMach w0 wB w.drew g a b v st fu out vs vo := ⟨h.blk, h.ge, below_drew1 h.bel, Kd.R_drew h.rs, Kd.R_drew h.ro, h.kp⟩
theorem RMach.restart (h : RMach w0 wB w g a b v st fu out vs vo) : RMach w0 w w g a b v st fu out vs vo := ⟨h.blk, h.ge, h.bel, h.rs, h.ro, fun _ _ hi => hi⟩
theorem RMach.back {st' : List Int} {fu' : Int} {out' : List S50} {vs' vo' : Value} (h : RMach w0 wB w g a b v st fu out vs vo) (h2 : RMach w0 w w1 g a b v st' fu' out' vs' vo') : RMach w0 wB w1 g a b v st' fu' out' vs' vo' := ⟨h2.blk, h2.ge, h2.bel, h2.rs, h2.ro, fun i cs hi => h2.kp i cs (h.kp i cs hi)⟩
theorem R_typed {α : Type} {d : Kd α} {e base : Nat} {ok : Nat → Prop} {W : World} {u : Value} {xs : List α} (h : d.R e W base ok u xs) (k : Nat) (hk : u.ownBlock = some k) : ∃ cells, W.heap[k]? = some (.cells cells e (0, 0)) := by
 obtain ⟨inner, ho⟩ := Kd.R_own h
 exact own_typed ho k hk
/-- A block of type 34 is kept, where a row of another type has been written. -/
theorem kp_grown {α : Type} {d : Kd α} {e base : Nat} {ok : Nat → Prop} {W W1 : World} {u : Value} {xs : List α} (hr : d.R e W base ok u xs) {i : Nat} {cells : Array Value} (h : W.heap[i]? = some (.cells cells 34 (0, 0))) (ht : e ≠ 34) (hg : W.grownBy W1 u.ownBlock) : W1.heap[i]? = some (.cells cells 34 (0, 0)) :=
 blk_grown h hg (Kd.R_ne hr h ht)
theorem kp_set {W : World} {gm : Nat} {cs : Array Value} (hk : W.heap[gm]? = some (.cells cs 96 (0, 0))) {i : Nat} {cells : Array Value} (h : W.heap[i]? = some (.cells cells 34 (0, 0))) (j : Nat) (u : Value) : (W.setCell ⟨gm, j, none⟩ u).heap[i]? = some (.cells cells 34 (0, 0)) :=
 blk_far h (Ne.symm (blk_ne hk h (by decide))) u
/-- The stack's row is another one, as far as it holds the same block or none, or has been written. -/
theorem RMach.setStack (h : RMach w0 wB w g a b v st fu out vs vo) {vs1 : Value} {st1 : List Int} (hr : Kd.R (Kd.int .i64) 2 w1 w0.heap.size (fun _ => True) vs1 st1) (hb : Below w0.heap.size w0 w1) (hg : w.grownBy w1 vs.ownBlock) : RMach w0 wB (w1.setCell ⟨g, 4, none⟩ vs1) g a b v st1 fu out vs1 vo := by
 have hk : w1.heap[g]? = some (.cells #[.int .i64 a, .string b, .int .i64 v, .int .i64 fu, vs, vo] 96 (0, 0)) := blk_grown h.blk hg (Kd.R_ne h.rs h.blk (by decide))
 have ho : Kd.R k50 50 w1 w0.heap.size (fun _ => True) vo out := Kd.R_over h.ro h.rs (by decide) hg
 exact ⟨blk_put hk 4 vs1 rfl, h.ge, below_set hb h.ge, Kd.R_set hr hk (by decide) 4 vs1, Kd.R_set ho hk (by decide) 4 vs1, fun i cs hi => kp_set hk (kp_grown h.rs (h.kp i cs hi) (by decide) hg) 4 vs1⟩
theorem RMach.setOut (h : RMach w0 wB w g a b v st fu out vs vo) {vo1 : Value} {out1 : List S50} (hr : Kd.R k50 50 w1 w0.heap.size (fun _ => True) vo1 out1) (hb : Below w0.heap.size w0 w1) (hg : w.grownBy w1 vo.ownBlock) : RMach w0 wB (w1.setCell ⟨g, 5, none⟩ vo1) g a b v st fu out1 vs vo1 := by
 have hk : w1.heap[g]? = some (.cells #[.int .i64 a, .string b, .int .i64 v, .int .i64 fu, vs, vo] 96 (0, 0)) := blk_grown h.blk hg (Kd.R_ne h.ro h.blk (by decide))
 have ho : Kd.R (Kd.int .i64) 2 w1 w0.heap.size (fun _ => True) vs st := Kd.R_over h.rs h.ro (by decide) hg
 exact ⟨blk_put hk 5 vo1 rfl, h.ge, below_set hb h.ge, Kd.R_set ho hk (by decide) 5 vo1, Kd.R_set hr hk (by decide) 5 vo1, fun i cs hi => kp_set hk (kp_grown h.ro (h.kp i cs hi) (by decide) hg) 5 vo1⟩
theorem RMach.setFuel (h : RMach w0 wB w g a b v st fu out vs vo) (x : Int) : RMach w0 wB (w.setCell ⟨g, 3, none⟩ (.int .i64 x)) g a b v st x out vs vo :=
 ⟨blk_put h.blk 3 _ rfl, h.ge, below_set h.bel h.ge, Kd.R_set h.rs h.blk (by decide) 3 _, Kd.R_set h.ro h.blk (by decide) 3 _, fun i cs hi => kp_set h.blk (h.kp i cs hi) 3 _⟩
end

/-- pop: the last number is told, and the stack is shorter. -/
theorem RMach.pop {w0 wB w : World} {g : Nat} {a : Int} {b : ByteArray} {v : Int} {st : List Int} {fu : Int} {out : List S50} {As : Option Addr} {cs : Nat} {vo : Value} (h : RMach w0 wB w g a b v st fu out (.slice As st.length cs) vo) : RMach w0 wB (w.setCell ⟨g, 4, none⟩ (.slice As (st.take (st.length - 1)).length cs)) g a b v (st.take (st.length - 1)) fu out (.slice As (st.take (st.length - 1)).length cs) vo := by
 have hr := Kd.R_take (m := st.length - 1) h.rs (by omega)
 have hk := h.blk
 rw [show st.length - 1 = (st.take (st.length - 1)).length by simp] at hr
 exact ⟨blk_put hk 4 _ rfl, h.ge, below_set h.bel h.ge, Kd.R_set (by simpa using hr) hk (by decide) 4 _, Kd.R_set h.ro hk (by decide) 4 _, fun i cs hi => kp_set hk (h.kp i cs hi) 4 _⟩

set_option maxHeartbeats 8000000 in
set_option maxRecDepth 100000 in
theorem rmachine_pop.calls (w0 wB w : World) (g : Nat) (a : Int) (b : ByteArray) (v : Int) (st : List Int) (fu : Int) (out : List S50) (vs vo : Value) (x : Int) (st' : List Int) (h : RMach w0 wB w g a b v st fu out vs vo) (hp : pop1 st = some (x, st')) :
  Calls Try.prog 67 #[.pointer (some ⟨g, 0, none⟩)] w fun e w' => e = .returned (.int .i64 x) ∧ (∃ vs', RMach w0 wB w' g a b v st' fu out vs' vo) ∧ KeepBut w w' g none := by
 obtain ⟨As, cs, rfl⟩ := Kd.R_slice h.rs
 obtain ⟨⟨hp0, hp1⟩, rfl, rfl⟩ := pop1_some hp
 have HM := Aside0.mk h
 clear h hp
 have hz3 : w.cell? ⟨g, 4, none⟩ = some (.slice As st.length cs) := (blk_cell HM.out.blk 4).trans rfl
 have hf3 := blk_frozen HM.out.blk 4
 have p1 : 0 ≤ (st.length : Int) - 1 := by omega
 have q1 : (st.length : Int) - 1 < st.length := by omega
 have e1 : wrap64 ((st.length : Int) - 1) = (st.length : Int) - 1 := by unfold wrap64; omega
 obtain ⟨ad, ea, hx⟩ := Kd.at_int (Kd.R_reads' HM.out.rs).2.2 ((st.length : Int) - 1) p1 q1
 cases ea
 have hc : ((st.length : Int) - 1).toNat = st.length - 1 := by omega
 rw [hc] at hx
 have hcap := (Kd.R_reads' HM.out.rs).2.1
 have HN := Aside0.mk HM.out.pop
 rw [List.length_take, Nat.min_eq_left (by omega)] at HN
 go_enter Try.func67, Try.ntmps67
 go_wp2
 go_ret
 exact ⟨rfl, ⟨_, HN.out⟩, (KeepBut.refl w g none).set_ 4 _⟩

end Go.Proofs.Ytchgjkfnmifgkaa.QE

namespace Go.Proofs.Ytchgjkfnmifgkaa.QE
open Go.RowKit Go.Proofs.YtchgjkfnmifgkaaW.PrintWords Go.Proofs.YtchgjkfnmifgkaaW.PrintLast Go.Proofs.YtchgjkfnmifgkaaW.PrintMore
attribute [local go_sem] max2_int min2_int max_two min_two max_three min_three max_four min_four
set_option linter.unusedVariables false
set_option linter.unusedSimpArgs false

def rtwo (kind n m : Int) : Option Int := thresherref6_binary.f kind n m
def rwidth (kind : Int) : Int := if kind = 19 ∨ kind = 22 then 8 else if kind = 20 ∨ kind = 23 then 16 else 32
def rone (kind n : Int) : Option Int := if kind = 18 then some (if n = 0 then 1 else 0) else thresherref1_Cut.f n (rwidth kind) (decide (kind ≥ 22))

section
variable (a : Int) (b : ByteArray) (v : Int)
def RRunSpec (k : Nat) : Prop := ∀ (w0 wB w : World) (g : Nat) (st : List Int) (fu : Int) (out : List S50) (vs vo : Value) (A0 : Option Addr) (c0 : Nat) (l0 : List S34) (r : Int × List Int × Int × List S50), RMach w0 wB w g a b v st fu out vs vo → Kd.C k34 w0 A0 l0.length l0 → l0.length ≤ c0 → mrun rtwo rone a b v k l0 st fu out = some r →
 Calls Try.prog 52 #[.pointer (some ⟨g, 0, none⟩), .slice A0 l0.length c0] w fun e w' => e = .returned (.int .i64 r.1) ∧ ∃ vs' vo', RMach w0 wB w' g a b v r.2.1 r.2.2.1 r.2.2.2 vs' vo'
/-- What is told of an op. -/
def ROpSpec (k : Nat) (x : S34) : Prop := ∀ (w0 wB w : World) (g : Nat) (st : List Int) (fu : Int) (out : List S50) (vs vo : Value) (A : Option Addr) (c : Nat) (r : Int × List Int × Int × List S50), RMach w0 wB w g a b v st fu out vs vo → Kd.C k34 w0 A x.f2.length x.f2 → x.f2.length ≤ c → mdo rtwo rone a b v (k + 1) x st fu out = some r →
 Calls Try.prog 56 #[.pointer (some ⟨g, 0, none⟩), .agg #[.int .i64 x.f0, .int .i64 x.f1, .slice A x.f2.length c]] w fun e w' => e = .returned (.int .i64 r.1) ∧ ∃ vs' vo', RMach w0 wB w' g a b v r.2.1 r.2.2.1 r.2.2.2 vs' vo'
end

set_option maxHeartbeats 8000000 in
set_option maxRecDepth 100000 in
theorem rop_low (a : Int) (b : ByteArray) (v : Int) (k : Nat) (x : S34) (hx : x.f0 ≤ 4) : ROpSpec a b v k x := by
 intro w0 wB w g st fu out vs vo A c r hm hr hc h
 have hu34 := Try.underlying34
 have hu48 := Try.underlying48
 have hu50 := Try.underlying50
 have HM := Aside0.mk hm
 clear hr hc hm
 obtain ⟨fx, fn, l⟩ := x
 simp only [mdo] at h
 dsimp only at hx
 by_cases c0 : fx < 1
 ·
  rw [if_pos c0] at h
  exact absurd h (by simp)
 rw [if_neg c0, if_pos hx] at h
 obtain ⟨hl, rfl⟩ := push1_some h
 clear h
 obtain ⟨As, cs, rfl⟩ := Kd.R_slice HM.out.rs
 have hk : fx = 1 ∨ fx = 2 ∨ fx = 3 ∨ fx = 4 := by omega
 clear hx c0
 rcases hk with hk | hk | hk | hk
 ·
  go_enter Try.func56, Try.ntmps56
  go_upto_region 1 with (first | ((with_reducible refine gate_dst (N := 3) rfl ?_); refine box_event ?hg (N := 3) ?hd (cs := #[.int .i64 fx, .int .i64 fn, .slice A l.length c]) (t := 34) ?hr ?_; (case hd => rfl); (case hg => rfl); (case hr => first | (go_simp; done) | (go_simp; rfl)); intro gb hg w4 hbox hb; have GB := Aside0.mk hbox; have HM4 := Aside0.mk (HM.out.below hb); clear hbox hb hg))
  have hx0 : w4.cell? ⟨gb, 0, none⟩ = some (.int .i64 fx) := (blk_cell GB.out 0).trans rfl
  have hx1 : w4.cell? ⟨gb, 1, none⟩ = some (.int .i64 fn) := (blk_cell GB.out 1).trans rfl
  have hz0 : w4.cell? ⟨g, 0, none⟩ = some (.int .i64 a) := (blk_cell HM4.out.blk 0).trans rfl
  have hz1 : w4.cell? ⟨g, 1, none⟩ = some (.string b) := (blk_cell HM4.out.blk 1).trans rfl
  have hz2 : w4.cell? ⟨g, 2, none⟩ = some (.int .i64 v) := (blk_cell HM4.out.blk 2).trans rfl
  have hz4 : w4.cell? ⟨g, 4, none⟩ = some (.slice As st.length cs) := (blk_cell HM4.out.blk 4).trans rfl
  go_wp2_with (first | ((with_reducible refine gate_builtin (b := .append) (xs := #[.tmp 203, .tmp 205]) rfl ?_); at_builtin; refine Kd.R_append (Kd.int .i64) (w0 := w0) w0.heap.size rfl (.tmp 203) (.tmp 205) 58 2 (.int .i64 0) 8 rfl Try.underlying58 info2 rfl (by decide) (by omega) (.slice As st.length cs) st fn [.int .i64 fn] (fun _ => True) (fun _ => False) rfl rfl ?aP (fun _ hk => hk.elim) ?aF ?aO ?aB ?aS ?aL ?_; (case aP => exact rfl); (case aB => exact HM4.out.bel); (case aF => exact (fun _ _ => trivial)); (case aO => exact HM4.out.rs); (case aS => exact below_size HM4.out.bel); (case aL => omega); intro v1 w1 ho hb hg hat; obtain ⟨A1, c1, rfl⟩ := Kd.R_slice ho; have hk1 := blk_grown HM4.out.blk hg (Kd.R_ne HM4.out.rs HM4.out.blk (by decide)); have hy4 : w1.cell? ⟨g, 4, none⟩ = some (.slice As st.length cs) := (blk_cell hk1 4).trans rfl; have hf4 := blk_frozen hk1 4; have HN := Aside0.mk (HM4.out.setStack ho hb hg); clear ho hb hg hat hk1))
  go_ret
  exact ⟨rfl, _, _, by simpa [mvalue, hk] using HN.out⟩
 ·
  go_enter Try.func56, Try.ntmps56
  go_upto_region 1 with (first | ((with_reducible refine gate_dst (N := 3) rfl ?_); refine box_event ?hg (N := 3) ?hd (cs := #[.int .i64 fx, .int .i64 fn, .slice A l.length c]) (t := 34) ?hr ?_; (case hd => rfl); (case hg => rfl); (case hr => first | (go_simp; done) | (go_simp; rfl)); intro gb hg w4 hbox hb; have GB := Aside0.mk hbox; have HM4 := Aside0.mk (HM.out.below hb); clear hbox hb hg))
  have hx0 : w4.cell? ⟨gb, 0, none⟩ = some (.int .i64 fx) := (blk_cell GB.out 0).trans rfl
  have hx1 : w4.cell? ⟨gb, 1, none⟩ = some (.int .i64 fn) := (blk_cell GB.out 1).trans rfl
  have hz0 : w4.cell? ⟨g, 0, none⟩ = some (.int .i64 a) := (blk_cell HM4.out.blk 0).trans rfl
  have hz1 : w4.cell? ⟨g, 1, none⟩ = some (.string b) := (blk_cell HM4.out.blk 1).trans rfl
  have hz2 : w4.cell? ⟨g, 2, none⟩ = some (.int .i64 v) := (blk_cell HM4.out.blk 2).trans rfl
  have hz4 : w4.cell? ⟨g, 4, none⟩ = some (.slice As st.length cs) := (blk_cell HM4.out.blk 4).trans rfl
  go_wp2_with (first | ((with_reducible refine gate_builtin (b := .append) (xs := #[.tmp 203, .tmp 205]) rfl ?_); at_builtin; refine Kd.R_append (Kd.int .i64) (w0 := w0) w0.heap.size rfl (.tmp 203) (.tmp 205) 58 2 (.int .i64 0) 8 rfl Try.underlying58 info2 rfl (by decide) (by omega) (.slice As st.length cs) st a [.int .i64 a] (fun _ => True) (fun _ => False) rfl rfl ?aP (fun _ hk => hk.elim) ?aF ?aO ?aB ?aS ?aL ?_; (case aP => exact rfl); (case aB => exact HM4.out.bel); (case aF => exact (fun _ _ => trivial)); (case aO => exact HM4.out.rs); (case aS => exact below_size HM4.out.bel); (case aL => omega); intro v1 w1 ho hb hg hat; obtain ⟨A1, c1, rfl⟩ := Kd.R_slice ho; have hk1 := blk_grown HM4.out.blk hg (Kd.R_ne HM4.out.rs HM4.out.blk (by decide)); have hy4 : w1.cell? ⟨g, 4, none⟩ = some (.slice As st.length cs) := (blk_cell hk1 4).trans rfl; have hf4 := blk_frozen hk1 4; have HN := Aside0.mk (HM4.out.setStack ho hb hg); clear ho hb hg hat hk1))
  go_ret
  exact ⟨rfl, _, _, by simpa [mvalue, hk] using HN.out⟩
 ·
  go_enter Try.func56, Try.ntmps56
  go_upto_region 1 with (first | ((with_reducible refine gate_dst (N := 3) rfl ?_); refine box_event ?hg (N := 3) ?hd (cs := #[.int .i64 fx, .int .i64 fn, .slice A l.length c]) (t := 34) ?hr ?_; (case hd => rfl); (case hg => rfl); (case hr => first | (go_simp; done) | (go_simp; rfl)); intro gb hg w4 hbox hb; have GB := Aside0.mk hbox; have HM4 := Aside0.mk (HM.out.below hb); clear hbox hb hg))
  have hx0 : w4.cell? ⟨gb, 0, none⟩ = some (.int .i64 fx) := (blk_cell GB.out 0).trans rfl
  have hx1 : w4.cell? ⟨gb, 1, none⟩ = some (.int .i64 fn) := (blk_cell GB.out 1).trans rfl
  have hz0 : w4.cell? ⟨g, 0, none⟩ = some (.int .i64 a) := (blk_cell HM4.out.blk 0).trans rfl
  have hz1 : w4.cell? ⟨g, 1, none⟩ = some (.string b) := (blk_cell HM4.out.blk 1).trans rfl
  have hz2 : w4.cell? ⟨g, 2, none⟩ = some (.int .i64 v) := (blk_cell HM4.out.blk 2).trans rfl
  have hz4 : w4.cell? ⟨g, 4, none⟩ = some (.slice As st.length cs) := (blk_cell HM4.out.blk 4).trans rfl
  go_wp2_with (first | ((with_reducible refine gate_builtin (b := .append) (xs := #[.tmp 203, .tmp 205]) rfl ?_); at_builtin; refine Kd.R_append (Kd.int .i64) (w0 := w0) w0.heap.size rfl (.tmp 203) (.tmp 205) 58 2 (.int .i64 0) 8 rfl Try.underlying58 info2 rfl (by decide) (by omega) (.slice As st.length cs) st (b.size : Int) [.int .i64 (b.size : Int)] (fun _ => True) (fun _ => False) rfl rfl ?aP (fun _ hk => hk.elim) ?aF ?aO ?aB ?aS ?aL ?_; (case aP => exact rfl); (case aB => exact HM4.out.bel); (case aF => exact (fun _ _ => trivial)); (case aO => exact HM4.out.rs); (case aS => exact below_size HM4.out.bel); (case aL => omega); intro v1 w1 ho hb hg hat; obtain ⟨A1, c1, rfl⟩ := Kd.R_slice ho; have hk1 := blk_grown HM4.out.blk hg (Kd.R_ne HM4.out.rs HM4.out.blk (by decide)); have hy4 : w1.cell? ⟨g, 4, none⟩ = some (.slice As st.length cs) := (blk_cell hk1 4).trans rfl; have hf4 := blk_frozen hk1 4; have HN := Aside0.mk (HM4.out.setStack ho hb hg); clear ho hb hg hat hk1))
  go_ret
  exact ⟨rfl, _, _, by simpa [mvalue, hk] using HN.out⟩
 ·
  go_enter Try.func56, Try.ntmps56
  go_upto_region 1 with (first | ((with_reducible refine gate_dst (N := 3) rfl ?_); refine box_event ?hg (N := 3) ?hd (cs := #[.int .i64 fx, .int .i64 fn, .slice A l.length c]) (t := 34) ?hr ?_; (case hd => rfl); (case hg => rfl); (case hr => first | (go_simp; done) | (go_simp; rfl)); intro gb hg w4 hbox hb; have GB := Aside0.mk hbox; have HM4 := Aside0.mk (HM.out.below hb); clear hbox hb hg))
  have hx0 : w4.cell? ⟨gb, 0, none⟩ = some (.int .i64 fx) := (blk_cell GB.out 0).trans rfl
  have hx1 : w4.cell? ⟨gb, 1, none⟩ = some (.int .i64 fn) := (blk_cell GB.out 1).trans rfl
  have hz0 : w4.cell? ⟨g, 0, none⟩ = some (.int .i64 a) := (blk_cell HM4.out.blk 0).trans rfl
  have hz1 : w4.cell? ⟨g, 1, none⟩ = some (.string b) := (blk_cell HM4.out.blk 1).trans rfl
  have hz2 : w4.cell? ⟨g, 2, none⟩ = some (.int .i64 v) := (blk_cell HM4.out.blk 2).trans rfl
  have hz4 : w4.cell? ⟨g, 4, none⟩ = some (.slice As st.length cs) := (blk_cell HM4.out.blk 4).trans rfl
  go_wp2_with (first | ((with_reducible refine gate_builtin (b := .append) (xs := #[.tmp 203, .tmp 205]) rfl ?_); at_builtin; refine Kd.R_append (Kd.int .i64) (w0 := w0) w0.heap.size rfl (.tmp 203) (.tmp 205) 58 2 (.int .i64 0) 8 rfl Try.underlying58 info2 rfl (by decide) (by omega) (.slice As st.length cs) st v [.int .i64 v] (fun _ => True) (fun _ => False) rfl rfl ?aP (fun _ hk => hk.elim) ?aF ?aO ?aB ?aS ?aL ?_; (case aP => exact rfl); (case aB => exact HM4.out.bel); (case aF => exact (fun _ _ => trivial)); (case aO => exact HM4.out.rs); (case aS => exact below_size HM4.out.bel); (case aL => omega); intro v1 w1 ho hb hg hat; obtain ⟨A1, c1, rfl⟩ := Kd.R_slice ho; have hk1 := blk_grown HM4.out.blk hg (Kd.R_ne HM4.out.rs HM4.out.blk (by decide)); have hy4 : w1.cell? ⟨g, 4, none⟩ = some (.slice As st.length cs) := (blk_cell hk1 4).trans rfl; have hf4 := blk_frozen hk1 4; have HN := Aside0.mk (HM4.out.setStack ho hb hg); clear ho hb hg hat hk1))
  go_ret
  exact ⟨rfl, _, _, by simpa [mvalue, hk] using HN.out⟩
end Go.Proofs.Ytchgjkfnmifgkaa.QE

namespace Go.Proofs.Ytchgjkfnmifgkaa.QE
open Go.RowKit Go.Proofs.YtchgjkfnmifgkaaW.PrintWords Go.Proofs.YtchgjkfnmifgkaaW.PrintLast Go.Proofs.YtchgjkfnmifgkaaW.PrintMore
attribute [local go_sem] max2_int min2_int max_two min_two max_three min_three max_four min_four
set_option linter.unusedVariables false
set_option linter.unusedSimpArgs false

set_option maxHeartbeats 8000000 in
set_option maxRecDepth 100000 in
theorem rop_not (a : Int) (b : ByteArray) (v : Int) (k : Nat) (x : S34) (hx : x.f0 = 18) : ROpSpec a b v k x := by
 intro w0 wB w g st fu out vs vo A c r hm hr hc h
 have hu34 := Try.underlying34
 have hu48 := Try.underlying48
 have hu50 := Try.underlying50
 have HM := Aside0.mk hm
 have HR := Aside0.mk hr
 have HC := Aside0.mk hc
 clear hr hc hm
 obtain ⟨fx, fn, l⟩ := x
 simp only [mdo] at h
 dsimp only at *
 have hk : fx = 18 := hx
 rw [if_neg (by omega : ¬ fx < 1), if_neg (by omega : ¬ fx ≤ 4), if_neg (by omega : ¬ fx ≤ 17), if_pos (by omega : fx ≤ 24)] at h
 obtain ⟨⟨p, st1⟩, hp, h⟩ := Option.bind_eq_some_iff.mp h
 try dsimp only at h
 obtain ⟨t, ht, h⟩ := Option.bind_eq_some_iff.mp h
 try dsimp only at ht h
 obtain ⟨hl, rfl⟩ := push1_some h
 clear h
 go_enter Try.func56, Try.ntmps56
 go_upto_region 1 with (first | ((with_reducible refine gate_dst (N := 3) rfl ?_); refine box_event ?hg (N := 3) ?hd (cs := #[.int .i64 fx, .int .i64 fn, .slice A l.length c]) (t := 34) ?hr ?_; (case hd => rfl); (case hg => rfl); (case hr => first | (go_simp; done) | (go_simp; rfl)); intro gb hg w4 hbox hb; have GB := Aside0.mk hbox; have HM4 := Aside0.mk (HM.out.below hb); have HNE := Aside0.mk (blk_ne HM4.out.blk hbox (by decide)); clear hbox hb hg))
 have hx0 : w4.cell? ⟨gb, 0, none⟩ = some (.int .i64 fx) := (blk_cell GB.out 0).trans rfl
 have hx1 : w4.cell? ⟨gb, 1, none⟩ = some (.int .i64 fn) := (blk_cell GB.out 1).trans rfl
 have hx2 : w4.cell? ⟨gb, 2, none⟩ = some (.slice A l.length c) := (blk_cell GB.out 2).trans rfl
 have htr : thresherref6_truth.f (p == 0) = some t := by
  unfold rone at ht
  rw [if_pos hk] at ht
  obtain rfl := Option.some.inj ht
  by_cases c1 : p = 0
  ·
   subst c1; rfl
  ·
   rw [if_neg c1, beq_eq_false_iff_ne.mpr c1]; rfl
 go_wp2_with (first | ((with_reducible refine gate_callee (f := 67) rfl ?_); refine goesL_ (some 101) rfl rfl Try.func67 (by kernel_rfl) rfl #[.pointer (some ⟨g, 0, none⟩)] rfl (by (try simp only [List.map_toArray, List.map_cons, List.map_nil]); first | done | rfl) ?_; (with_reducible refine (rmachine_pop.calls w0 wB _ g a b v _ _ out _ _ p _ HM4.out hp).mono ?_); rintro e w5 ⟨rfl, ⟨vs5, hm5⟩, hk5⟩; refine ⟨_, rfl, ?_⟩; have HM5 := Aside0.mk hm5; have hx5_0 := keep_cell hk5 hx0 (Ne.symm HNE.out); have hx5_2 := keep_cell hk5 hx2 (Ne.symm HNE.out); clear hm5 hk5) | (go_at_call 69; (with_reducible refine (thresherref6_truth.calls (p == 0) t _ htr).mono ?_); rintro e w' ⟨rfl, ⟨nd, rfl⟩⟩; have HM6 := Aside0.mk (HM5.out.drewN nd); obtain ⟨AsHM6, csHM6, rfl⟩ := Kd.R_slice HM6.out.rs; have hz4HM6 := (blk_cell HM6.out.blk 4).trans rfl) | ((with_reducible refine gate_builtin (b := .append) (xs := #[.tmp 203, .tmp 205]) rfl ?_); at_builtin; refine Kd.R_append (Kd.int .i64) (w0 := w0) w0.heap.size rfl (.tmp 203) (.tmp 205) 58 2 (.int .i64 0) 8 rfl Try.underlying58 info2 rfl (by decide) (by omega) _ st1 t [.int .i64 t] (fun _ => True) (fun _ => False) rfl rfl ?aP (fun _ hk => hk.elim) ?aF ?aO ?aB ?aS ?aL ?_; (case aP => exact rfl); (case aB => exact HM6.out.bel); (case aF => exact (fun _ _ => trivial)); (case aO => exact HM6.out.rs); (case aS => exact below_size HM6.out.bel); (case aL => first | omega | (simp only [List.length_append, List.length_singleton]; omega)); intro v7 w7 ho hb hg hat; obtain ⟨A7, c7, rfl⟩ := Kd.R_slice ho; have hk7 := blk_grown HM6.out.blk hg (Kd.R_ne HM6.out.rs HM6.out.blk (by decide)); have hy7_4 := (blk_cell hk7 4).trans rfl; have hf7_4 := blk_frozen hk7 4; have HN7 := Aside0.mk (HM6.out.setStack ho hb hg); clear ho hb hg hat hk7))
 go_ret
 exact ⟨rfl, _, _, by simpa using HN7.out⟩

set_option maxHeartbeats 8000000 in
set_option maxRecDepth 100000 in
theorem rop_dup (a : Int) (b : ByteArray) (v : Int) (k : Nat) (x : S34) (hx : x.f0 = 25) : ROpSpec a b v k x := by
 intro w0 wB w g st fu out vs vo A c r hm hr hc h
 have hu34 := Try.underlying34
 have hu48 := Try.underlying48
 have hu50 := Try.underlying50
 have HM := Aside0.mk hm
 have HR := Aside0.mk hr
 have HC := Aside0.mk hc
 clear hr hc hm
 obtain ⟨fx, fn, l⟩ := x
 simp only [mdo] at h
 dsimp only at *
 have hk : fx = 25 := hx
 rw [if_neg (by omega : ¬ fx < 1), if_neg (by omega : ¬ fx ≤ 4), if_neg (by omega : ¬ fx ≤ 17), if_neg (by omega : ¬ fx ≤ 24), if_pos (by omega : fx = 25)] at h
 obtain ⟨⟨p, st1⟩, hp, h⟩ := Option.bind_eq_some_iff.mp h
 try dsimp only at h
 obtain ⟨hl, rfl⟩ := push1_some h
 clear h
 go_enter Try.func56, Try.ntmps56
 go_upto_region 1 with (first | ((with_reducible refine gate_dst (N := 3) rfl ?_); refine box_event ?hg (N := 3) ?hd (cs := #[.int .i64 fx, .int .i64 fn, .slice A l.length c]) (t := 34) ?hr ?_; (case hd => rfl); (case hg => rfl); (case hr => first | (go_simp; done) | (go_simp; rfl)); intro gb hg w4 hbox hb; have GB := Aside0.mk hbox; have HM4 := Aside0.mk (HM.out.below hb); have HNE := Aside0.mk (blk_ne HM4.out.blk hbox (by decide)); clear hbox hb hg))
 have hx0 : w4.cell? ⟨gb, 0, none⟩ = some (.int .i64 fx) := (blk_cell GB.out 0).trans rfl
 have hx1 : w4.cell? ⟨gb, 1, none⟩ = some (.int .i64 fn) := (blk_cell GB.out 1).trans rfl
 have hx2 : w4.cell? ⟨gb, 2, none⟩ = some (.slice A l.length c) := (blk_cell GB.out 2).trans rfl
 have hst := pop1_form hp
 have hln : st.length = st1.length + 1 := by rw [hst]; simp
 go_upto_region 47 with (first | ((with_reducible refine gate_callee (f := 67) rfl ?_); refine goesL_ (some 129) rfl rfl Try.func67 (by kernel_rfl) rfl #[.pointer (some ⟨g, 0, none⟩)] rfl (by (try simp only [List.map_toArray, List.map_cons, List.map_nil]); first | done | rfl) ?_; (with_reducible refine (rmachine_pop.calls w0 wB _ g a b v _ _ out _ _ p _ HM4.out hp).mono ?_); rintro e w5 ⟨rfl, ⟨vs5, hm5⟩, hk5⟩; refine ⟨_, rfl, ?_⟩; have HM5 := Aside0.mk hm5; have hx5_0 := keep_cell hk5 hx0 (Ne.symm HNE.out); have hx5_2 := keep_cell hk5 hx2 (Ne.symm HNE.out); clear hm5 hk5; obtain ⟨AsHM5, csHM5, rfl⟩ := Kd.R_slice HM5.out.rs; have hz4HM5 := (blk_cell HM5.out.blk 4).trans rfl) | ((with_reducible refine gate_builtin (b := .append) (xs := #[.tmp 134, .tmp 136]) rfl ?_); at_builtin; refine Kd.R_append (Kd.int .i64) (w0 := w0) w0.heap.size rfl (.tmp 134) (.tmp 136) 58 2 (.int .i64 0) 8 rfl Try.underlying58 info2 rfl (by decide) (by omega) _ st1 p [.int .i64 p] (fun _ => True) (fun _ => False) rfl rfl ?aP (fun _ hk => hk.elim) ?aF ?aO ?aB ?aS ?aL ?_; (case aP => exact rfl); (case aB => exact HM5.out.bel); (case aF => exact (fun _ _ => trivial)); (case aO => exact HM5.out.rs); (case aS => exact below_size HM5.out.bel); (case aL => first | omega | (simp only [List.length_append, List.length_singleton]; omega)); intro v6 w6 ho hb hg hat; obtain ⟨A6, c6, rfl⟩ := Kd.R_slice ho; have hk6 := blk_grown HM5.out.blk hg (Kd.R_ne HM5.out.rs HM5.out.blk (by decide)); have hy6_4 := (blk_cell hk6 4).trans rfl; have hf6_4 := blk_frozen hk6 4; have HN6 := Aside0.mk (HM5.out.setStack ho hb hg); clear ho hb hg hat hk6; have HM7 := Aside0.mk (show RMach w0 wB (w6.setCell ⟨g, 4, none⟩ (.slice A6 (st1.length + 1) c6)) g a b v (st1 ++ [p]) fu out (.slice A6 (st1.length + 1) c6) vo from by simpa using HN6.out)))
 generalize hw7 : w6.setCell ⟨g, 4, none⟩ (.slice A6 (st1.length + 1) c6) = w7 at HM7 ⊢
 have hz7 := (blk_cell HM7.out.blk 4).trans rfl
 clear HN6 hw7
 go_wp2_with (first | ((with_reducible refine gate_builtin (b := .append) (xs := #[.tmp 203, .tmp 205]) rfl ?_); at_builtin; refine Kd.R_append (Kd.int .i64) (w0 := w0) w0.heap.size rfl (.tmp 203) (.tmp 205) 58 2 (.int .i64 0) 8 rfl Try.underlying58 info2 rfl (by decide) (by omega) _ (st1 ++ [p]) p [.int .i64 p] (fun _ => True) (fun _ => False) rfl rfl ?aP (fun _ hk => hk.elim) ?aF ?aO ?aB ?aS ?aL ?_; (case aP => exact rfl); (case aB => exact HM7.out.bel); (case aF => exact (fun _ _ => trivial)); (case aO => exact HM7.out.rs); (case aS => exact below_size HM7.out.bel); (case aL => first | omega | (simp only [List.length_append, List.length_singleton]; omega)); intro v8 w8 ho hb hg hat; obtain ⟨A8, c8, rfl⟩ := Kd.R_slice ho; have hk8 := blk_grown HM7.out.blk hg (Kd.R_ne HM7.out.rs HM7.out.blk (by decide)); have hy8_4 := (blk_cell hk8 4).trans rfl; have hf8_4 := blk_frozen hk8 4; have HN8 := Aside0.mk (HM7.out.setStack ho hb hg); clear ho hb hg hat hk8))
 go_ret
 exact ⟨rfl, _, _, by rw [hst]; simpa using HN8.out⟩

set_option maxHeartbeats 8000000 in
set_option maxRecDepth 100000 in
theorem rop_swap (a : Int) (b : ByteArray) (v : Int) (k : Nat) (x : S34) (hx : x.f0 = 26) : ROpSpec a b v k x := by
 intro w0 wB w g st fu out vs vo A c r hm hr hc h
 have hu34 := Try.underlying34
 have hu48 := Try.underlying48
 have hu50 := Try.underlying50
 have HM := Aside0.mk hm
 have HR := Aside0.mk hr
 have HC := Aside0.mk hc
 clear hr hc hm
 obtain ⟨fx, fn, l⟩ := x
 simp only [mdo] at h
 dsimp only at *
 have hk : fx = 26 := hx
 rw [if_neg (by omega : ¬ fx < 1), if_neg (by omega : ¬ fx ≤ 4), if_neg (by omega : ¬ fx ≤ 17), if_neg (by omega : ¬ fx ≤ 24), if_neg (by omega : ¬ fx = 25), if_pos (by omega : fx = 26)] at h
 obtain ⟨⟨p, st1⟩, hp, h⟩ := Option.bind_eq_some_iff.mp h
 try dsimp only at h
 obtain ⟨⟨p2, st2⟩, hp2, h⟩ := Option.bind_eq_some_iff.mp h
 try dsimp only at hp2 h
 obtain rfl := Option.some.inj h
 clear h
 go_enter Try.func56, Try.ntmps56
 go_upto_region 1 with (first | ((with_reducible refine gate_dst (N := 3) rfl ?_); refine box_event ?hg (N := 3) ?hd (cs := #[.int .i64 fx, .int .i64 fn, .slice A l.length c]) (t := 34) ?hr ?_; (case hd => rfl); (case hg => rfl); (case hr => first | (go_simp; done) | (go_simp; rfl)); intro gb hg w4 hbox hb; have GB := Aside0.mk hbox; have HM4 := Aside0.mk (HM.out.below hb); have HNE := Aside0.mk (blk_ne HM4.out.blk hbox (by decide)); clear hbox hb hg))
 have hx0 : w4.cell? ⟨gb, 0, none⟩ = some (.int .i64 fx) := (blk_cell GB.out 0).trans rfl
 have hx1 : w4.cell? ⟨gb, 1, none⟩ = some (.int .i64 fn) := (blk_cell GB.out 1).trans rfl
 have hx2 : w4.cell? ⟨gb, 2, none⟩ = some (.slice A l.length c) := (blk_cell GB.out 2).trans rfl
 have hst := pop1_form hp
 have hst2 := pop1_form hp2
 have hln : st.length = st1.length + 1 := by rw [hst]; simp
 have hln2 : st1.length = st2.length + 1 := by rw [hst2]; simp
 have hb2 := (pop1_some hp).1.2
 go_upto_region 47 with (first | ((with_reducible refine gate_callee (f := 67) rfl ?_); refine goesL_ (some 145) rfl rfl Try.func67 (by kernel_rfl) rfl #[.pointer (some ⟨g, 0, none⟩)] rfl (by (try simp only [List.map_toArray, List.map_cons, List.map_nil]); first | done | rfl) ?_; (with_reducible refine (rmachine_pop.calls w0 wB _ g a b v _ _ out _ _ p _ HM4.out hp).mono ?_); rintro e w5 ⟨rfl, ⟨vs5, hm5⟩, hk5⟩; refine ⟨_, rfl, ?_⟩; have HM5 := Aside0.mk hm5; have hx5_0 := keep_cell hk5 hx0 (Ne.symm HNE.out); have hx5_2 := keep_cell hk5 hx2 (Ne.symm HNE.out); clear hm5 hk5) | ((with_reducible refine gate_callee (f := 67) rfl ?_); refine goesL_ (some 147) rfl rfl Try.func67 (by kernel_rfl) rfl #[.pointer (some ⟨g, 0, none⟩)] rfl (by (try simp only [List.map_toArray, List.map_cons, List.map_nil]); first | done | rfl) ?_; (with_reducible refine (rmachine_pop.calls w0 wB _ g a b v _ _ out _ _ p2 _ HM5.out hp2).mono ?_); rintro e w6 ⟨rfl, ⟨vs6, hm6⟩, hk6⟩; refine ⟨_, rfl, ?_⟩; have HM6 := Aside0.mk hm6; have hx6_0 := keep_cell hk6 hx5_0 (Ne.symm HNE.out); have hx6_2 := keep_cell hk6 hx5_2 (Ne.symm HNE.out); clear hm6 hk6; obtain ⟨AsHM6, csHM6, rfl⟩ := Kd.R_slice HM6.out.rs; have hz4HM6 := (blk_cell HM6.out.blk 4).trans rfl) | ((with_reducible refine gate_builtin (b := .append) (xs := #[.tmp 152, .tmp 154]) rfl ?_); at_builtin; refine Kd.R_append (Kd.int .i64) (w0 := w0) w0.heap.size rfl (.tmp 152) (.tmp 154) 58 2 (.int .i64 0) 8 rfl Try.underlying58 info2 rfl (by decide) (by omega) _ st2 p [.int .i64 p] (fun _ => True) (fun _ => False) rfl rfl ?aP (fun _ hk => hk.elim) ?aF ?aO ?aB ?aS ?aL ?_; (case aP => exact rfl); (case aB => exact HM6.out.bel); (case aF => exact (fun _ _ => trivial)); (case aO => exact HM6.out.rs); (case aS => exact below_size HM6.out.bel); (case aL => first | omega | (simp only [List.length_append, List.length_singleton]; omega)); intro v7 w7 ho hb hg hat; obtain ⟨A7, c7, rfl⟩ := Kd.R_slice ho; have hk7 := blk_grown HM6.out.blk hg (Kd.R_ne HM6.out.rs HM6.out.blk (by decide)); have hy7_4 := (blk_cell hk7 4).trans rfl; have hf7_4 := blk_frozen hk7 4; have HN7 := Aside0.mk (HM6.out.setStack ho hb hg); clear ho hb hg hat hk7; have HM8 := Aside0.mk (show RMach w0 wB (w7.setCell ⟨g, 4, none⟩ (.slice A7 (st2.length + 1) c7)) g a b v (st2 ++ [p]) fu out (.slice A7 (st2.length + 1) c7) vo from by simpa using HN7.out)))
 generalize hw8 : w7.setCell ⟨g, 4, none⟩ (.slice A7 (st2.length + 1) c7) = w8 at HM8 ⊢
 have hz8 := (blk_cell HM8.out.blk 4).trans rfl
 clear HN7 hw8
 go_wp2_with (first | ((with_reducible refine gate_builtin (b := .append) (xs := #[.tmp 203, .tmp 205]) rfl ?_); at_builtin; refine Kd.R_append (Kd.int .i64) (w0 := w0) w0.heap.size rfl (.tmp 203) (.tmp 205) 58 2 (.int .i64 0) 8 rfl Try.underlying58 info2 rfl (by decide) (by omega) _ (st2 ++ [p]) p2 [.int .i64 p2] (fun _ => True) (fun _ => False) rfl rfl ?aP (fun _ hk => hk.elim) ?aF ?aO ?aB ?aS ?aL ?_; (case aP => exact rfl); (case aB => exact HM8.out.bel); (case aF => exact (fun _ _ => trivial)); (case aO => exact HM8.out.rs); (case aS => exact below_size HM8.out.bel); (case aL => first | omega | (simp only [List.length_append, List.length_singleton]; omega)); intro v9 w9 ho hb hg hat; obtain ⟨A9, c9, rfl⟩ := Kd.R_slice ho; have hk9 := blk_grown HM8.out.blk hg (Kd.R_ne HM8.out.rs HM8.out.blk (by decide)); have hy9_4 := (blk_cell hk9 4).trans rfl; have hf9_4 := blk_frozen hk9 4; have HN9 := Aside0.mk (HM8.out.setStack ho hb hg); clear ho hb hg hat hk9))
 go_ret
 exact ⟨rfl, _, _, by simpa using HN9.out⟩

set_option maxHeartbeats 8000000 in
set_option maxRecDepth 100000 in
theorem rop_pop (a : Int) (b : ByteArray) (v : Int) (k : Nat) (x : S34) (hx : x.f0 = 27) : ROpSpec a b v k x := by
 intro w0 wB w g st fu out vs vo A c r hm hr hc h
 have hu34 := Try.underlying34
 have hu48 := Try.underlying48
 have hu50 := Try.underlying50
 have HM := Aside0.mk hm
 have HR := Aside0.mk hr
 have HC := Aside0.mk hc
 clear hr hc hm
 obtain ⟨fx, fn, l⟩ := x
 simp only [mdo] at h
 dsimp only at *
 have hk : fx = 27 := hx
 rw [if_neg (by omega : ¬ fx < 1), if_neg (by omega : ¬ fx ≤ 4), if_neg (by omega : ¬ fx ≤ 17), if_neg (by omega : ¬ fx ≤ 24), if_neg (by omega : ¬ fx = 25), if_neg (by omega : ¬ fx = 26), if_pos (by omega : fx = 27)] at h
 obtain ⟨⟨p, st1⟩, hp, h⟩ := Option.bind_eq_some_iff.mp h
 try dsimp only at h
 obtain rfl := Option.some.inj h
 clear h
 go_enter Try.func56, Try.ntmps56
 go_upto_region 1 with (first | ((with_reducible refine gate_dst (N := 3) rfl ?_); refine box_event ?hg (N := 3) ?hd (cs := #[.int .i64 fx, .int .i64 fn, .slice A l.length c]) (t := 34) ?hr ?_; (case hd => rfl); (case hg => rfl); (case hr => first | (go_simp; done) | (go_simp; rfl)); intro gb hg w4 hbox hb; have GB := Aside0.mk hbox; have HM4 := Aside0.mk (HM.out.below hb); have HNE := Aside0.mk (blk_ne HM4.out.blk hbox (by decide)); clear hbox hb hg))
 have hx0 : w4.cell? ⟨gb, 0, none⟩ = some (.int .i64 fx) := (blk_cell GB.out 0).trans rfl
 have hx1 : w4.cell? ⟨gb, 1, none⟩ = some (.int .i64 fn) := (blk_cell GB.out 1).trans rfl
 have hx2 : w4.cell? ⟨gb, 2, none⟩ = some (.slice A l.length c) := (blk_cell GB.out 2).trans rfl
 go_wp2_with (first | ((with_reducible refine gate_callee (f := 67) rfl ?_); refine goesL_ (some 163) rfl rfl Try.func67 (by kernel_rfl) rfl #[.pointer (some ⟨g, 0, none⟩)] rfl (by (try simp only [List.map_toArray, List.map_cons, List.map_nil]); first | done | rfl) ?_; (with_reducible refine (rmachine_pop.calls w0 wB _ g a b v _ _ out _ _ p _ HM4.out hp).mono ?_); rintro e w5 ⟨rfl, ⟨vs5, hm5⟩, hk5⟩; refine ⟨_, rfl, ?_⟩; have HM5 := Aside0.mk hm5; have hx5_0 := keep_cell hk5 hx0 (Ne.symm HNE.out); have hx5_2 := keep_cell hk5 hx2 (Ne.symm HNE.out); clear hm5 hk5))
 go_ret
 exact ⟨rfl, _, _, HM5.out⟩

set_option maxHeartbeats 8000000 in
set_option maxRecDepth 100000 in
theorem rop_two (a : Int) (b : ByteArray) (v : Int) (k : Nat) (x : S34) (hx : 5 ≤ x.f0) (hx2 : x.f0 ≤ 17) : ROpSpec a b v k x := by
 intro w0 wB w g st fu out vs vo A c r hm hr hc h
 have hu34 := Try.underlying34
 have hu48 := Try.underlying48
 have hu50 := Try.underlying50
 have HM := Aside0.mk hm
 have HR := Aside0.mk hr
 have HC := Aside0.mk hc
 clear hr hc hm
 obtain ⟨fx, fn, l⟩ := x
 simp only [mdo] at h
 dsimp only at *
 rw [if_neg (by omega : ¬ fx < 1), if_neg (by omega : ¬ fx ≤ 4), if_pos (by omega : fx ≤ 17)] at h
 obtain ⟨⟨p, st1⟩, hp, h⟩ := Option.bind_eq_some_iff.mp h
 try dsimp only at h
 obtain ⟨⟨p2, st2⟩, hp2, h⟩ := Option.bind_eq_some_iff.mp h
 try dsimp only at hp2 h
 obtain ⟨t, ht, h⟩ := Option.bind_eq_some_iff.mp h
 try dsimp only at ht h
 obtain ⟨hl, rfl⟩ := push1_some h
 clear h
 go_enter Try.func56, Try.ntmps56
 go_upto_region 1 with (first | ((with_reducible refine gate_dst (N := 3) rfl ?_); refine box_event ?hg (N := 3) ?hd (cs := #[.int .i64 fx, .int .i64 fn, .slice A l.length c]) (t := 34) ?hr ?_; (case hd => rfl); (case hg => rfl); (case hr => first | (go_simp; done) | (go_simp; rfl)); intro gb hg w4 hbox hb; have GB := Aside0.mk hbox; have HM4 := Aside0.mk (HM.out.below hb); have HNE := Aside0.mk (blk_ne HM4.out.blk hbox (by decide)); clear hbox hb hg))
 have hx0 : w4.cell? ⟨gb, 0, none⟩ = some (.int .i64 fx) := (blk_cell GB.out 0).trans rfl
 have hx1 : w4.cell? ⟨gb, 1, none⟩ = some (.int .i64 fn) := (blk_cell GB.out 1).trans rfl
 have hx2 : w4.cell? ⟨gb, 2, none⟩ = some (.slice A l.length c) := (blk_cell GB.out 2).trans rfl
 have q1 : (fx == 1) = false := beq_eq_false_iff_ne.mpr (by omega)
 have q2 : (fx == 2) = false := beq_eq_false_iff_ne.mpr (by omega)
 have q3 : (fx == 3) = false := beq_eq_false_iff_ne.mpr (by omega)
 have q4 : (fx == 4) = false := beq_eq_false_iff_ne.mpr (by omega)
 have d5 : decide (5 ≤ fx) = true := decide_eq_true (by omega)
 have d17 : decide (fx ≤ 17) = true := decide_eq_true (by omega)
 have ht' : thresherref6_binary.f fx p2 p = some t := ht
 go_wp2_with (first | ((with_reducible refine gate_callee (f := 67) rfl ?_); refine goesL_ (some 89) rfl rfl Try.func67 (by kernel_rfl) rfl #[.pointer (some ⟨g, 0, none⟩)] rfl (by (try simp only [List.map_toArray, List.map_cons, List.map_nil]); first | done | rfl) ?_; (with_reducible refine (rmachine_pop.calls w0 wB _ g a b v _ _ out _ _ p _ HM4.out hp).mono ?_); rintro e w5 ⟨rfl, ⟨vs5, hm5⟩, hk5⟩; refine ⟨_, rfl, ?_⟩; have HM5 := Aside0.mk hm5; have hx5_0 := keep_cell hk5 hx0 (Ne.symm HNE.out); have hx5_2 := keep_cell hk5 hx2 (Ne.symm HNE.out); clear hm5 hk5))
 go_region_with (first | (go_at_call 67; refine (rmachine_pop.calls w0 wB _ g a b v _ _ out _ _ p2 _ (by first | exact HM5.out | exact HM5.out.drew) hp2).mono ?_; rintro e w6 ⟨rfl, ⟨vs6, hm6⟩, hk6⟩; have HM6 := Aside0.mk hm6; have hx6_0 := keep_cell hk6 hx5_0 (Ne.symm HNE.out); have hx6_2 := keep_cell hk6 hx5_2 (Ne.symm HNE.out); clear hm6 hk6) | (go_at_call 68; refine (thresherref6_binary.calls fx p2 p t _ ht').mono ?_; rintro e w' ⟨rfl, ⟨nd, rfl⟩⟩; have HM7 := Aside0.mk (HM6.out.drewN nd); obtain ⟨AsHM7, csHM7, rfl⟩ := Kd.R_slice HM7.out.rs; have hz4HM7 := (blk_cell HM7.out.blk 4).trans rfl))
 all_goals
  go_wp2_with (first | ((with_reducible refine gate_builtin (b := .append) (xs := #[.tmp 203, .tmp 205]) rfl ?_); at_builtin; refine Kd.R_append (Kd.int .i64) (w0 := w0) w0.heap.size rfl (.tmp 203) (.tmp 205) 58 2 (.int .i64 0) 8 rfl Try.underlying58 info2 rfl (by decide) (by omega) _ st2 t [.int .i64 t] (fun _ => True) (fun _ => False) rfl rfl ?aP (fun _ hk => hk.elim) ?aF ?aO ?aB ?aS ?aL ?_; (case aP => exact rfl); (case aB => exact HM7.out.bel); (case aF => exact (fun _ _ => trivial)); (case aO => exact HM7.out.rs); (case aS => exact below_size HM7.out.bel); (case aL => first | omega | (simp only [List.length_append, List.length_singleton]; omega)); intro v8 w8 ho hb hg hat; obtain ⟨A8, c8, rfl⟩ := Kd.R_slice ho; have hk8 := blk_grown HM7.out.blk hg (Kd.R_ne HM7.out.rs HM7.out.blk (by decide)); have hy8_4 := (blk_cell hk8 4).trans rfl; have hf8_4 := blk_frozen hk8 4; have HN8 := Aside0.mk (HM7.out.setStack ho hb hg); clear ho hb hg hat hk8))
  go_ret
  exact ⟨rfl, _, _, by simpa using HN8.out⟩

end Go.Proofs.Ytchgjkfnmifgkaa.QE

namespace Go.Proofs.Ytchgjkfnmifgkaa.QE
open Go.RowKit Go.Proofs.YtchgjkfnmifgkaaW.PrintWords Go.Proofs.YtchgjkfnmifgkaaW.PrintLast Go.Proofs.YtchgjkfnmifgkaaW.PrintMore
attribute [local go_sem] max2_int min2_int max_two min_two max_three min_three max_four min_four
set_option linter.unusedVariables false
set_option linter.unusedSimpArgs false

set_option maxHeartbeats 8000000 in
set_option maxRecDepth 100000 in
theorem rop_cut19 (a : Int) (b : ByteArray) (v : Int) (k : Nat) (x : S34) (hx : x.f0 = 19) : ROpSpec a b v k x := by
 intro w0 wB w g st fu out vs vo A c r hm hr hc h
 have hu34 := Try.underlying34
 have hu48 := Try.underlying48
 have hu50 := Try.underlying50
 have HM := Aside0.mk hm
 have HR := Aside0.mk hr
 have HC := Aside0.mk hc
 clear hr hc hm
 obtain ⟨fx, fn, l⟩ := x
 simp only [mdo] at h
 dsimp only at *
 have hk : fx = 19 := hx
 rw [if_neg (by omega : ¬ fx < 1), if_neg (by omega : ¬ fx ≤ 4), if_neg (by omega : ¬ fx ≤ 17), if_pos (by omega : fx ≤ 24)] at h
 obtain ⟨⟨p, st1⟩, hp, h⟩ := Option.bind_eq_some_iff.mp h
 try dsimp only at h
 obtain ⟨t, ht, h⟩ := Option.bind_eq_some_iff.mp h
 try dsimp only at ht h
 obtain ⟨hl, rfl⟩ := push1_some h
 clear h
 go_enter Try.func56, Try.ntmps56
 go_upto_region 1 with (first | ((with_reducible refine gate_dst (N := 3) rfl ?_); refine box_event ?hg (N := 3) ?hd (cs := #[.int .i64 fx, .int .i64 fn, .slice A l.length c]) (t := 34) ?hr ?_; (case hd => rfl); (case hg => rfl); (case hr => first | (go_simp; done) | (go_simp; rfl)); intro gb hg w4 hbox hb; have GB := Aside0.mk hbox; have HM4 := Aside0.mk (HM.out.below hb); have HNE := Aside0.mk (blk_ne HM4.out.blk hbox (by decide)); clear hbox hb hg))
 have hx0 : w4.cell? ⟨gb, 0, none⟩ = some (.int .i64 fx) := (blk_cell GB.out 0).trans rfl
 have hx1 : w4.cell? ⟨gb, 1, none⟩ = some (.int .i64 fn) := (blk_cell GB.out 1).trans rfl
 have hx2 : w4.cell? ⟨gb, 2, none⟩ = some (.slice A l.length c) := (blk_cell GB.out 2).trans rfl
 have ht' : thresherref1_Cut.f p 8 false = some t := by
  unfold rone rwidth at ht
  rw [hk] at ht
  simpa using ht
 go_wp2
 go_region_with (first | (go_at_call 67; refine (rmachine_pop.calls w0 wB _ g a b v _ _ out _ _ p _ (by first | exact HM4.out | exact HM4.out.drew) hp).mono ?_; rintro e w5 ⟨rfl, ⟨vs5, hm5⟩, hk5⟩; have HM5 := Aside0.mk hm5; have hx5_0 := keep_cell hk5 hx0 (Ne.symm HNE.out); have hx5_2 := keep_cell hk5 hx2 (Ne.symm HNE.out); clear hm5 hk5) | (go_at_call 70; refine (thresherref1_Cut.calls p 8 false t _ ht').mono ?_; rintro e w' ⟨rfl, ⟨nd, rfl⟩⟩; have HM6 := Aside0.mk (HM5.out.drewN nd); obtain ⟨AsHM6, csHM6, rfl⟩ := Kd.R_slice HM6.out.rs; have hz4HM6 := (blk_cell HM6.out.blk 4).trans rfl))
 all_goals
  go_wp2_with (first | ((with_reducible refine gate_builtin (b := .append) (xs := #[.tmp 203, .tmp 205]) rfl ?_); at_builtin; refine Kd.R_append (Kd.int .i64) (w0 := w0) w0.heap.size rfl (.tmp 203) (.tmp 205) 58 2 (.int .i64 0) 8 rfl Try.underlying58 info2 rfl (by decide) (by omega) _ st1 t [.int .i64 t] (fun _ => True) (fun _ => False) rfl rfl ?aP (fun _ hk => hk.elim) ?aF ?aO ?aB ?aS ?aL ?_; (case aP => exact rfl); (case aB => exact HM6.out.bel); (case aF => exact (fun _ _ => trivial)); (case aO => exact HM6.out.rs); (case aS => exact below_size HM6.out.bel); (case aL => first | omega | (simp only [List.length_append, List.length_singleton]; omega)); intro v7 w7 ho hb hg hat; obtain ⟨A7, c7, rfl⟩ := Kd.R_slice ho; have hk7 := blk_grown HM6.out.blk hg (Kd.R_ne HM6.out.rs HM6.out.blk (by decide)); have hy7_4 := (blk_cell hk7 4).trans rfl; have hf7_4 := blk_frozen hk7 4; have HN7 := Aside0.mk (HM6.out.setStack ho hb hg); clear ho hb hg hat hk7))
  go_ret
  exact ⟨rfl, _, _, by simpa using HN7.out⟩

set_option maxHeartbeats 8000000 in
set_option maxRecDepth 100000 in
theorem rop_cut20 (a : Int) (b : ByteArray) (v : Int) (k : Nat) (x : S34) (hx : x.f0 = 20) : ROpSpec a b v k x := by
 intro w0 wB w g st fu out vs vo A c r hm hr hc h
 have hu34 := Try.underlying34
 have hu48 := Try.underlying48
 have hu50 := Try.underlying50
 have HM := Aside0.mk hm
 have HR := Aside0.mk hr
 have HC := Aside0.mk hc
 clear hr hc hm
 obtain ⟨fx, fn, l⟩ := x
 simp only [mdo] at h
 dsimp only at *
 have hk : fx = 20 := hx
 rw [if_neg (by omega : ¬ fx < 1), if_neg (by omega : ¬ fx ≤ 4), if_neg (by omega : ¬ fx ≤ 17), if_pos (by omega : fx ≤ 24)] at h
 obtain ⟨⟨p, st1⟩, hp, h⟩ := Option.bind_eq_some_iff.mp h
 try dsimp only at h
 obtain ⟨t, ht, h⟩ := Option.bind_eq_some_iff.mp h
 try dsimp only at ht h
 obtain ⟨hl, rfl⟩ := push1_some h
 clear h
 go_enter Try.func56, Try.ntmps56
 go_upto_region 1 with (first | ((with_reducible refine gate_dst (N := 3) rfl ?_); refine box_event ?hg (N := 3) ?hd (cs := #[.int .i64 fx, .int .i64 fn, .slice A l.length c]) (t := 34) ?hr ?_; (case hd => rfl); (case hg => rfl); (case hr => first | (go_simp; done) | (go_simp; rfl)); intro gb hg w4 hbox hb; have GB := Aside0.mk hbox; have HM4 := Aside0.mk (HM.out.below hb); have HNE := Aside0.mk (blk_ne HM4.out.blk hbox (by decide)); clear hbox hb hg))
 have hx0 : w4.cell? ⟨gb, 0, none⟩ = some (.int .i64 fx) := (blk_cell GB.out 0).trans rfl
 have hx1 : w4.cell? ⟨gb, 1, none⟩ = some (.int .i64 fn) := (blk_cell GB.out 1).trans rfl
 have hx2 : w4.cell? ⟨gb, 2, none⟩ = some (.slice A l.length c) := (blk_cell GB.out 2).trans rfl
 have ht' : thresherref1_Cut.f p 16 false = some t := by
  unfold rone rwidth at ht
  rw [hk] at ht
  simpa using ht
 go_wp2
 go_region_with (first | (go_at_call 67; refine (rmachine_pop.calls w0 wB _ g a b v _ _ out _ _ p _ (by first | exact HM4.out | exact HM4.out.drew) hp).mono ?_; rintro e w5 ⟨rfl, ⟨vs5, hm5⟩, hk5⟩; have HM5 := Aside0.mk hm5; have hx5_0 := keep_cell hk5 hx0 (Ne.symm HNE.out); have hx5_2 := keep_cell hk5 hx2 (Ne.symm HNE.out); clear hm5 hk5) | (go_at_call 70; refine (thresherref1_Cut.calls p 16 false t _ ht').mono ?_; rintro e w' ⟨rfl, ⟨nd, rfl⟩⟩; have HM6 := Aside0.mk (HM5.out.drewN nd); obtain ⟨AsHM6, csHM6, rfl⟩ := Kd.R_slice HM6.out.rs; have hz4HM6 := (blk_cell HM6.out.blk 4).trans rfl))
 all_goals
  go_wp2_with (first | ((with_reducible refine gate_builtin (b := .append) (xs := #[.tmp 203, .tmp 205]) rfl ?_); at_builtin; refine Kd.R_append (Kd.int .i64) (w0 := w0) w0.heap.size rfl (.tmp 203) (.tmp 205) 58 2 (.int .i64 0) 8 rfl Try.underlying58 info2 rfl (by decide) (by omega) _ st1 t [.int .i64 t] (fun _ => True) (fun _ => False) rfl rfl ?aP (fun _ hk => hk.elim) ?aF ?aO ?aB ?aS ?aL ?_; (case aP => exact rfl); (case aB => exact HM6.out.bel); (case aF => exact (fun _ _ => trivial)); (case aO => exact HM6.out.rs); (case aS => exact below_size HM6.out.bel); (case aL => first | omega | (simp only [List.length_append, List.length_singleton]; omega)); intro v7 w7 ho hb hg hat; obtain ⟨A7, c7, rfl⟩ := Kd.R_slice ho; have hk7 := blk_grown HM6.out.blk hg (Kd.R_ne HM6.out.rs HM6.out.blk (by decide)); have hy7_4 := (blk_cell hk7 4).trans rfl; have hf7_4 := blk_frozen hk7 4; have HN7 := Aside0.mk (HM6.out.setStack ho hb hg); clear ho hb hg hat hk7))
  go_ret
  exact ⟨rfl, _, _, by simpa using HN7.out⟩

set_option maxHeartbeats 8000000 in
set_option maxRecDepth 100000 in
theorem rop_cut21 (a : Int) (b : ByteArray) (v : Int) (k : Nat) (x : S34) (hx : x.f0 = 21) : ROpSpec a b v k x := by
 intro w0 wB w g st fu out vs vo A c r hm hr hc h
 have hu34 := Try.underlying34
 have hu48 := Try.underlying48
 have hu50 := Try.underlying50
 have HM := Aside0.mk hm
 have HR := Aside0.mk hr
 have HC := Aside0.mk hc
 clear hr hc hm
 obtain ⟨fx, fn, l⟩ := x
 simp only [mdo] at h
 dsimp only at *
 have hk : fx = 21 := hx
 rw [if_neg (by omega : ¬ fx < 1), if_neg (by omega : ¬ fx ≤ 4), if_neg (by omega : ¬ fx ≤ 17), if_pos (by omega : fx ≤ 24)] at h
 obtain ⟨⟨p, st1⟩, hp, h⟩ := Option.bind_eq_some_iff.mp h
 try dsimp only at h
 obtain ⟨t, ht, h⟩ := Option.bind_eq_some_iff.mp h
 try dsimp only at ht h
 obtain ⟨hl, rfl⟩ := push1_some h
 clear h
 go_enter Try.func56, Try.ntmps56
 go_upto_region 1 with (first | ((with_reducible refine gate_dst (N := 3) rfl ?_); refine box_event ?hg (N := 3) ?hd (cs := #[.int .i64 fx, .int .i64 fn, .slice A l.length c]) (t := 34) ?hr ?_; (case hd => rfl); (case hg => rfl); (case hr => first | (go_simp; done) | (go_simp; rfl)); intro gb hg w4 hbox hb; have GB := Aside0.mk hbox; have HM4 := Aside0.mk (HM.out.below hb); have HNE := Aside0.mk (blk_ne HM4.out.blk hbox (by decide)); clear hbox hb hg))
 have hx0 : w4.cell? ⟨gb, 0, none⟩ = some (.int .i64 fx) := (blk_cell GB.out 0).trans rfl
 have hx1 : w4.cell? ⟨gb, 1, none⟩ = some (.int .i64 fn) := (blk_cell GB.out 1).trans rfl
 have hx2 : w4.cell? ⟨gb, 2, none⟩ = some (.slice A l.length c) := (blk_cell GB.out 2).trans rfl
 have ht' : thresherref1_Cut.f p 32 false = some t := by
  unfold rone rwidth at ht
  rw [hk] at ht
  simpa using ht
 go_wp2
 go_region_with (first | (go_at_call 67; refine (rmachine_pop.calls w0 wB _ g a b v _ _ out _ _ p _ (by first | exact HM4.out | exact HM4.out.drew) hp).mono ?_; rintro e w5 ⟨rfl, ⟨vs5, hm5⟩, hk5⟩; have HM5 := Aside0.mk hm5; have hx5_0 := keep_cell hk5 hx0 (Ne.symm HNE.out); have hx5_2 := keep_cell hk5 hx2 (Ne.symm HNE.out); clear hm5 hk5) | (go_at_call 70; refine (thresherref1_Cut.calls p 32 false t _ ht').mono ?_; rintro e w' ⟨rfl, ⟨nd, rfl⟩⟩; have HM6 := Aside0.mk (HM5.out.drewN nd); obtain ⟨AsHM6, csHM6, rfl⟩ := Kd.R_slice HM6.out.rs; have hz4HM6 := (blk_cell HM6.out.blk 4).trans rfl))
 all_goals
  go_wp2_with (first | ((with_reducible refine gate_builtin (b := .append) (xs := #[.tmp 203, .tmp 205]) rfl ?_); at_builtin; refine Kd.R_append (Kd.int .i64) (w0 := w0) w0.heap.size rfl (.tmp 203) (.tmp 205) 58 2 (.int .i64 0) 8 rfl Try.underlying58 info2 rfl (by decide) (by omega) _ st1 t [.int .i64 t] (fun _ => True) (fun _ => False) rfl rfl ?aP (fun _ hk => hk.elim) ?aF ?aO ?aB ?aS ?aL ?_; (case aP => exact rfl); (case aB => exact HM6.out.bel); (case aF => exact (fun _ _ => trivial)); (case aO => exact HM6.out.rs); (case aS => exact below_size HM6.out.bel); (case aL => first | omega | (simp only [List.length_append, List.length_singleton]; omega)); intro v7 w7 ho hb hg hat; obtain ⟨A7, c7, rfl⟩ := Kd.R_slice ho; have hk7 := blk_grown HM6.out.blk hg (Kd.R_ne HM6.out.rs HM6.out.blk (by decide)); have hy7_4 := (blk_cell hk7 4).trans rfl; have hf7_4 := blk_frozen hk7 4; have HN7 := Aside0.mk (HM6.out.setStack ho hb hg); clear ho hb hg hat hk7))
  go_ret
  exact ⟨rfl, _, _, by simpa using HN7.out⟩

set_option maxHeartbeats 8000000 in
set_option maxRecDepth 100000 in
theorem rop_cut22 (a : Int) (b : ByteArray) (v : Int) (k : Nat) (x : S34) (hx : x.f0 = 22) : ROpSpec a b v k x := by
 intro w0 wB w g st fu out vs vo A c r hm hr hc h
 have hu34 := Try.underlying34
 have hu48 := Try.underlying48
 have hu50 := Try.underlying50
 have HM := Aside0.mk hm
 have HR := Aside0.mk hr
 have HC := Aside0.mk hc
 clear hr hc hm
 obtain ⟨fx, fn, l⟩ := x
 simp only [mdo] at h
 dsimp only at *
 have hk : fx = 22 := hx
 rw [if_neg (by omega : ¬ fx < 1), if_neg (by omega : ¬ fx ≤ 4), if_neg (by omega : ¬ fx ≤ 17), if_pos (by omega : fx ≤ 24)] at h
 obtain ⟨⟨p, st1⟩, hp, h⟩ := Option.bind_eq_some_iff.mp h
 try dsimp only at h
 obtain ⟨t, ht, h⟩ := Option.bind_eq_some_iff.mp h
 try dsimp only at ht h
 obtain ⟨hl, rfl⟩ := push1_some h
 clear h
 go_enter Try.func56, Try.ntmps56
 go_upto_region 1 with (first | ((with_reducible refine gate_dst (N := 3) rfl ?_); refine box_event ?hg (N := 3) ?hd (cs := #[.int .i64 fx, .int .i64 fn, .slice A l.length c]) (t := 34) ?hr ?_; (case hd => rfl); (case hg => rfl); (case hr => first | (go_simp; done) | (go_simp; rfl)); intro gb hg w4 hbox hb; have GB := Aside0.mk hbox; have HM4 := Aside0.mk (HM.out.below hb); have HNE := Aside0.mk (blk_ne HM4.out.blk hbox (by decide)); clear hbox hb hg))
 have hx0 : w4.cell? ⟨gb, 0, none⟩ = some (.int .i64 fx) := (blk_cell GB.out 0).trans rfl
 have hx1 : w4.cell? ⟨gb, 1, none⟩ = some (.int .i64 fn) := (blk_cell GB.out 1).trans rfl
 have hx2 : w4.cell? ⟨gb, 2, none⟩ = some (.slice A l.length c) := (blk_cell GB.out 2).trans rfl
 have ht' : thresherref1_Cut.f p 8 true = some t := by
  unfold rone rwidth at ht
  rw [hk] at ht
  simpa using ht
 go_wp2
 go_region_with (first | (go_at_call 67; refine (rmachine_pop.calls w0 wB _ g a b v _ _ out _ _ p _ (by first | exact HM4.out | exact HM4.out.drew) hp).mono ?_; rintro e w5 ⟨rfl, ⟨vs5, hm5⟩, hk5⟩; have HM5 := Aside0.mk hm5; have hx5_0 := keep_cell hk5 hx0 (Ne.symm HNE.out); have hx5_2 := keep_cell hk5 hx2 (Ne.symm HNE.out); clear hm5 hk5) | (go_at_call 70; refine (thresherref1_Cut.calls p 8 true t _ ht').mono ?_; rintro e w' ⟨rfl, ⟨nd, rfl⟩⟩; have HM6 := Aside0.mk (HM5.out.drewN nd); obtain ⟨AsHM6, csHM6, rfl⟩ := Kd.R_slice HM6.out.rs; have hz4HM6 := (blk_cell HM6.out.blk 4).trans rfl))
 all_goals
  go_wp2_with (first | ((with_reducible refine gate_builtin (b := .append) (xs := #[.tmp 203, .tmp 205]) rfl ?_); at_builtin; refine Kd.R_append (Kd.int .i64) (w0 := w0) w0.heap.size rfl (.tmp 203) (.tmp 205) 58 2 (.int .i64 0) 8 rfl Try.underlying58 info2 rfl (by decide) (by omega) _ st1 t [.int .i64 t] (fun _ => True) (fun _ => False) rfl rfl ?aP (fun _ hk => hk.elim) ?aF ?aO ?aB ?aS ?aL ?_; (case aP => exact rfl); (case aB => exact HM6.out.bel); (case aF => exact (fun _ _ => trivial)); (case aO => exact HM6.out.rs); (case aS => exact below_size HM6.out.bel); (case aL => first | omega | (simp only [List.length_append, List.length_singleton]; omega)); intro v7 w7 ho hb hg hat; obtain ⟨A7, c7, rfl⟩ := Kd.R_slice ho; have hk7 := blk_grown HM6.out.blk hg (Kd.R_ne HM6.out.rs HM6.out.blk (by decide)); have hy7_4 := (blk_cell hk7 4).trans rfl; have hf7_4 := blk_frozen hk7 4; have HN7 := Aside0.mk (HM6.out.setStack ho hb hg); clear ho hb hg hat hk7))
  go_ret
  exact ⟨rfl, _, _, by simpa using HN7.out⟩

set_option maxHeartbeats 8000000 in
set_option maxRecDepth 100000 in
theorem rop_cut23 (a : Int) (b : ByteArray) (v : Int) (k : Nat) (x : S34) (hx : x.f0 = 23) : ROpSpec a b v k x := by
 intro w0 wB w g st fu out vs vo A c r hm hr hc h
 have hu34 := Try.underlying34
 have hu48 := Try.underlying48
 have hu50 := Try.underlying50
 have HM := Aside0.mk hm
 have HR := Aside0.mk hr
 have HC := Aside0.mk hc
 clear hr hc hm
 obtain ⟨fx, fn, l⟩ := x
 simp only [mdo] at h
 dsimp only at *
 have hk : fx = 23 := hx
 rw [if_neg (by omega : ¬ fx < 1), if_neg (by omega : ¬ fx ≤ 4), if_neg (by omega : ¬ fx ≤ 17), if_pos (by omega : fx ≤ 24)] at h
 obtain ⟨⟨p, st1⟩, hp, h⟩ := Option.bind_eq_some_iff.mp h
 try dsimp only at h
 obtain ⟨t, ht, h⟩ := Option.bind_eq_some_iff.mp h
 try dsimp only at ht h
 obtain ⟨hl, rfl⟩ := push1_some h
 clear h
 go_enter Try.func56, Try.ntmps56
 go_upto_region 1 with (first | ((with_reducible refine gate_dst (N := 3) rfl ?_); refine box_event ?hg (N := 3) ?hd (cs := #[.int .i64 fx, .int .i64 fn, .slice A l.length c]) (t := 34) ?hr ?_; (case hd => rfl); (case hg => rfl); (case hr => first | (go_simp; done) | (go_simp; rfl)); intro gb hg w4 hbox hb; have GB := Aside0.mk hbox; have HM4 := Aside0.mk (HM.out.below hb); have HNE := Aside0.mk (blk_ne HM4.out.blk hbox (by decide)); clear hbox hb hg))
 have hx0 : w4.cell? ⟨gb, 0, none⟩ = some (.int .i64 fx) := (blk_cell GB.out 0).trans rfl
 have hx1 : w4.cell? ⟨gb, 1, none⟩ = some (.int .i64 fn) := (blk_cell GB.out 1).trans rfl
 have hx2 : w4.cell? ⟨gb, 2, none⟩ = some (.slice A l.length c) := (blk_cell GB.out 2).trans rfl
 have ht' : thresherref1_Cut.f p 16 true = some t := by
  unfold rone rwidth at ht
  rw [hk] at ht
  simpa using ht
 go_wp2
 go_region_with (first | (go_at_call 67; refine (rmachine_pop.calls w0 wB _ g a b v _ _ out _ _ p _ (by first | exact HM4.out | exact HM4.out.drew) hp).mono ?_; rintro e w5 ⟨rfl, ⟨vs5, hm5⟩, hk5⟩; have HM5 := Aside0.mk hm5; have hx5_0 := keep_cell hk5 hx0 (Ne.symm HNE.out); have hx5_2 := keep_cell hk5 hx2 (Ne.symm HNE.out); clear hm5 hk5) | (go_at_call 70; refine (thresherref1_Cut.calls p 16 true t _ ht').mono ?_; rintro e w' ⟨rfl, ⟨nd, rfl⟩⟩; have HM6 := Aside0.mk (HM5.out.drewN nd); obtain ⟨AsHM6, csHM6, rfl⟩ := Kd.R_slice HM6.out.rs; have hz4HM6 := (blk_cell HM6.out.blk 4).trans rfl))
 all_goals
  go_wp2_with (first | ((with_reducible refine gate_builtin (b := .append) (xs := #[.tmp 203, .tmp 205]) rfl ?_); at_builtin; refine Kd.R_append (Kd.int .i64) (w0 := w0) w0.heap.size rfl (.tmp 203) (.tmp 205) 58 2 (.int .i64 0) 8 rfl Try.underlying58 info2 rfl (by decide) (by omega) _ st1 t [.int .i64 t] (fun _ => True) (fun _ => False) rfl rfl ?aP (fun _ hk => hk.elim) ?aF ?aO ?aB ?aS ?aL ?_; (case aP => exact rfl); (case aB => exact HM6.out.bel); (case aF => exact (fun _ _ => trivial)); (case aO => exact HM6.out.rs); (case aS => exact below_size HM6.out.bel); (case aL => first | omega | (simp only [List.length_append, List.length_singleton]; omega)); intro v7 w7 ho hb hg hat; obtain ⟨A7, c7, rfl⟩ := Kd.R_slice ho; have hk7 := blk_grown HM6.out.blk hg (Kd.R_ne HM6.out.rs HM6.out.blk (by decide)); have hy7_4 := (blk_cell hk7 4).trans rfl; have hf7_4 := blk_frozen hk7 4; have HN7 := Aside0.mk (HM6.out.setStack ho hb hg); clear ho hb hg hat hk7))
  go_ret
  exact ⟨rfl, _, _, by simpa using HN7.out⟩

set_option maxHeartbeats 8000000 in
set_option maxRecDepth 100000 in
theorem rop_cut24 (a : Int) (b : ByteArray) (v : Int) (k : Nat) (x : S34) (hx : x.f0 = 24) : ROpSpec a b v k x := by
 intro w0 wB w g st fu out vs vo A c r hm hr hc h
 have hu34 := Try.underlying34
 have hu48 := Try.underlying48
 have hu50 := Try.underlying50
 have HM := Aside0.mk hm
 have HR := Aside0.mk hr
 have HC := Aside0.mk hc
 clear hr hc hm
 obtain ⟨fx, fn, l⟩ := x
 simp only [mdo] at h
 dsimp only at *
 have hk : fx = 24 := hx
 rw [if_neg (by omega : ¬ fx < 1), if_neg (by omega : ¬ fx ≤ 4), if_neg (by omega : ¬ fx ≤ 17), if_pos (by omega : fx ≤ 24)] at h
 obtain ⟨⟨p, st1⟩, hp, h⟩ := Option.bind_eq_some_iff.mp h
 try dsimp only at h
 obtain ⟨t, ht, h⟩ := Option.bind_eq_some_iff.mp h
 try dsimp only at ht h
 obtain ⟨hl, rfl⟩ := push1_some h
 clear h
 go_enter Try.func56, Try.ntmps56
 go_upto_region 1 with (first | ((with_reducible refine gate_dst (N := 3) rfl ?_); refine box_event ?hg (N := 3) ?hd (cs := #[.int .i64 fx, .int .i64 fn, .slice A l.length c]) (t := 34) ?hr ?_; (case hd => rfl); (case hg => rfl); (case hr => first | (go_simp; done) | (go_simp; rfl)); intro gb hg w4 hbox hb; have GB := Aside0.mk hbox; have HM4 := Aside0.mk (HM.out.below hb); have HNE := Aside0.mk (blk_ne HM4.out.blk hbox (by decide)); clear hbox hb hg))
 have hx0 : w4.cell? ⟨gb, 0, none⟩ = some (.int .i64 fx) := (blk_cell GB.out 0).trans rfl
 have hx1 : w4.cell? ⟨gb, 1, none⟩ = some (.int .i64 fn) := (blk_cell GB.out 1).trans rfl
 have hx2 : w4.cell? ⟨gb, 2, none⟩ = some (.slice A l.length c) := (blk_cell GB.out 2).trans rfl
 have ht' : thresherref1_Cut.f p 32 true = some t := by
  unfold rone rwidth at ht
  rw [hk] at ht
  simpa using ht
 go_wp2
 go_region_with (first | (go_at_call 67; refine (rmachine_pop.calls w0 wB _ g a b v _ _ out _ _ p _ (by first | exact HM4.out | exact HM4.out.drew) hp).mono ?_; rintro e w5 ⟨rfl, ⟨vs5, hm5⟩, hk5⟩; have HM5 := Aside0.mk hm5; have hx5_0 := keep_cell hk5 hx0 (Ne.symm HNE.out); have hx5_2 := keep_cell hk5 hx2 (Ne.symm HNE.out); clear hm5 hk5) | (go_at_call 70; refine (thresherref1_Cut.calls p 32 true t _ ht').mono ?_; rintro e w' ⟨rfl, ⟨nd, rfl⟩⟩; have HM6 := Aside0.mk (HM5.out.drewN nd); obtain ⟨AsHM6, csHM6, rfl⟩ := Kd.R_slice HM6.out.rs; have hz4HM6 := (blk_cell HM6.out.blk 4).trans rfl))
 all_goals
  go_wp2_with (first | ((with_reducible refine gate_builtin (b := .append) (xs := #[.tmp 203, .tmp 205]) rfl ?_); at_builtin; refine Kd.R_append (Kd.int .i64) (w0 := w0) w0.heap.size rfl (.tmp 203) (.tmp 205) 58 2 (.int .i64 0) 8 rfl Try.underlying58 info2 rfl (by decide) (by omega) _ st1 t [.int .i64 t] (fun _ => True) (fun _ => False) rfl rfl ?aP (fun _ hk => hk.elim) ?aF ?aO ?aB ?aS ?aL ?_; (case aP => exact rfl); (case aB => exact HM6.out.bel); (case aF => exact (fun _ _ => trivial)); (case aO => exact HM6.out.rs); (case aS => exact below_size HM6.out.bel); (case aL => first | omega | (simp only [List.length_append, List.length_singleton]; omega)); intro v7 w7 ho hb hg hat; obtain ⟨A7, c7, rfl⟩ := Kd.R_slice ho; have hk7 := blk_grown HM6.out.blk hg (Kd.R_ne HM6.out.rs HM6.out.blk (by decide)); have hy7_4 := (blk_cell hk7 4).trans rfl; have hf7_4 := blk_frozen hk7 4; have HN7 := Aside0.mk (HM6.out.setStack ho hb hg); clear ho hb hg hat hk7))
  go_ret
  exact ⟨rfl, _, _, by simpa using HN7.out⟩

end Go.Proofs.Ytchgjkfnmifgkaa.QE

namespace Go.Proofs.Ytchgjkfnmifgkaa.QE
open Go.RowKit Go.Proofs.YtchgjkfnmifgkaaW.PrintWords Go.Proofs.YtchgjkfnmifgkaaW.PrintLast Go.Proofs.YtchgjkfnmifgkaaW.PrintMore
attribute [local go_sem] max2_int min2_int max_two min_two max_three min_three max_four min_four
set_option linter.unusedVariables false
set_option linter.unusedSimpArgs false

theorem mrep_zero {two : Int → Int → Int → Option Int} {one : Int → Int → Option Int} {a : Int} {b : ByteArray} {v : Int} {k : Nat} {n : Int} {l : List S34} {st : List Int} {fu : Int} {out : List S50} {r : Int × List Int × Int × List S50} (hn : n ≤ 0) (h : mrep two one a b v k n l st fu out = some r) : r = (0, st, fu, out) := by
 cases k with
 | zero => simp [mrep] at h
 | succ k =>
  rw [mrep, if_neg (by omega), if_neg (by omega)] at h
  exact (Option.some.inj h).symm
theorem mrep_le {two : Int → Int → Int → Option Int} {one : Int → Int → Option Int} {a : Int} {b : ByteArray} {v : Int} {k : Nat} {n : Int} {l : List S34} {st : List Int} {fu : Int} {out : List S50} {r : Int × List Int × Int × List S50} (h : mrep two one a b v k n l st fu out = some r) : n ≤ 9223372036854775807 := by
 cases k with
 | zero => simp [mrep] at h
 | succ k =>
  rw [mrep] at h
  split at h
  ·
   simp at h
  ·
   omega
theorem mrep_one {two : Int → Int → Int → Option Int} {one : Int → Int → Option Int} {a : Int} {b : ByteArray} {v : Int} {k : Nat} {l : List S34} {st : List Int} {fu : Int} {out : List S50} {r : Int × List Int × Int × List S50} (h : mrep two one a b v k 1 l st fu out = some r) : ∃ j, j ≤ k ∧ mrun two one a b v j l st fu out = some r := by
 cases k with
 | zero => simp [mrep] at h
 | succ k =>
  rw [mrep, if_neg (by omega), if_pos (by omega)] at h
  by_cases c : (l.length : Int) > 0
  ·
   rw [if_pos c] at h
   obtain ⟨r1, h1, h⟩ := Option.bind_eq_some_iff.mp h
   by_cases c2 : r1.1 = 0
   ·
    rw [if_pos c2] at h
    have := mrep_zero (show wrap64 (1 - 1) ≤ 0 by unfold wrap64; decide) h
    refine ⟨k, by omega, ?_⟩
    rw [h1, this, ← c2]
   ·
    rw [if_neg c2] at h
    exact ⟨k, by omega, by rw [h1]; exact h⟩
  ·
   rw [if_neg c] at h
   have hl : l = [] := List.length_eq_zero_iff.mp (by omega)
   subst hl
   exact ⟨k + 1, by omega, by rw [mrun]; exact h⟩

set_option maxHeartbeats 8000000 in
set_option maxRecDepth 100000 in
theorem rop_if (a : Int) (b : ByteArray) (v : Int) (k : Nat) (x : S34) (hx : x.f0 = 28) (hrun : ∀ j, j ≤ k → RRunSpec a b v j) : ROpSpec a b v k x := by
 intro w0 wB w g st fu out vs vo A c r hm hr hc h
 have hu34 := Try.underlying34
 have hu48 := Try.underlying48
 have hu50 := Try.underlying50
 have HM := Aside0.mk hm
 have HR := Aside0.mk hr
 have HC := Aside0.mk hc
 clear hr hc hm
 obtain ⟨fx, fn, l⟩ := x
 simp only [mdo] at h
 dsimp only at *
 have hk : fx = 28 := hx
 rw [if_neg (by omega : ¬ fx < 1), if_neg (by omega : ¬ fx ≤ 4), if_neg (by omega : ¬ fx ≤ 17), if_neg (by omega : ¬ fx ≤ 24), if_neg (by omega : ¬ fx = 25), if_neg (by omega : ¬ fx = 26), if_neg (by omega : ¬ fx = 27), if_pos (by omega : fx = 28)] at h
 obtain ⟨⟨p, st1⟩, hp, h⟩ := Option.bind_eq_some_iff.mp h
 try dsimp only at h
 go_enter Try.func56, Try.ntmps56
 go_upto_region 1 with (first | ((with_reducible refine gate_dst (N := 3) rfl ?_); refine box_event ?hg (N := 3) ?hd (cs := #[.int .i64 fx, .int .i64 fn, .slice A l.length c]) (t := 34) ?hr ?_; (case hd => rfl); (case hg => rfl); (case hr => first | (go_simp; done) | (go_simp; rfl)); intro gb hg w4 hbox hb; have GB := Aside0.mk hbox; have HM4 := Aside0.mk (HM.out.below hb); have HNE := Aside0.mk (blk_ne HM4.out.blk hbox (by decide)); clear hbox hb hg))
 have hx0 : w4.cell? ⟨gb, 0, none⟩ = some (.int .i64 fx) := (blk_cell GB.out 0).trans rfl
 have hx1 : w4.cell? ⟨gb, 1, none⟩ = some (.int .i64 fn) := (blk_cell GB.out 1).trans rfl
 have hx2 : w4.cell? ⟨gb, 2, none⟩ = some (.slice A l.length c) := (blk_cell GB.out 2).trans rfl
 by_cases c1 : p = 0
 ·
  subst c1
  rw [if_pos rfl] at h
  have hr := mrep_zero (by decide) h
  subst hr
  clear h
  go_wp2_with (first | ((with_reducible refine gate_callee (f := 67) rfl ?_); refine goesL_ (some 169) rfl rfl Try.func67 (by kernel_rfl) rfl #[.pointer (some ⟨g, 0, none⟩)] rfl (by (try simp only [List.map_toArray, List.map_cons, List.map_nil]); first | done | rfl) ?_; (with_reducible refine (rmachine_pop.calls w0 wB _ g a b v _ _ out _ _ 0 _ HM4.out hp).mono ?_); rintro e w5 ⟨rfl, ⟨vs5, hm5⟩, hk5⟩; refine ⟨_, rfl, ?_⟩; have HM5 := Aside0.mk hm5; have hx5_0 := keep_cell hk5 hx0 (Ne.symm HNE.out); have hx5_2 := keep_cell hk5 hx2 (Ne.symm HNE.out); clear hm5 hk5))
  go_ret
  exact ⟨rfl, _, _, HM5.out⟩
 ·
  rw [if_neg c1] at h
  have c1b0 : (p == 0) = false := beq_eq_false_iff_ne.mpr c1
  have c1b1 : (p != 0) = true := bne_iff_ne.mpr c1
  obtain ⟨j, hj, hres⟩ := mrep_one h
  clear h
  go_wp2_with (first | ((with_reducible refine gate_callee (f := 67) rfl ?_); refine goesL_ (some 169) rfl rfl Try.func67 (by kernel_rfl) rfl #[.pointer (some ⟨g, 0, none⟩)] rfl (by (try simp only [List.map_toArray, List.map_cons, List.map_nil]); first | done | rfl) ?_; (with_reducible refine (rmachine_pop.calls w0 wB _ g a b v _ _ out _ _ p _ HM4.out hp).mono ?_); rintro e w5 ⟨rfl, ⟨vs5, hm5⟩, hk5⟩; refine ⟨_, rfl, ?_⟩; have HM5 := Aside0.mk hm5; have hx5_0 := keep_cell hk5 hx0 (Ne.symm HNE.out); have hx5_2 := keep_cell hk5 hx2 (Ne.symm HNE.out); clear hm5 hk5))
  refine (hrun j hj w0 wB _ g _ _ _ _ _ A c l _ HM5.out HR.out HC.out hres).mono ?_
  rintro e6 w6 ⟨rfl, vs6, vo6, hm6⟩
  have HM6 := Aside0.mk hm6
  clear hm6
  go_wp2
  go_ret
  exact ⟨rfl, _, _, HM6.out⟩

set_option maxHeartbeats 8000000 in
set_option maxRecDepth 100000 in
theorem rop_rep (a : Int) (b : ByteArray) (v : Int) (k : Nat) (x : S34) (hx : x.f0 = 29) (hrun : ∀ j, j ≤ k → RRunSpec a b v j) : ROpSpec a b v k x := by
 intro w0 wB w g st fu out vs vo A c r hm hr hc h
 have hu34 := Try.underlying34
 have hu48 := Try.underlying48
 have hu50 := Try.underlying50
 have HM := Aside0.mk hm
 have HR := Aside0.mk hr
 have HC := Aside0.mk hc
 clear hr hc hm
 obtain ⟨fx, fn, l⟩ := x
 simp only [mdo] at h
 dsimp only at *
 have hk : fx = 29 := hx
 rw [if_neg (by omega : ¬ fx < 1), if_neg (by omega : ¬ fx ≤ 4), if_neg (by omega : ¬ fx ≤ 17), if_neg (by omega : ¬ fx ≤ 24), if_neg (by omega : ¬ fx = 25), if_neg (by omega : ¬ fx = 26), if_neg (by omega : ¬ fx = 27), if_neg (by omega : ¬ fx = 28), if_pos (by omega : fx = 29)] at h
 obtain ⟨⟨p, st1⟩, hp, h⟩ := Option.bind_eq_some_iff.mp h
 try dsimp only at h
 go_enter Try.func56, Try.ntmps56
 go_upto_region 1 with (first | ((with_reducible refine gate_dst (N := 3) rfl ?_); refine box_event ?hg (N := 3) ?hd (cs := #[.int .i64 fx, .int .i64 fn, .slice A l.length c]) (t := 34) ?hr ?_; (case hd => rfl); (case hg => rfl); (case hr => first | (go_simp; done) | (go_simp; rfl)); intro gb hg w4 hbox hb; have GB := Aside0.mk hbox; have HM4 := Aside0.mk (HM.out.below hb); have HNE := Aside0.mk (blk_ne HM4.out.blk hbox (by decide)); clear hbox hb hg))
 have hx0 : w4.cell? ⟨gb, 0, none⟩ = some (.int .i64 fx) := (blk_cell GB.out 0).trans rfl
 have hx1 : w4.cell? ⟨gb, 1, none⟩ = some (.int .i64 fn) := (blk_cell GB.out 1).trans rfl
 have hx2 : w4.cell? ⟨gb, 2, none⟩ = some (.slice A l.length c) := (blk_cell GB.out 2).trans rfl
 have H' := Aside0.mk h
 have HPK := Aside0.mk hp
 clear h hp
 have HS := Aside0.mk (HM4.out.restart)
 go_wp2_with (first | ((with_reducible refine gate_callee (f := 67) rfl ?_); refine goesL_ (some 180) rfl rfl Try.func67 (by kernel_rfl) rfl #[.pointer (some ⟨g, 0, none⟩)] rfl (by (try simp only [List.map_toArray, List.map_cons, List.map_nil]); first | done | rfl) ?_; (with_reducible refine (rmachine_pop.calls w0 w4 _ g a b v _ _ out _ _ p _ HS.out HPK.out).mono ?_); rintro e w5 ⟨rfl, ⟨vs5, hm5⟩, hk5⟩; refine ⟨_, rfl, ?_⟩; have HM5 := Aside0.mk hm5; have hx5_0 := keep_cell hk5 hx0 (Ne.symm HNE.out); have hx5_2 := keep_cell hk5 hx2 (Ne.symm HNE.out); clear hm5 hk5))
 go_loopg [10] k (fun kq v10 w' => ∃ (i : Int) (st2 : List Int) (fu2 : Int) (out2 : List S50) (vs2 vo2 : Value), v10 = .int .i64 i ∧ Aside0 (0 ≤ i) ∧ Aside0 (mrep rtwo rone a b v kq (p - i) l st2 fu2 out2 = some r) ∧ Aside0 (kq ≤ k) ∧ Aside0 (RMach w0 w4 w' g a b v st2 fu2 out2 vs2 vo2))
 case atStart => exact ⟨0, st1, fu, out, _, _, rfl, ⟨Int.le_refl _⟩, ⟨by rw [Int.sub_zero]; exact H'.out⟩, ⟨Nat.le_refl _⟩, HM5⟩
 case round =>
  have HP9 := Aside0.mk (mrep_le H'.out)
  clear H' HM5
  obtain ⟨i, st2, fu2, out2, vs2, vo2, rfl, HI0, HA, HK1, HM6⟩ := hrel
  have hbx := HM6.out.kp gb _ GB.out
  have hy2 : wr.cell? ⟨gb, 2, none⟩ = some (.slice A l.length c) := (blk_cell hbx 2).trans rfl
  clear hbx
  cases gk with
  | zero => exact absurd HA.out (by simp [mrep])
  | succ k1 =>
   have H := HA.out
   clear HA
   simp only [mrep] at H
   have hp9 := HP9.out
   have hi0 := HI0.out
   rw [if_neg (by omega)] at H
   by_cases c1 : i < p
   ·
    rw [if_pos (by omega)] at H
    have c1b0 : decide (i < p) = true := decide_eq_true c1
    have e1 : wrap64 (p - i - 1) = p - (i + 1) := by unfold wrap64; omega
    have e2 : wrap64 (i + 1) = i + 1 := by unfold wrap64; omega
    rw [e1] at H
    clear hp9 hi0 e1 c1
    by_cases c2 : (l.length : Int) > 0
    ·
     rw [if_pos c2] at H
     have c2b0 : decide (0 < (l.length : Int)) = true := decide_eq_true c2
     obtain ⟨⟨er, st3, fu3, out3⟩, hres, H⟩ := Option.bind_eq_some_iff.mp H
     dsimp only at H
     have HH := Aside0.mk H
     have HRES := Aside0.mk hres
     clear H hres
     go_wp2_with (fail)
     refine (hrun k1 (by have := HK1.out; omega) w0 w4 _ g _ _ _ _ _ A c l _ HM6.out HR.out HC.out HRES.out).mono ?_
     rintro e7 w7 ⟨rfl, vs7, vo7, hm7⟩
     have HM7 := Aside0.mk hm7
     have H := HH.out
     clear hm7 HM6 HH hy2
     dsimp only
     by_cases c3 : er = 0
     ·
      subst c3
      rw [if_pos rfl] at H
      have H' := Aside0.mk H
      clear H
      go_wp2
      go_roundg k1
      case measure => have := HK1.out; omega
      case rel => exact ⟨i + 1, st3, fu3, out3, vs7, vo7, by first | rfl | rw [e2], ⟨by have := HI0.out; omega⟩, H', ⟨by have := HK1.out; omega⟩, HM7⟩
     ·
      rw [if_neg c3] at H
      obtain rfl := Option.some.inj H
      have c3b0 : (er == 0) = false := beq_eq_false_iff_ne.mpr c3
      have c3b1 : (er != 0) = true := bne_iff_ne.mpr c3
      clear H
      go_wp2
      go_ret
      exact ⟨rfl, _, _, HM4.out.back HM7.out⟩
    ·
     rw [if_neg c2] at H
     obtain rfl := Option.some.inj H
     have c2b0 : decide (0 < (l.length : Int)) = false := decide_eq_false c2
     clear H
     go_wp2
     go_ret
     exact ⟨rfl, _, _, HM4.out.back HM6.out⟩
   ·
    rw [if_neg (by omega)] at H
    obtain rfl := Option.some.inj H
    have c1b0 : decide (i < p) = false := decide_eq_false c1
    clear H hp9 hi0 c1
    go_wp2
    go_ret
    exact ⟨rfl, _, _, HM4.out.back HM6.out⟩

set_option maxHeartbeats 8000000 in
set_option maxRecDepth 100000 in
theorem rop_emit (a : Int) (b : ByteArray) (v : Int) (k : Nat) (x : S34) (hx : 29 < x.f0) : ROpSpec a b v k x := by
 intro w0 wB w g st fu out vs vo A c r hm hr hc h
 have hu34 := Try.underlying34
 have hu48 := Try.underlying48
 have hu50 := Try.underlying50
 have HM := Aside0.mk hm
 have HR := Aside0.mk hr
 have HC := Aside0.mk hc
 clear hr hc hm
 obtain ⟨fx, fn, l⟩ := x
 simp only [mdo] at h
 dsimp only at *
 rw [if_neg (by omega : ¬ fx < 1), if_neg (by omega : ¬ fx ≤ 4), if_neg (by omega : ¬ fx ≤ 17), if_neg (by omega : ¬ fx ≤ 24), if_neg (by omega : ¬ fx = 25), if_neg (by omega : ¬ fx = 26), if_neg (by omega : ¬ fx = 27), if_neg (by omega : ¬ fx = 28), if_neg (by omega : ¬ fx = 29)] at h
 obtain ⟨⟨p, st1⟩, hp, h⟩ := Option.bind_eq_some_iff.mp h
 try dsimp only at h
 obtain ⟨⟨p2, st2⟩, hp2, h⟩ := Option.bind_eq_some_iff.mp h
 try dsimp only at hp2 h
 go_enter Try.func56, Try.ntmps56
 go_upto_region 1 with (first | ((with_reducible refine gate_dst (N := 3) rfl ?_); refine box_event ?hg (N := 3) ?hd (cs := #[.int .i64 fx, .int .i64 fn, .slice A l.length c]) (t := 34) ?hr ?_; (case hd => rfl); (case hg => rfl); (case hr => first | (go_simp; done) | (go_simp; rfl)); intro gb hg w4 hbox hb; have GB := Aside0.mk hbox; have HM4 := Aside0.mk (HM.out.below hb); have HNE := Aside0.mk (blk_ne HM4.out.blk hbox (by decide)); clear hbox hb hg))
 have hx0 : w4.cell? ⟨gb, 0, none⟩ = some (.int .i64 fx) := (blk_cell GB.out 0).trans rfl
 have hx1 : w4.cell? ⟨gb, 1, none⟩ = some (.int .i64 fn) := (blk_cell GB.out 1).trans rfl
 have hx2 : w4.cell? ⟨gb, 2, none⟩ = some (.slice A l.length c) := (blk_cell GB.out 2).trans rfl
 have q1 : (fx == 1) = false := beq_eq_false_iff_ne.mpr (by omega)
 have q2 : (fx == 2) = false := beq_eq_false_iff_ne.mpr (by omega)
 have q3 : (fx == 3) = false := beq_eq_false_iff_ne.mpr (by omega)
 have q4 : (fx == 4) = false := beq_eq_false_iff_ne.mpr (by omega)
 have q18 : (fx == 18) = false := beq_eq_false_iff_ne.mpr (by omega)
 have q25 : (fx == 25) = false := beq_eq_false_iff_ne.mpr (by omega)
 have q26 : (fx == 26) = false := beq_eq_false_iff_ne.mpr (by omega)
 have q27 : (fx == 27) = false := beq_eq_false_iff_ne.mpr (by omega)
 have q28 : (fx == 28) = false := beq_eq_false_iff_ne.mpr (by omega)
 have q29 : (fx == 29) = false := beq_eq_false_iff_ne.mpr (by omega)
 have d5 : decide (5 ≤ fx) = true := decide_eq_true (by omega)
 have d17 : decide (fx ≤ 17) = false := decide_eq_false (by omega)
 have d19 : decide (19 ≤ fx) = true := decide_eq_true (by omega)
 have d24 : decide (fx ≤ 24) = false := decide_eq_false (by omega)
 by_cases cO : out.length = 256
 ·
  rw [if_pos cO] at h
  obtain rfl := Option.some.inj h
  clear h
  obtain ⟨Ao, co, rfl⟩ := Kd.R_slice HM4.out.ro
  have c0b0 : ((out.length : Int) == 256) = true := beq_iff_eq.mpr (by omega)
  go_wp2_with (first | ((with_reducible refine gate_callee (f := 67) rfl ?_); refine goesL_ (some 15) rfl rfl Try.func67 (by kernel_rfl) rfl #[.pointer (some ⟨g, 0, none⟩)] rfl (by (try simp only [List.map_toArray, List.map_cons, List.map_nil]); first | done | rfl) ?_; (with_reducible refine (rmachine_pop.calls w0 wB _ g a b v _ _ out _ _ p _ HM4.out hp).mono ?_); rintro e w5 ⟨rfl, ⟨vs5, hm5⟩, hk5⟩; refine ⟨_, rfl, ?_⟩; have HM5 := Aside0.mk hm5; have hx5_0 := keep_cell hk5 hx0 (Ne.symm HNE.out); have hx5_2 := keep_cell hk5 hx2 (Ne.symm HNE.out); clear hm5 hk5) | ((with_reducible refine gate_callee (f := 67) rfl ?_); refine goesL_ (some 17) rfl rfl Try.func67 (by kernel_rfl) rfl #[.pointer (some ⟨g, 0, none⟩)] rfl (by (try simp only [List.map_toArray, List.map_cons, List.map_nil]); first | done | rfl) ?_; (with_reducible refine (rmachine_pop.calls w0 wB _ g a b v _ _ out _ _ p2 _ HM5.out hp2).mono ?_); rintro e w6 ⟨rfl, ⟨vs6, hm6⟩, hk6⟩; refine ⟨_, rfl, ?_⟩; have HM6 := Aside0.mk hm6; have hx6_0 := keep_cell hk6 hx5_0 (Ne.symm HNE.out); have hx6_2 := keep_cell hk6 hx5_2 (Ne.symm HNE.out); clear hm6 hk6; have hz5 := (blk_cell HM6.out.blk 5).trans rfl))
  go_ret
  exact ⟨rfl, _, _, HM6.out⟩
 ·
  rw [if_neg cO] at h
  by_cases cL : out.length < 1000000
  ·
   rw [if_pos cL] at h
   obtain rfl := Option.some.inj h
   clear h
   obtain ⟨Ao, co, rfl⟩ := Kd.R_slice HM4.out.ro
   have c0b0 : ((out.length : Int) == 256) = false := beq_eq_false_iff_ne.mpr (by omega)
   go_wp2_with (first | ((with_reducible refine gate_callee (f := 67) rfl ?_); refine goesL_ (some 15) rfl rfl Try.func67 (by kernel_rfl) rfl #[.pointer (some ⟨g, 0, none⟩)] rfl (by (try simp only [List.map_toArray, List.map_cons, List.map_nil]); first | done | rfl) ?_; (with_reducible refine (rmachine_pop.calls w0 wB _ g a b v _ _ out _ _ p _ HM4.out hp).mono ?_); rintro e w5 ⟨rfl, ⟨vs5, hm5⟩, hk5⟩; refine ⟨_, rfl, ?_⟩; have HM5 := Aside0.mk hm5; have hx5_0 := keep_cell hk5 hx0 (Ne.symm HNE.out); have hx5_2 := keep_cell hk5 hx2 (Ne.symm HNE.out); clear hm5 hk5) | ((with_reducible refine gate_callee (f := 67) rfl ?_); refine goesL_ (some 17) rfl rfl Try.func67 (by kernel_rfl) rfl #[.pointer (some ⟨g, 0, none⟩)] rfl (by (try simp only [List.map_toArray, List.map_cons, List.map_nil]); first | done | rfl) ?_; (with_reducible refine (rmachine_pop.calls w0 wB _ g a b v _ _ out _ _ p2 _ HM5.out hp2).mono ?_); rintro e w6 ⟨rfl, ⟨vs6, hm6⟩, hk6⟩; refine ⟨_, rfl, ?_⟩; have HM6 := Aside0.mk hm6; have hx6_0 := keep_cell hk6 hx5_0 (Ne.symm HNE.out); have hx6_2 := keep_cell hk6 hx5_2 (Ne.symm HNE.out); clear hm6 hk6; have hz5 : w6.cell? ⟨g, 5, none⟩ = some (.slice Ao out.length co) := (blk_cell HM6.out.blk 5).trans rfl; have hz1 : w6.cell? ⟨g, 1, none⟩ = some (.string b) := (blk_cell HM6.out.blk 1).trans rfl))
   have hal : (w6.alloc (Obj.cells #[.int .i64 p2, .string b, .int .i64 p] 50)).cell? ⟨g, 5, none⟩ = some (.slice Ao out.length co) := (World.cell?_alloc_lt _ _ _ (World.block_lt_of_cell? _ _ hz5)).trans hz5
   go_region_law (first | ((refine Kd.R_append_step k50 (w0 := w0) (W := w6.drew) w0.heap.size (by rfl) (.tmp 28) (.tmp 39) 41 50 (.agg #[(.int .i64 0), (.string ⟨#[]⟩), (.int .i64 0)]) 32 (by rfl) Try.underlying41 info50r (by rfl) (by decide) (by omega) (.slice Ao out.length co) out ⟨⟨p2, b⟩, p⟩ [.int .i64 p2, .string b, .int .i64 p] (fun _ => True) (fun _ => False) (by rfl) (by rfl) (k50_mkM _ _ _ (⟨⟨p2, b⟩, p⟩ : S50)) (fun _ hk => hk.elim) (fun _ _ => trivial) (by first | exact HM6.out.ro | exact HM6.out.drew.ro) (by first | exact HM6.out.bel | exact HM6.out.drew.bel) (below_size HM6.out.drew.bel) (by omega) ?_; intro v1 w1 ho hb hg hat; obtain ⟨A1, c1, rfl⟩ := Kd.R_slice ho; have hk1 := (by first | exact blk_grown HM6.out.blk hg (Kd.R_ne HM6.out.ro HM6.out.blk (by decide)) | exact blk_grown HM6.out.drew.blk hg (Kd.R_ne HM6.out.drew.ro HM6.out.drew.blk (by decide)) : w1.heap[g]? = some (.cells #[.int .i64 a, .string b, .int .i64 v, .int .i64 fu, vs6, .slice Ao out.length co] 96 (0, 0))); have hy5 : w1.cell? ⟨g, 5, none⟩ = some (.slice Ao out.length co) := (blk_cell hk1 5).trans rfl; have hf5 := blk_frozen hk1 5; have HN := Aside0.mk (by first | exact HM6.out.setOut ho hb hg | exact HM6.out.drew.setOut ho hb hg : RMach w0 wB (w1.setCell ⟨g, 5, none⟩ (.slice A1 (out ++ [(⟨⟨p2, b⟩, p⟩ : S50)]).length c1)) g a b v st2 fu (out ++ [(⟨⟨p2, b⟩, p⟩ : S50)]) vs6 (.slice A1 (out ++ [(⟨⟨p2, b⟩, p⟩ : S50)]).length c1)); clear ho hb hg hat hk1)))
   all_goals (go_wp2; go_ret; exact ⟨rfl, _, _, by first | simpa using HN.out.drew | simpa using HN.out⟩)
  ·
   rw [if_neg cL] at h
   exact absurd h (by simp)

end Go.Proofs.Ytchgjkfnmifgkaa.QE

namespace Go.Proofs.Ytchgjkfnmifgkaa.QE
open Go.RowKit Go.Proofs.YtchgjkfnmifgkaaW.PrintWords Go.Proofs.YtchgjkfnmifgkaaW.PrintLast Go.Proofs.YtchgjkfnmifgkaaW.PrintMore
attribute [local go_sem] max2_int min2_int max_two min_two max_three min_three max_four min_four
set_option linter.unusedVariables false
set_option linter.unusedSimpArgs false

theorem rop_all (a : Int) (b : ByteArray) (v : Int) (k : Nat) (hrun : ∀ j, j ≤ k → RRunSpec a b v j) (x : S34) : ROpSpec a b v k x := by
 by_cases h4 : x.f0 ≤ 4
 ·
  exact rop_low a b v k x h4
 by_cases h17 : x.f0 ≤ 17
 ·
  exact rop_two a b v k x (by omega) h17
 by_cases h18 : x.f0 = 18
 ·
  exact rop_not a b v k x h18
 by_cases h19 : x.f0 = 19
 ·
  exact rop_cut19 a b v k x h19
 by_cases h20 : x.f0 = 20
 ·
  exact rop_cut20 a b v k x h20
 by_cases h21 : x.f0 = 21
 ·
  exact rop_cut21 a b v k x h21
 by_cases h22 : x.f0 = 22
 ·
  exact rop_cut22 a b v k x h22
 by_cases h23 : x.f0 = 23
 ·
  exact rop_cut23 a b v k x h23
 by_cases h24 : x.f0 = 24
 ·
  exact rop_cut24 a b v k x h24
 by_cases h25 : x.f0 = 25
 ·
  exact rop_dup a b v k x h25
 by_cases h26 : x.f0 = 26
 ·
  exact rop_swap a b v k x h26
 by_cases h27 : x.f0 = 27
 ·
  exact rop_pop a b v k x h27
 by_cases h28 : x.f0 = 28
 ·
  exact rop_if a b v k x h28 hrun
 by_cases h29 : x.f0 = 29
 ·
  exact rop_rep a b v k x h29 hrun
 exact rop_emit a b v k x (by omega)

theorem rd_T34_get2 {l : List S34} {i : Nat} (h : i < l.length) : rd_T34 l (i : Int) = l[i] := by
 unfold rd_T34
 rw [List.getD_eq_getElem?_getD]
 simp [h]

set_option maxHeartbeats 8000000 in
set_option maxRecDepth 100000 in
theorem rmachine_run.calls (a : Int) (b : ByteArray) (v : Int) : ∀ k, RRunSpec a b v k := by
 intro k
 induction k using Nat.strongRecOn with
 | _ k ih =>
 intro w0 wB w g st fu out vs vo A0 c0 l0 r hm hr hc h
 cases k with
 | zero => simp [mrun] at h
 | succ k =>
 have hu34 := Try.underlying34
 have HL := Aside0.mk (mrun.len rtwo rone a b v h)
 have HR := Aside0.mk hr
 have HC := Aside0.mk hc
 have HM := Aside0.mk hm
 have H' := Aside0.mk h
 clear hr hc hm h
 go_enter Try.func52, Try.ntmps52
 go_wp2
 go_loopg [5] (k + 1) (fun kq v5 w' => ∃ (i : Nat) (xi : Int) (st1 : List Int) (fu1 : Int) (out1 : List S50) (vs1 vo1 : Value), v5 = .int .i64 xi ∧ Aside0 (mrun rtwo rone a b v kq (l0.drop i) st1 fu1 out1 = some r) ∧ Aside0 (xi = i) ∧ Aside0 (i ≤ l0.length) ∧ Aside0 (kq ≤ k + 1) ∧ Aside0 (RMach w0 wB w' g a b v st1 fu1 out1 vs1 vo1))
 case atStart => exact ⟨0, 0, st, fu, out, vs, vo, rfl, H', ⟨rfl⟩, ⟨Nat.zero_le _⟩, ⟨Nat.le_refl _⟩, HM⟩
 case round =>
  clear H' HM
  obtain ⟨i, xi, st1, fu1, out1, vs1, vo1, rfl, HA, HXI, HI, HK1, HM⟩ := hrel
  cases gk with
  | zero => exact absurd HA.out (by simp [mrun])
  | succ k1 =>
   have H := HA.out
   clear HA
   have HX := HXI.out
   subst HX
   by_cases hi : i < l0.length
   ·
    rw [List.drop_eq_getElem_cons hi, ← rd_T34_get2 hi] at H
    simp only [mrun] at H
    split at H
    case isFalse => simp at H
    have HH := Aside0.mk H
    clear H
    have c3b0 : decide ((i : Int) < (l0.length : Int)) = true := decide_eq_true (by omega)
    have p107 : 0 ≤ (i : Int) := by omega
    have q107 : (i : Int) < l0.length := by omega
    obtain ⟨ad107, A2, c2, e107, hx0, hx1, hx2, hl2, hr2⟩ := at_T34 HR.out (i : Int) p107 q107
    cases e107
    rw [Int.toNat_natCast] at hx0 hx1 hx2
    have HX0 := Aside0.mk hx0
    have HX1 := Aside0.mk hx1
    have HX2 := Aside0.mk hx2
    have HR2 := Aside0.mk hr2
    have HC2 := Aside0.mk hl2
    clear hr2 hl2 hx0 hx1 hx2
    replace p107 := eq_true p107
    replace q107 := eq_true q107
    have H := HH.out
    clear HH
    have hz3 : wr.cell? ⟨g, 3, none⟩ = some (.int .i64 fu1) := (blk_cell HM.out.blk 3).trans rfl
    have hzf3 := blk_frozen HM.out.blk 3
    by_cases c1 : fu1 = 0
    ·
     subst c1
     rw [if_pos rfl] at H
     obtain rfl := Option.some.inj H
     clear H
     go_wp2
     go_ret
     exact ⟨rfl, _, _, HM.out⟩
    ·
     rw [if_neg c1] at H
     have c1b0 : (fu1 == 0) = false := beq_eq_false_iff_ne.mpr c1
     obtain ⟨⟨e1, st2, fu2, out2⟩, hdo, H⟩ := Option.bind_eq_some_iff.mp H
     dsimp only at H
     have HH := Aside0.mk H
     have HDO := Aside0.mk hdo
     clear H hdo
     go_upto_region 7 with (fail)
     have HM9 := Aside0.mk (HM.out.setFuel (wrap64 (fu1 - 1)))
     generalize hw9 : wr.setCell ⟨g, 3, none⟩ (.int .i64 (wrap64 (fu1 - 1))) = w9 at HM9 ⊢
     clear hw9 HM hz3 hzf3
     have hx0 := (HM9.out.bel.cell (World.block_lt_of_cell? w0 _ HX0.out)).trans HX0.out
     have hx1 := (HM9.out.bel.cell (World.block_lt_of_cell? w0 _ HX1.out)).trans HX1.out
     have hx2 := (HM9.out.bel.cell (World.block_lt_of_cell? w0 _ HX2.out)).trans HX2.out
     go_wp2_with (fail)
     cases k1 with
     | zero => exact absurd HDO.out (by simp [mdo])
     | succ k2 =>
     refine (rop_all a b v k2 (fun j hj => ih j (by have := HK1.out; omega)) (rd_T34 l0 (i : Int)) w0 wB _ g st1 (wrap64 (fu1 - 1)) out1 vs1 vo1 A2 c2 _ HM9.out HR2.out HC2.out HDO.out).mono ?_
     rintro e w10 ⟨rfl, vs10, vo10, hm10⟩
     have HM10 := Aside0.mk hm10
     have H := HH.out
     clear hm10 HM9 HH hx0 hx1 hx2
     dsimp only
     by_cases c3 : e1 = 0
     ·
      subst c3
      rw [if_pos rfl] at H
      have H' := Aside0.mk H
      clear H
      go_wp2
      go_roundg (k2 + 1)
      case measure => have := HK1.out; omega
      case rel => exact ⟨i + 1, wrap64 (i + 1), st2, fu2, out2, vs10, vo10, rfl, H', ⟨by have := HL.out; unfold wrap64; omega⟩, ⟨hi⟩, ⟨by have := HK1.out; omega⟩, HM10⟩
     ·
      rw [if_neg c3] at H
      obtain rfl := Option.some.inj H
      have c3b0 : (e1 == 0) = false := beq_eq_false_iff_ne.mpr c3
      have c3b1 : (e1 != 0) = true := bne_iff_ne.mpr c3
      clear H
      go_wp2
      go_ret
      exact ⟨rfl, _, _, HM10.out⟩
   ·
    have hi2 : l0.drop i = [] := List.drop_eq_nil_of_le (by omega)
    rw [hi2] at H
    simp only [mrun] at H
    obtain rfl := Option.some.inj H
    have c3b0 : decide ((i : Int) < (l0.length : Int)) = false := decide_eq_false (by omega)
    clear H
    go_wp2
    go_ret
    exact ⟨rfl, _, _, HM.out⟩

def thresherref6_Run.f (k : Nat) (l0 : List S34) (a : Int) (b : ByteArray) (v : Int) (fu : Int) : Option (List S50 × Int × Int) :=
 (mrun rtwo rone a b v k l0 [] fu []).bind fun r => if r.1 = 0 then some (r.2.2.2, r.2.2.1, 0) else some ([], 0, r.1)

theorem thresherref6_Run.mono : ∀ l0 a b v fu k, LeO (thresherref6_Run.f k l0 a b v fu) (thresherref6_Run.f (k + 1) l0 a b v fu) := by
 intro l0 a b v fu k
 unfold thresherref6_Run.f
 exact LeO.bind ((m_mono _ _ _ _ _ _).1 _ _ _ _) fun _ => LeO.refl _

set_option maxHeartbeats 8000000 in
set_option maxRecDepth 100000 in
theorem thresherref6_Run.calls (k : Nat) (A0 : Option Addr) (c0 : Nat) (l0 : List S34) (a : Int) (b : ByteArray) (v : Int) (fu : Int) (r1 : List S50) (r2 : Int) (r3 : Int) (w : World) (hr0 : Kd.C k34 w A0 l0.length l0) (hc0 : l0.length ≤ c0) (h : thresherref6_Run.f k l0 a b v fu = some (r1, r2, r3)) :
  Calls Try.prog 42 #[.slice A0 l0.length c0, .agg #[.int .i64 a, .string b, .int .i64 v], .int .i64 fu] w fun e w' => ∃ v0_ : Value, e = .returned (.tuple #[v0_, .int .i64 r2, .int .i64 r3]) ∧ Kd.R k50 50 w' w.heap.size (fun _ => True) v0_ r1 ∧ Below w.heap.size w w' := by
 have hu48 := Try.underlying48
 have hu50 := Try.underlying50
 have HR0 := Aside0.mk hr0
 have HC0 := Aside0.mk hc0
 clear hr0 hc0
 obtain ⟨⟨e3, st3, fu3, out3⟩, hrun, H⟩ := Option.bind_eq_some_iff.mp h
 dsimp only at H
 have HRUN := Aside0.mk hrun
 have HH := Aside0.mk H
 clear hrun h H
 go_enter Try.func42, Try.ntmps42
 go_upto_region 2 with (first | ((with_reducible refine gate_dst (N := 4) rfl ?_); refine box_event ?hg (N := 4) ?hd (cs := #[.int .i64 a, .string b, .int .i64 v]) (t := 50) ?hr ?_; (case hd => rfl); (case hg => rfl); (case hr => first | (go_simp; done) | (go_simp; rfl)); intro gb hg w4 hbox hb; have GB := Aside0.mk hbox; have HB4 := Aside0.mk hb; clear hbox hb hg; have hy0 : w4.cell? ⟨gb, 0, none⟩ = some (.int .i64 a) := (blk_cell GB.out 0).trans rfl; have hy1 : w4.cell? ⟨gb, 1, none⟩ = some (.string b) := (blk_cell GB.out 1).trans rfl; have hy2 : w4.cell? ⟨gb, 2, none⟩ = some (.int .i64 v) := (blk_cell GB.out 2).trans rfl) | ((with_reducible refine gate_dst (N := 14) rfl ?_); refine box_event ?hg (N := 14) ?hd (cs := #[.int .i64 a, .string b, .int .i64 v, .int .i64 fu, .slice none 0 0, .slice none 0 0]) (t := 96) ?hr ?_; (case hd => rfl); (case hg => rfl); (case hr => first | (go_simp; done) | (go_simp; rfl)); intro g hg w7 hbox hb; have HM7 := Aside0.mk (show RMach w w7 w7 g a b v [] fu [] (.slice none 0 0) (.slice none 0 0) from ⟨hbox, by rw [hg]; exact below_size HB4.out, below_step HB4.out hb, Kd.R_nil _ _ _ _ _, Kd.R_nil _ _ _ _ _, fun _ _ hi => hi⟩); clear hbox hb hg))
 go_wp2_with (fail)
 refine (rmachine_run.calls a b v k w w7 _ g [] fu [] _ _ A0 c0 l0 _ HM7.out HR0.out HC0.out HRUN.out).mono ?_
 rintro e w8 ⟨rfl, vs8, vo8, hm8⟩
 obtain ⟨A8, c8, rfl⟩ := Kd.R_slice hm8.ro
 have HM8 := Aside0.mk hm8
 have H := HH.out
 clear hm8 HH HM7
 dsimp only
 by_cases c5 : e3 = 0
 ·
  subst c5
  rw [if_pos rfl] at H
  obtain ⟨rfl, rfl, rfl⟩ : out3 = r1 ∧ fu3 = r2 ∧ 0 = r3 := by simpa using H
  clear H
  have hz5 : w8.cell? ⟨g, 5, none⟩ = some (.slice A8 out3.length c8) := (blk_cell HM8.out.blk 5).trans rfl
  have hz3 : w8.cell? ⟨g, 3, none⟩ = some (.int .i64 fu3) := (blk_cell HM8.out.blk 3).trans rfl
  go_wp2
  go_region
  go_wp2
  go_ret3
  exact ⟨_, rfl, Kd.R_drew HM8.out.ro, below_drew1 HM8.out.bel⟩
 ·
  rw [if_neg c5] at H
  obtain ⟨rfl, rfl, rfl⟩ : [] = r1 ∧ 0 = r2 ∧ e3 = r3 := by simpa using H
  have c5b0 : (e3 == 0) = false := beq_eq_false_iff_ne.mpr c5
  have c5b1 : (e3 != 0) = true := bne_iff_ne.mpr c5
  clear H
  go_wp2
  go_ret3
  exact ⟨_, rfl, Kd.R_nil _ _ _ _ _, HM8.out.bel⟩

end Go.Proofs.Ytchgjkfnmifgkaa.QE
