/- The program's machine, by hand: its stack and what it emits lie in rows of its own, led to out of its block. -/
import Derived.Test.YtchgjkfnmifgkaaQEx3
import Derived.Test.YtchgjkfnmifgkaaHMach
import Derived.Deep.RegionLaw
namespace Go.Proofs.Ytchgjkfnmifgkaa.QE
open Go.RowKit Go.Proofs.YtchgjkfnmifgkaaW.PrintWords Go.Proofs.YtchgjkfnmifgkaaW.PrintLast Go.Proofs.YtchgjkfnmifgkaaW.PrintMore
attribute [local go_sem] max2_int min2_int max_two min_two max_three min_three max_four min_four
set_option linter.unusedVariables false
set_option linter.unusedSimpArgs false

theorem info50h : (Try.prog.info? 50).map (fun i => (i.zero, i.size, i.bytes)) = some (some (.agg #[(.int .i64 0), (.string ⟨#[]⟩), (.int .i64 0)]), 3, 32) := by kernel_rfl

/-- The machine at block g: its record, its stack, its fuel, what it emitted. -/
structure Mach (w0 w : World) (g : Nat) (a : Int) (b : ByteArray) (v : Int) (st : List Int) (fu : Int) (out : List S50) (vs vo : Value) : Prop where
  blk : w.heap[g]? = some (.cells #[.int .i64 a, .string b, .int .i64 v, vs, .int .i64 fu, vo] 82 (0, 0))
  ge : w0.heap.size ≤ g
  bel : Below w0.heap.size w0 w
  rs : Kd.R (Kd.int .i64) 2 w w0.heap.size (fun _ => True) vs st
  ro : Kd.R k50 50 w w0.heap.size (fun _ => True) vo out

section
variable {w0 w w1 : World} {g : Nat} {a : Int} {b : ByteArray} {v : Int} {st : List Int} {fu : Int} {out : List S50} {vs vo : Value}
theorem Mach.below (h : Mach w0 w g a b v st fu out vs vo) (hb : Below w.heap.size w w1) : Mach w0 w1 g a b v st fu out vs vo :=
  ⟨blk_below h.blk hb, h.ge, below_step h.bel hb, Kd.R_below h.rs hb, Kd.R_below h.ro hb⟩
theorem Mach.drewN (h : Mach w0 w g a b v st fu out vs vo) (n : Nat) : Mach w0 (w.drewN n) g a b v st fu out vs vo := ⟨h.blk, h.ge, pw_below_drewN h.bel n, Kd.R_drewN h.rs n, Kd.R_drewN h.ro n⟩
theorem Mach.drew (h : Mach w0 w g a b v st fu out vs vo) : Mach w0 w.drew g a b v st fu out vs vo := ⟨h.blk, h.ge, below_drew1 h.bel, Kd.R_drew h.rs, Kd.R_drew h.ro⟩
theorem Mach.far (h : Mach w0 w g a b v st fu out vs vo) {t : TypeId} {cells : Array Value} {gb j : Nat} (u : Value) (hb : w.heap[gb]? = some (.cells cells t (0, 0))) (hg : w0.heap.size ≤ gb) (ht : t ≠ 82 ∧ t ≠ 2 ∧ t ≠ 50) : Mach w0 (w.setCell ⟨gb, j, none⟩ u) g a b v st fu out vs vo := by
  have hne : g ≠ gb := blk_ne h.blk hb (Ne.symm ht.1)
  exact ⟨blk_far h.blk hne u, h.ge, below_set h.bel hg, Kd.R_set h.rs hb (by simpa [Kd.int, Kd.scalar] using Ne.symm ht.2.1) j u, Kd.R_set h.ro hb (by simpa [k50, k48, Kd.iso, Kd.pair, Kd.int, Kd.string, Kd.scalar] using Ne.symm ht.2.2) j u⟩
/-- The stack's row is another one, as far as it holds the same block or none, or has been written. -/
theorem Mach.setStack (h : Mach w0 w g a b v st fu out vs vo) {vs1 : Value} {st1 : List Int} (hr : Kd.R (Kd.int .i64) 2 w1 w0.heap.size (fun _ => True) vs1 st1) (hb : Below w0.heap.size w0 w1) (hg : w.grownBy w1 vs.ownBlock) : Mach w0 (w1.setCell ⟨g, 3, none⟩ vs1) g a b v st1 fu out vs1 vo := by
  have hk : w1.heap[g]? = some (.cells #[.int .i64 a, .string b, .int .i64 v, vs, .int .i64 fu, vo] 82 (0, 0)) := blk_grown h.blk hg (Kd.R_ne h.rs h.blk (by decide))
  have ho : Kd.R k50 50 w1 w0.heap.size (fun _ => True) vo out := Kd.R_over h.ro h.rs (by decide) hg
  exact ⟨blk_put hk 3 vs1 rfl, h.ge, below_set hb h.ge, Kd.R_set hr hk (by decide) 3 vs1, Kd.R_set ho hk (by decide) 3 vs1⟩
theorem Mach.setOut (h : Mach w0 w g a b v st fu out vs vo) {vo1 : Value} {out1 : List S50} (hr : Kd.R k50 50 w1 w0.heap.size (fun _ => True) vo1 out1) (hb : Below w0.heap.size w0 w1) (hg : w.grownBy w1 vo.ownBlock) : Mach w0 (w1.setCell ⟨g, 5, none⟩ vo1) g a b v st fu out1 vs vo1 := by
  have hk : w1.heap[g]? = some (.cells #[.int .i64 a, .string b, .int .i64 v, vs, .int .i64 fu, vo] 82 (0, 0)) := blk_grown h.blk hg (Kd.R_ne h.ro h.blk (by decide))
  have ho : Kd.R (Kd.int .i64) 2 w1 w0.heap.size (fun _ => True) vs st := Kd.R_over h.rs h.ro (by decide) hg
  exact ⟨blk_put hk 5 vo1 rfl, h.ge, below_set hb h.ge, Kd.R_set ho hk (by decide) 5 vo1, Kd.R_set hr hk (by decide) 5 vo1⟩
theorem Mach.setFuel (h : Mach w0 w g a b v st fu out vs vo) (x : Int) : Mach w0 (w.setCell ⟨g, 4, none⟩ (.int .i64 x)) g a b v st x out vs vo :=
  ⟨blk_put h.blk 4 _ rfl, h.ge, below_set h.bel h.ge, Kd.R_set h.rs h.blk (by decide) 4 _, Kd.R_set h.ro h.blk (by decide) 4 _⟩
end

/-- A number of the stack is turned. -/
theorem Mach.putStack {w0 w : World} {g : Nat} {a : Int} {b : ByteArray} {v : Int} {st : List Int} {fu : Int} {out : List S50} {gs n cs : Nat} {vo : Value} (h : Mach w0 w g a b v st fu out (.slice (some ⟨gs, 0, none⟩) n cs) vo) (i : Nat) (hi : i < n) (x : Int) : Mach w0 (w.setCell ⟨gs, i, none⟩ (.int .i64 x)) g a b v (st.set i x) fu out (.slice (some ⟨gs, 0, none⟩) n cs) vo := by
  have hg := Kd.R_putg h.rs (i : Int) x
  rw [Int.toNat_natCast] at hg
  have hb := (Kd.R_bound h.rs).1 gs rfl
  exact ⟨blk_grown h.blk hg.2 (Kd.R_ne h.rs h.blk (by decide)), h.ge, below_set h.bel hb.2.1, hg.1, Kd.R_over h.ro h.rs (by decide) hg.2⟩

set_option maxHeartbeats 8000000 in
set_option maxRecDepth 100000 in
theorem machine_push.calls (w0 w : World) (g : Nat) (a : Int) (b : ByteArray) (v : Int) (st : List Int) (fu : Int) (out : List S50) (vs vo : Value) (n : Int) (h : Mach w0 w g a b v st fu out vs vo) (hl : st.length < 1000000) :
    Calls Try.prog 57 #[.pointer (some ⟨g, 0, none⟩), .int .i64 n] w fun e w' => e = .returned (.tuple #[]) ∧ ∃ vs', Mach w0 w' g a b v (st ++ [n]) fu out vs' vo := by
  obtain ⟨As, cs, rfl⟩ := Kd.R_slice h.rs
  have HM := Aside0.mk h
  clear h
  have hz3 : w.cell? ⟨g, 3, none⟩ = some (.slice As st.length cs) := (blk_cell HM.out.blk 3).trans rfl
  go_enter Try.func57, Try.ntmps57
  go_wp2_with (first | ((with_reducible refine gate_builtin (b := .append) (xs := #[.tmp 8, .tmp 10]) rfl ?_); at_builtin; refine Kd.R_append (Kd.int .i64) (w0 := w0) w0.heap.size rfl (.tmp 8) (.tmp 10) 58 2 (.int .i64 0) 8 rfl Try.underlying58 info2 rfl (by decide) (by omega) (.slice As st.length cs) st n [.int .i64 n] (fun _ => True) (fun _ => False) rfl rfl ?aP (fun _ hk => hk.elim) ?aF ?aO ?aB ?aS ?aL ?_; (case aP => exact rfl); (case aB => exact HM.out.bel); (case aF => exact (fun _ _ => trivial)); (case aO => exact HM.out.rs); (case aS => exact below_size HM.out.bel); (case aL => omega); intro v1 w1 ho hb hg hat; obtain ⟨A1, c1, rfl⟩ := Kd.R_slice ho; have hk1 := blk_grown HM.out.blk hg (Kd.R_ne HM.out.rs HM.out.blk (by decide)); have hy3 : w1.cell? ⟨g, 3, none⟩ = some (.slice As st.length cs) := (blk_cell hk1 3).trans rfl; have hf3 := blk_frozen hk1 3; have HN := Aside0.mk (HM.out.setStack ho hb hg); clear ho hb hg hat hk1))
  go_end0
  exact ⟨rfl, _, by simpa using HN.out⟩

/-- pop: the last number is told, and the stack is shorter. -/
theorem Mach.pop {w0 w : World} {g : Nat} {a : Int} {b : ByteArray} {v : Int} {st : List Int} {fu : Int} {out : List S50} {As : Option Addr} {cs : Nat} {vo : Value} (h : Mach w0 w g a b v st fu out (.slice As st.length cs) vo) : Mach w0 (w.setCell ⟨g, 3, none⟩ (.slice As (st.take (st.length - 1)).length cs)) g a b v (st.take (st.length - 1)) fu out (.slice As (st.take (st.length - 1)).length cs) vo := by
  have hr := Kd.R_take (m := st.length - 1) h.rs (by omega)
  have hk := h.blk
  rw [show st.length - 1 = (st.take (st.length - 1)).length by simp] at hr
  exact ⟨blk_put hk 3 _ rfl, h.ge, below_set h.bel h.ge, Kd.R_set (by simpa using hr) hk (by decide) 3 _, Kd.R_set h.ro hk (by decide) 3 _⟩

set_option maxHeartbeats 8000000 in
set_option maxRecDepth 100000 in
theorem machine_pop.calls (w0 w : World) (g : Nat) (a : Int) (b : ByteArray) (v : Int) (st : List Int) (fu : Int) (out : List S50) (vs vo : Value) (x : Int) (st' : List Int) (h : Mach w0 w g a b v st fu out vs vo) (hp : pop1 st = some (x, st')) :
    Calls Try.prog 59 #[.pointer (some ⟨g, 0, none⟩)] w fun e w' => e = .returned (.int .i64 x) ∧ (∃ vs', Mach w0 w' g a b v st' fu out vs' vo) ∧ KeepBut w w' g none := by
  obtain ⟨As, cs, rfl⟩ := Kd.R_slice h.rs
  obtain ⟨⟨hp0, hp1⟩, rfl, rfl⟩ := pop1_some hp
  have HM := Aside0.mk h
  clear h hp
  have hz3 : w.cell? ⟨g, 3, none⟩ = some (.slice As st.length cs) := (blk_cell HM.out.blk 3).trans rfl
  have hf3 := blk_frozen HM.out.blk 3
  have p1 : 0 ≤ (st.length : Int) - 1 := by omega
  have q1 : (st.length : Int) - 1 < st.length := by omega
  have e1 : wrap64 ((st.length : Int) - 1) = (st.length : Int) - 1 := by unfold wrap64; omega
  obtain ⟨ad, ea, hx⟩ := Kd.at_int (Kd.R_reads' HM.out.rs).2.2 ((st.length : Int) - 1) p1 q1
  cases ea
  have hc : ((st.length : Int) - 1).toNat = st.length - 1 := by omega
  rw [hc] at hx
  have hcap := (Kd.R_reads' HM.out.rs).2.1
  have HN := Aside0.mk HM.out.pop
  rw [List.length_take, Nat.min_eq_left (by omega)] at HN
  go_enter Try.func59, Try.ntmps59
  go_wp2
  go_ret
  exact ⟨rfl, ⟨_, HN.out⟩, (KeepBut.refl w g none).set_ 3 _⟩

set_option maxHeartbeats 8000000 in
set_option maxRecDepth 100000 in
theorem machine_value.calls (w0 w : World) (g : Nat) (a : Int) (b : ByteArray) (v : Int) (st : List Int) (fu : Int) (out : List S50) (vs vo : Value) (x0 x1 : Int) (A : Option Addr) (c : Nat) (l : List S34) (h : Mach w0 w g a b v st fu out vs vo) :
    Calls Try.prog 58 #[.pointer (some ⟨g, 0, none⟩), .agg #[.int .i64 x0, .int .i64 x1, .slice A l.length c]] w fun e w' => e = .returned (.int .i64 (mvalue x0 x1 a b v)) ∧ Mach w0 w' g a b v st fu out vs vo := by
  have hu34 := Try.underlying34
  have HM := Aside0.mk h
  clear h
  go_enter Try.func58, Try.ntmps58
  go_upto_region 1 with (first | ((with_reducible refine gate_dst (N := 3) rfl ?_); refine box_event ?hg (N := 3) ?hd (cs := #[.int .i64 x0, .int .i64 x1, .slice A l.length c]) (t := 34) ?hr ?_; (case hd => rfl); (case hg => rfl); (case hr => first | (go_simp; done) | (go_simp; rfl)); intro gb hg w4 hbox hb; have GB := Aside0.mk hbox; have HM4 := Aside0.mk (HM.out.below hb); clear hbox hb hg))
  have hx0 : w4.cell? ⟨gb, 0, none⟩ = some (.int .i64 x0) := (blk_cell GB.out 0).trans rfl
  have hx1 : w4.cell? ⟨gb, 1, none⟩ = some (.int .i64 x1) := (blk_cell GB.out 1).trans rfl
  have hz0 : w4.cell? ⟨g, 0, none⟩ = some (.int .i64 a) := (blk_cell HM4.out.blk 0).trans rfl
  have hz1 : w4.cell? ⟨g, 1, none⟩ = some (.string b) := (blk_cell HM4.out.blk 1).trans rfl
  have hz2 : w4.cell? ⟨g, 2, none⟩ = some (.int .i64 v) := (blk_cell HM4.out.blk 2).trans rfl
  by_cases c1 : x0 = 1
  · subst c1
    go_wp2
    go_ret
    exact ⟨rfl, HM4.out⟩
  · have c1b0 : (x0 == 1) = false := beq_eq_false_iff_ne.mpr c1
    by_cases c2 : x0 = 2
    · subst c2
      go_wp2
      go_ret
      exact ⟨rfl, HM4.out⟩
    · have c2b0 : (x0 == 2) = false := beq_eq_false_iff_ne.mpr c2
      by_cases c3 : x0 = 3
      · subst c3
        go_wp2
        go_ret
        exact ⟨rfl, HM4.out⟩
      · have c3b0 : (x0 == 3) = false := beq_eq_false_iff_ne.mpr c3
        go_wp2
        go_ret
        exact ⟨by simp [mvalue, c1, c2, c3], HM4.out⟩

set_option maxHeartbeats 8000000 in
set_option maxRecDepth 100000 in
theorem machine_emit.calls (w0 w : World) (g : Nat) (a : Int) (b : ByteArray) (v : Int) (st : List Int) (fu : Int) (out : List S50) (vs vo : Value) (x y : Int) (st1 st2 : List Int) (h : Mach w0 w g a b v st fu out vs vo) (hp : pop1 st = some (x, st1)) (hq : pop1 st1 = some (y, st2)) (hl : out.length < 1000000) :
    Calls Try.prog 65 #[.pointer (some ⟨g, 0, none⟩)] w fun e w' => ∃ vs' vo', e = .returned (.int .i64 (if out.length = 256 then 2 else 0)) ∧ Mach w0 w' g a b v st2 fu (if out.length = 256 then out else out ++ [⟨⟨y, b⟩, x⟩]) vs' vo' := by
  have hu48 := Try.underlying48
  have hu50 := Try.underlying50
  obtain ⟨Ao, co, rfl⟩ := Kd.R_slice h.ro
  have HM := Aside0.mk h
  clear h
  by_cases cO : out.length = 256
  · have c0b0 : ((out.length : Int) == 256) = true := beq_iff_eq.mpr (by omega)
    rw [if_pos cO, if_pos cO]
    go_enter Try.func65, Try.ntmps65
    go_wp2_with (first | ((with_reducible refine gate_callee (f := 59) rfl ?_); refine goesL_ (some 6) rfl rfl Try.func59 (by kernel_rfl) rfl #[.pointer (some ⟨g, 0, none⟩)] rfl (by (try simp only [List.map_toArray, List.map_cons, List.map_nil]); first | done | rfl) ?_; (with_reducible refine (machine_pop.calls w0 _ g a b v st fu out _ _ x st1 HM.out hp).mono ?_); rintro e w5 ⟨rfl, ⟨vs5, hm5⟩, _⟩; refine ⟨_, rfl, ?_⟩; have HM5 := Aside0.mk hm5; clear hm5 HM) | ((with_reducible refine gate_callee (f := 59) rfl ?_); refine goesL_ (some 8) rfl rfl Try.func59 (by kernel_rfl) rfl #[.pointer (some ⟨g, 0, none⟩)] rfl (by (try simp only [List.map_toArray, List.map_cons, List.map_nil]); first | done | rfl) ?_; (with_reducible refine (machine_pop.calls w0 _ g a b v st1 fu out _ _ y st2 HM5.out hq).mono ?_); rintro e w7 ⟨rfl, ⟨vs7, hm7⟩, _⟩; refine ⟨_, rfl, ?_⟩; have HM7 := Aside0.mk hm7; clear hm7 HM5; have hz5 : w7.cell? ⟨g, 5, none⟩ = some (.slice Ao out.length co) := (blk_cell HM7.out.blk 5).trans rfl; have hz1 : w7.cell? ⟨g, 1, none⟩ = some (.string b) := (blk_cell HM7.out.blk 1).trans rfl))
    go_ret
    exact ⟨_, _, rfl, HM7.out⟩
  · have c0b0 : ((out.length : Int) == 256) = false := beq_eq_false_iff_ne.mpr (by omega)
    rw [if_neg cO, if_neg cO]
    go_enter Try.func65, Try.ntmps65
    go_wp2_with (first | ((with_reducible refine gate_callee (f := 59) rfl ?_); refine goesL_ (some 6) rfl rfl Try.func59 (by kernel_rfl) rfl #[.pointer (some ⟨g, 0, none⟩)] rfl (by (try simp only [List.map_toArray, List.map_cons, List.map_nil]); first | done | rfl) ?_; (with_reducible refine (machine_pop.calls w0 _ g a b v st fu out _ _ x st1 HM.out hp).mono ?_); rintro e w5 ⟨rfl, ⟨vs5, hm5⟩, _⟩; refine ⟨_, rfl, ?_⟩; have HM5 := Aside0.mk hm5; clear hm5 HM) | ((with_reducible refine gate_callee (f := 59) rfl ?_); refine goesL_ (some 8) rfl rfl Try.func59 (by kernel_rfl) rfl #[.pointer (some ⟨g, 0, none⟩)] rfl (by (try simp only [List.map_toArray, List.map_cons, List.map_nil]); first | done | rfl) ?_; (with_reducible refine (machine_pop.calls w0 _ g a b v st1 fu out _ _ y st2 HM5.out hq).mono ?_); rintro e w7 ⟨rfl, ⟨vs7, hm7⟩, _⟩; refine ⟨_, rfl, ?_⟩; have HM7 := Aside0.mk hm7; clear hm7 HM5; have hz5 : w7.cell? ⟨g, 5, none⟩ = some (.slice Ao out.length co) := (blk_cell HM7.out.blk 5).trans rfl; have hz1 : w7.cell? ⟨g, 1, none⟩ = some (.string b) := (blk_cell HM7.out.blk 1).trans rfl))
    have hal : (w7.alloc (Obj.cells #[.int .i64 y, .string b, .int .i64 x] 50)).cell? ⟨g, 5, none⟩ = some (.slice Ao out.length co) := (World.cell?_alloc_lt _ _ _ (World.block_lt_of_cell? _ _ hz5)).trans hz5
    go_region_law (first | ((refine Kd.R_append_step k50 (w0 := w0) (W := w7.drew) w0.heap.size (by rfl) (.tmp 19) (.tmp 30) 41 50 (.agg #[(.int .i64 0), (.string ⟨#[]⟩), (.int .i64 0)]) 32 (by rfl) Try.underlying41 info50h (by rfl) (by decide) (by omega) (.slice Ao out.length co) out ⟨⟨y, b⟩, x⟩ [.int .i64 y, .string b, .int .i64 x] (fun _ => True) (fun _ => False) (by rfl) (by rfl) (k50_mkM _ _ _ (⟨⟨y, b⟩, x⟩ : S50)) (fun _ hk => hk.elim) (fun _ _ => trivial) (by first | exact HM7.out.ro | exact HM7.out.drew.ro) (by first | exact HM7.out.bel | exact HM7.out.drew.bel) (below_size HM7.out.drew.bel) (by omega) ?_; intro v1 w1 ho hb hg hat; obtain ⟨A1, c1, rfl⟩ := Kd.R_slice ho; have hk1 := (by first | exact blk_grown HM7.out.blk hg (Kd.R_ne HM7.out.ro HM7.out.blk (by decide)) | exact blk_grown HM7.out.drew.blk hg (Kd.R_ne HM7.out.drew.ro HM7.out.drew.blk (by decide)) : w1.heap[g]? = some (.cells #[.int .i64 a, .string b, .int .i64 v, vs7, .int .i64 fu, .slice Ao out.length co] 82 (0, 0))); have hy5 : w1.cell? ⟨g, 5, none⟩ = some (.slice Ao out.length co) := (blk_cell hk1 5).trans rfl; have hy1 : w1.cell? ⟨g, 1, none⟩ = some (.string b) := (blk_cell hk1 1).trans rfl; have hf5 := blk_frozen hk1 5; have HN := Aside0.mk (by first | exact HM7.out.setOut ho hb hg | exact HM7.out.drew.setOut ho hb hg : Mach w0 (w1.setCell ⟨g, 5, none⟩ (.slice A1 (out ++ [(⟨⟨y, b⟩, x⟩ : S50)]).length c1)) g a b v st2 fu (out ++ [(⟨⟨y, b⟩, x⟩ : S50)]) vs7 (.slice A1 (out ++ [(⟨⟨y, b⟩, x⟩ : S50)]).length c1)); clear ho hb hg hat hk1)))
    all_goals (go_wp2; go_ret; exact ⟨_, _, rfl, by first | simpa using HN.out.drew | simpa using HN.out⟩)

theorem machine_emit.calls' (w0 w : World) (g : Nat) (a : Int) (b : ByteArray) (v : Int) (st : List Int) (fu : Int) (out : List S50) (vs vo : Value) (x y : Int) (st1 st2 : List Int) (r : Int × List Int × Int × List S50) (h : Mach w0 w g a b v st fu out vs vo) (hp : pop1 st = some (x, st1)) (hq : pop1 st1 = some (y, st2)) (hr : (if out.length = 256 then some (2, st2, fu, out) else if out.length < 1000000 then some (0, st2, fu, out ++ [⟨⟨y, b⟩, x⟩]) else none) = some r) :
    Calls Try.prog 65 #[.pointer (some ⟨g, 0, none⟩)] w fun e w' => ∃ vs' vo', e = .returned (.int .i64 r.1) ∧ Mach w0 w' g a b v r.2.1 r.2.2.1 r.2.2.2 vs' vo' := by
  by_cases c : out.length = 256
  · rw [if_pos c] at hr
    obtain rfl := Option.some.inj hr
    refine (machine_emit.calls w0 w g a b v st fu out vs vo x y st1 st2 h hp hq (by omega)).mono ?_
    rintro e w' ⟨vs', vo', rfl, hm⟩
    rw [if_pos c] at hm
    exact ⟨vs', vo', by rw [if_pos c], hm⟩
  · rw [if_neg c] at hr
    split at hr
    case isFalse => simp at hr
    case isTrue hl =>
    obtain rfl := Option.some.inj hr
    refine (machine_emit.calls w0 w g a b v st fu out vs vo x y st1 st2 h hp hq hl).mono ?_
    rintro e w' ⟨vs', vo', rfl, hm⟩
    rw [if_neg c] at hm
    exact ⟨vs', vo', by rw [if_neg c], hm⟩

end Go.Proofs.Ytchgjkfnmifgkaa.QE
