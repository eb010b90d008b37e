/- Which ops may be, and how many there are: what the program's count and the page's come to, in plain Lean.
   Which ops may be: the page's count, in plain Lean.
   What ops take and leave: the program's and the page's, in plain Lean.
   What a program that checks does to the stack, op by op.
   A program that checks runs to an end, and two machines that make the same of two numbers, and of one, run alike.
   A program that checks runs to an end on any fuel: two machines that make the same of two numbers, and of one, run alike. -/
import Derived.Test.YtchgjkfnmifgkaaTyQE
import Derived.Test.YtchgjkfnmifgkaaQEx3
import Derived.Test.YtchgjkfnmifgkaaQEx2
import Derived.Test.YtchgjkfnmifgkaaQEx6
import Derived.Test.YtchgjkfnmifgkaaHMach
namespace Go.Proofs.Ytchgjkfnmifgkaa.QE
open Go.RowKit Go.Proofs.YtchgjkfnmifgkaaW.PrintWords Go.Proofs.YtchgjkfnmifgkaaW.PrintLast Go.Proofs.YtchgjkfnmifgkaaW.PrintMore
set_option linter.unusedVariables false
set_option linter.unusedSimpArgs false

/-- A list of ops, to go through by what it holds. -/
inductive Tr : List S34 → Prop
 | nil : Tr []
 | cons {x : S34} {xs : List S34} (hl : x.f2.length < 140737488355328) (hb : Tr x.f2) (hs : Tr xs) : Tr (x :: xs)

theorem Tr.of_all : ∀ {l : List S34}, (∀ y ∈ l, y.f2.length < 140737488355328 ∧ Tr y.f2) → Tr l
 | [], _ => .nil
 | x :: xs, h => .cons (h x List.mem_cons_self).1 (h x List.mem_cons_self).2 (Tr.of_all (fun y hy => h y (List.mem_cons_of_mem _ hy)))
theorem Good34.len {x : S34} (h : Good34 x) : x.f2.length < 140737488355328 := by
 cases h with
 | mk h _ => omega
theorem Good34.tr {x : S34} (h : Good34 x) : Tr x.f2 := by
 induction h with
 | mk h hs ih => exact Tr.of_all (fun y hy => ⟨(hs y hy).len, ih y hy⟩)
theorem Tr.of_good {l : List S34} (h : ∀ y ∈ l, Good34 y) : Tr l := Tr.of_all (fun y hy => ⟨(h y hy).len, (h y hy).tr⟩)

/-- An op that may be, its block aside. -/
def okOp (x : S34) : Prop := (1 ≤ x.f0 ∧ x.f0 ≤ 30) ∧ (x.f1 = 0 ∨ x.f0 = 1) ∧ (x.f2 = [] ∨ x.f0 = 28 ∨ x.f0 = 29)
instance (x : S34) : Decidable (x.f2 = []) := match h : x.f2 with
 | [] => isTrue rfl
 | _ :: _ => isFalse (by simp)
instance (x : S34) : Decidable (okOp x) := by unfold okOp; infer_instance

/-- So many ops that may be, from a depth on. -/
inductive Okl : Int → List S34 → Int → Prop
 | nil {d : Int} : Okl d [] 0
 | plain {d : Int} {x : S34} {xs : List S34} {n : Int} (hk : okOp x) (hnb : ¬ (x.f0 = 28 ∨ x.f0 = 29)) (hs : Okl d xs n) : Okl d (x :: xs) (n + 1)
 | block {d : Int} {x : S34} {xs : List S34} {m n : Int} (hk : okOp x) (hb : x.f0 = 28 ∨ x.f0 = 29) (hd : d < 6) (hm : Okl (d + 1) x.f2 m) (hs : Okl d xs n) : Okl d (x :: xs) (m + n + 1)

theorem Okl.ge {d : Int} {l : List S34} {n : Int} (h : Okl d l n) : 0 ≤ n := by
 induction h with
 | nil => omega
 | plain _ _ _ ih => omega
 | block _ _ _ _ _ ih1 ih2 => omega

theorem lc_step (k : Nat) (d acc : Int) (L : List S34) (i : Nat) (hi : i < L.length) : lang_count.l0 (k + 1) d acc L (L.length : Int) (i : Int) = lang_count.j1 k d (wrap64 (acc + 1)) (decide (okOp (rd_T34 L i))) L (L.length : Int) (i : Int) (rd_T34 L i).f0 (rd_T34 L i).f1 (rd_T34 L i).f2 := by
 rw [lang_count.l0]
 rw [if_pos (by omega), if_pos (by omega), if_pos (by omega)]
 generalize rd_T34 L (i : Int) = x
 obtain ⟨f0, f1, f2⟩ := x
 dsimp only
 have hlb : lang_block.f f0 = some (decide (f0 = 28 ∨ f0 = 29)) := by
  unfold lang_block.f
  by_cases h : f0 = 28
  ·
   simp [h]
  ·
   by_cases h2 : f0 = 29 <;> simp [h, h2]
 by_cases h1 : f0 ≥ 1
 ·
  rw [if_pos h1]
  by_cases h2 : f0 ≤ 30
  ·
   rw [if_pos h2]
   by_cases h3 : f1 = 0
   ·
    rw [if_pos h3]
    cases f2 with
    | nil =>
     rw [if_pos (by simp), show decide (okOp ⟨f0, f1, []⟩) = true from decide_eq_true ⟨⟨h1, h2⟩, .inl h3, .inl rfl⟩]
    | cons y ys =>
     rw [if_neg (by simp; omega), hlb, Option.bind_some]
     congr 1
     by_cases h5 : f0 = 28 ∨ f0 = 29
     ·
      rw [decide_eq_true h5]; exact (decide_eq_true (show okOp ⟨f0, f1, y :: ys⟩ from ⟨⟨h1, h2⟩, .inl h3, .inr h5⟩)).symm
     ·
      rw [decide_eq_false h5]; exact (decide_eq_false (fun h : okOp ⟨f0, f1, y :: ys⟩ => h.2.2.elim (by simp) h5)).symm
   ·
    rw [if_neg h3]
    by_cases h4 : f0 = 1
    ·
     rw [if_pos h4]
     cases f2 with
     | nil =>
      rw [if_pos (by simp), show decide (okOp ⟨f0, f1, []⟩) = true from decide_eq_true ⟨⟨h1, h2⟩, .inr h4, .inl rfl⟩]
     | cons y ys =>
      rw [if_neg (by simp; omega), hlb, Option.bind_some]
      congr 1
      by_cases h5 : f0 = 28 ∨ f0 = 29
      ·
       rw [decide_eq_true h5]; exact (decide_eq_true (show okOp ⟨f0, f1, y :: ys⟩ from ⟨⟨h1, h2⟩, .inr h4, .inr h5⟩)).symm
      ·
       rw [decide_eq_false h5]; exact (decide_eq_false (fun h : okOp ⟨f0, f1, y :: ys⟩ => h.2.2.elim (by simp) h5)).symm
    ·
     rw [if_neg h4, show decide (okOp ⟨f0, f1, f2⟩) = false from decide_eq_false (fun h => h.2.1.elim h3 h4)]
  ·
   rw [if_neg h2, show decide (okOp ⟨f0, f1, f2⟩) = false from decide_eq_false (fun h => h2 h.1.2)]
 ·
  rw [if_neg h1, show decide (okOp ⟨f0, f1, f2⟩) = false from decide_eq_false (fun h => h1 h.1.1)]

/-- What the count of ops comes to: so many, if they may be and are not too many; else more than may be. -/
def Cnt (d : Int) (xs : List S34) (acc c : Int) : Prop := (∃ n, Okl d xs n ∧ acc + n ≤ 128 ∧ c = acc + n) ∨ ((∀ n, Okl d xs n → 128 < acc + n) ∧ 128 < c)

theorem Okl.nil_inv {d n : Int} (h : Okl d [] n) : n = 0 := by cases h; rfl
theorem Okl.cons_inv {d : Int} {x : S34} {xs : List S34} {n : Int} (h : Okl d (x :: xs) n) : okOp x ∧ ((¬ (x.f0 = 28 ∨ x.f0 = 29) ∧ ∃ k, Okl d xs k ∧ n = k + 1) ∨ ((x.f0 = 28 ∨ x.f0 = 29) ∧ d < 6 ∧ ∃ m k, Okl (d + 1) x.f2 m ∧ Okl d xs k ∧ n = m + k + 1)) := by
 cases h with
 | plain hk hnb hs => exact ⟨hk, .inl ⟨hnb, _, hs, rfl⟩⟩
 | block hk hb hd hm hs => exact ⟨hk, .inr ⟨hb, hd, _, _, hm, hs, rfl⟩⟩
theorem Okl.uniq {d : Int} {l : List S34} {n : Int} (h : Okl d l n) : ∀ {n' : Int}, Okl d l n' → n = n' := by
 induction h with
 | nil => intro n' h'; exact h'.nil_inv.symm
 | plain hk hnb hs ih =>
  intro n' h'
  obtain ⟨_, h | h⟩ := h'.cons_inv
  ·
   obtain ⟨_, k, hk', rfl⟩ := h
   rw [ih hk']
  ·
   exact absurd h.1 hnb
 | block hk hb hd hm hs ihm ihs =>
  intro n' h'
  obtain ⟨_, h | h⟩ := h'.cons_inv
  ·
   exact absurd hb h.1
  ·
   obtain ⟨_, _, m, k, hm', hk', rfl⟩ := h
   rw [ihm hm', ihs hk']
theorem lang_block_eq (f0 : Int) : lang_block.f f0 = some (decide (f0 = 28 ∨ f0 = 29)) := by
 unfold lang_block.f
 by_cases h : f0 = 28
 ·
  simp [h]
 ·
  by_cases h2 : f0 = 29 <;> simp [h, h2]
theorem lc_ev {xs : List S34} (h : Tr xs) : ∀ (d acc : Int) (L : List S34) (i : Nat), L.drop i = xs → L.length < 140737488355328 → 0 ≤ d → d ≤ 7 → 0 ≤ acc → acc ≤ 128 * (9 - d) + 1 → (d = 7 → xs = []) →
  ∃ c, Ev (fun k => lang_count.l0 k d acc L (L.length : Int) (i : Int)) c ∧ Cnt d xs acc c ∧ 0 ≤ c ∧ c ≤ 128 * (9 - d) + 1 := by
 induction h with
 | nil =>
  intro d acc L i hL hlen h0 h6 ha0 ha1 _
  have hi : L.length ≤ i := by simpa using List.drop_eq_nil_iff.mp hL
  refine ⟨acc, Ev.step (f := fun _ => some acc) (fun k => by rw [lang_count.l0, if_neg (by omega)]) (Ev.now _), ?_, ha0, ha1⟩
  by_cases h : acc ≤ 128
  ·
   exact .inl ⟨0, .nil, by omega, by omega⟩
  ·
   exact .inr ⟨fun n hn => by have := hn.ge; omega, by omega⟩
 | @cons x xs hl hb hs ihb ihs =>
  intro d acc L i hL hlen h0 h6 ha0 ha1 h7
  have hi : i < L.length := by
   rcases Nat.lt_or_ge i L.length with h | h
   ·
    exact h
   ·
    rw [List.drop_eq_nil_of_le h] at hL; simp at hL
  have hx : rd_T34 L (i : Int) = x := by
   unfold rd_T34
   rw [List.getD_eq_getElem?_getD]
   rw [List.drop_eq_getElem_cons hi] at hL
   simp only [List.cons.injEq] at hL
   simp [hi, hL.1]
  have hL2 : L.drop (i + 1) = xs := by
   rw [List.drop_eq_getElem_cons hi] at hL
   simp only [List.cons.injEq] at hL
   exact hL.2
  have hd6 : d ≤ 6 := by
   rcases Int.lt_or_le d 7 with h | h
   ·
    omega
   ·
    exact absurd (h7 (by omega)) (by simp)
  have ha1' : wrap64 (acc + 1) = acc + 1 := by unfold wrap64; omega
  have hi1 : wrap64 ((i : Int) + 1) = ((i + 1 : Nat) : Int) := by unfold wrap64; omega
  have hd1 : wrap64 (d + 1) = d + 1 := by unfold wrap64; omega
  by_cases hok : okOp x
  ·
   by_cases hm : acc + 1 > 128
   ·
    refine ⟨129, Ev.step (fun k => lc_step k d acc L i hi) (Ev.step (f := fun _ => some 129) (fun k => by rw [lang_count.j1, hx, decide_eq_true hok, if_pos rfl, ha1', if_pos hm]) (Ev.now _)), .inr ⟨fun n hn => ?_, by omega⟩, by omega, by omega⟩
    obtain ⟨_, h | h⟩ := hn.cons_inv
    ·
     obtain ⟨_, k, hk, rfl⟩ := h; have := hk.ge; omega
    ·
     obtain ⟨_, _, m, k, hm2, hk, rfl⟩ := h; have := hk.ge; have := hm2.ge; omega
   ·
    by_cases hb2 : x.f0 = 28 ∨ x.f0 = 29
    ·
     by_cases h6' : d = 6
     ·
      refine ⟨129, Ev.step (fun k => lc_step k d acc L i hi) (Ev.step (f := fun _ => some 129) (fun k => by rw [lang_count.j1, hx, decide_eq_true hok, if_pos rfl, ha1', if_neg hm, lang_block_eq, Option.bind_some, decide_eq_true hb2, if_pos rfl, if_pos h6']) (Ev.now _)), .inr ⟨fun n hn => ?_, by omega⟩, by omega, by omega⟩
      obtain ⟨_, h | h⟩ := hn.cons_inv
      ·
       exact absurd hb2 h.1
      ·
       obtain ⟨_, h, _⟩ := h; omega
     ·
      obtain ⟨c1, hev1, hc1, hc10, hc11⟩ := ihb (d + 1) 0 x.f2 0 rfl hl (by omega) (by omega) (by omega) (by omega) (fun h => by omega)
      have hw : wrap64 (acc + 1 + c1) = acc + 1 + c1 := by unfold wrap64; omega
      obtain ⟨c2, hev2, hc2, hc20, hc21⟩ := ihs d (acc + 1 + c1) L (i + 1) hL2 hlen h0 h6 (by omega) (by omega) (fun h => by omega)
      refine ⟨c2, Ev.step (fun k => lc_step k d acc L i hi) (Ev.step (f := fun k => (lang_count.f k x.f2 (d + 1)).bind fun t => lang_count.l0 k d (wrap64 (acc + 1 + t)) L (L.length : Int) ((i + 1 : Nat) : Int)) (fun k => by rw [lang_count.j1, hx, decide_eq_true hok, if_pos rfl, ha1', if_neg hm, lang_block_eq, Option.bind_some, decide_eq_true hb2, if_pos rfl, if_neg h6', hd1, hi1]) (Ev.bind (a := c1) (Ev.step (f := fun k => lang_count.l0 k (d + 1) 0 x.f2 (x.f2.length : Int) ((0 : Nat) : Int)) (fun k => rfl) hev1) (by simp only [hw]; exact hev2))), ?_, hc20, hc21⟩
      rcases hc1 with ⟨m, hm1, hm2, rfl⟩ | ⟨hn1, hn2⟩
      ·
       rcases hc2 with ⟨n, hn1, hn2, rfl⟩ | ⟨hn1, hn2⟩
       ·
        exact .inl ⟨m + n + 1, .block hok hb2 (by omega) hm1 hn1, by omega, by omega⟩
       ·
        refine .inr ⟨fun n hn => ?_, hn2⟩
        obtain ⟨_, h | h⟩ := hn.cons_inv
        ·
         exact absurd hb2 h.1
        ·
         obtain ⟨_, _, m', k', hm', hk', rfl⟩ := h
         have := hn1 k' hk'
         have := hm1.uniq hm'
         omega
      ·
       refine .inr ⟨fun n hn => ?_, ?_⟩
       ·
        obtain ⟨_, h | h⟩ := hn.cons_inv
        ·
         exact absurd hb2 h.1
        ·
         obtain ⟨_, _, m', k', hm', hk', rfl⟩ := h
         have := hn1 m' hm'
         have := hk'.ge
         omega
       ·
        rcases hc2 with ⟨n, hn1', hn2', rfl⟩ | ⟨_, h⟩
        ·
         have := hn1'.ge; omega
        ·
         exact h
    ·
     have hnil : x.f2 = [] := by
      rcases hok.2.2 with h | h
      ·
       exact h
      ·
       exact absurd h hb2
     obtain ⟨c1, hev1, hc1, hc10, hc11⟩ := ihb (d + 1) 0 x.f2 0 rfl hl (by omega) (by omega) (by omega) (by omega) (fun h => hnil)
     have hc0 : c1 = 0 := by
      rw [hnil] at hc1
      rcases hc1 with ⟨n, hn, _, rfl⟩ | ⟨h, _⟩
      ·
       have := hn.nil_inv; omega
      ·
       have := h 0 .nil; omega
     subst hc0
     have hw : wrap64 (acc + 1 + 0) = acc + 1 := by unfold wrap64; omega
     obtain ⟨c2, hev2, hc2, hc20, hc21⟩ := ihs d (acc + 1) L (i + 1) hL2 hlen h0 h6 (by omega) (by omega) (fun h => by omega)
     refine ⟨c2, Ev.step (fun k => lc_step k d acc L i hi) (Ev.step (f := fun k => (lang_count.f k x.f2 (d + 1)).bind fun t => lang_count.l0 k d (wrap64 (acc + 1 + t)) L (L.length : Int) ((i + 1 : Nat) : Int)) (fun k => by rw [lang_count.j1, hx, decide_eq_true hok, if_pos rfl, ha1', if_neg hm, lang_block_eq, Option.bind_some, decide_eq_false hb2, if_neg (by decide), hd1, hi1]) (Ev.bind (a := 0) (Ev.step (f := fun k => lang_count.l0 k (d + 1) 0 x.f2 (x.f2.length : Int) ((0 : Nat) : Int)) (fun k => rfl) hev1) (by simp only [hw]; exact hev2))), ?_, hc20, hc21⟩
     rcases hc2 with ⟨n, hn1, hn2, rfl⟩ | ⟨hn1, hn2⟩
     ·
      exact .inl ⟨n + 1, .plain hok hb2 hn1, by omega, by omega⟩
     ·
      refine .inr ⟨fun n hn => ?_, hn2⟩
      obtain ⟨_, h | h⟩ := hn.cons_inv
      ·
       obtain ⟨_, k', hk', rfl⟩ := h
       have := hn1 k' hk'
       omega
      ·
       exact absurd h.1 hb2
  ·
   refine ⟨129, Ev.step (fun k => lc_step k d acc L i hi) (Ev.step (f := fun _ => some 129) (fun k => by rw [lang_count.j1, hx, decide_eq_false hok, if_neg (by decide)]) (Ev.now _)), .inr ⟨fun n hn => absurd hn.cons_inv.1 hok, by omega⟩, by omega, by omega⟩

/-- Whether a list of ops may be. -/
def Fits (l : List S34) : Prop := ∃ n, Okl 0 l n ∧ n ≤ 128

theorem lang_check_ev {l : List S34} (h : Tr l) (hl : l.length < 140737488355328) : ∃ e, Ev (fun k => lang_Check.f k l) e ∧ ((e = 0 ∧ Fits l) ∨ (e = 1 ∧ ¬ Fits l)) := by
 obtain ⟨c, hev, hc, h0, h1⟩ := lc_ev h 0 0 l 0 rfl hl (by omega) (by omega) (by omega) (by omega) (fun h => by omega)
 have hf : Ev (fun k => lang_count.f k l 0) c := Ev.step (f := fun k => lang_count.l0 k 0 0 l (l.length : Int) ((0 : Nat) : Int)) (fun k => rfl) hev
 rcases hc with ⟨n, hn, hn2, rfl⟩ | ⟨hn, hc⟩
 ·
  refine ⟨0, ?_, .inl ⟨rfl, n, hn, by omega⟩⟩
  refine Ev.congr (f := fun k => ((lang_count.f k l 0).bind fun t => if t > 128 then some (0, 1) else some (t, 0)).bind fun b => some b.2) (fun k => rfl) ?_
  exact Ev.bind (a := (0 + n, 0)) (Ev.bind (a := 0 + n) hf (by simp only [if_neg (show ¬ (0 + n > 128) by omega)]; exact Ev.now _)) (Ev.now _)
 ·
  refine ⟨1, ?_, .inr ⟨rfl, fun ⟨n, hn', hn2⟩ => by have := hn n hn'; omega⟩⟩
  refine Ev.congr (f := fun k => ((lang_count.f k l 0).bind fun t => if t > 128 then some (0, 1) else some (t, 0)).bind fun b => some b.2) (fun k => rfl) ?_
  exact Ev.bind (a := (0, 1)) (Ev.bind (a := c) hf (by simp only [if_pos (show c > 128 by omega)]; exact Ev.now _)) (Ev.now _)

end Go.Proofs.Ytchgjkfnmifgkaa.QE

namespace Go.Proofs.Ytchgjkfnmifgkaa.QE
open Go.RowKit Go.Proofs.YtchgjkfnmifgkaaW.PrintWords Go.Proofs.YtchgjkfnmifgkaaW.PrintLast Go.Proofs.YtchgjkfnmifgkaaW.PrintMore
set_option linter.unusedVariables false
set_option linter.unusedSimpArgs false

theorem rc_j1 (k : Nat) (L : List S34) (d many i : Int) (x : S34) : thresherref6_count.j1 (k + 1) L d many i (decide (x.f0 = 28 ∨ x.f0 = 29)) x.f0 x.f1 x.f2 = thresherref6_count.j2 k L d many i (decide (x.f0 = 28 ∨ x.f0 = 29)) (decide (¬ okOp x)) x.f0 x.f1 x.f2 := by
 rw [thresherref6_count.j1]
 obtain ⟨f0, f1, f2⟩ := x
 dsimp only
 have key : ∀ hN : f1 = 0 ∨ f0 = 1, 1 ≤ f0 → f0 ≤ 30 → (if decide (f0 = 28 ∨ f0 = 29) = true then thresherref6_count.j2 k L d many i (decide (f0 = 28 ∨ f0 = 29)) false f0 f1 f2 else thresherref6_count.j2 k L d many i (decide (f0 = 28 ∨ f0 = 29)) (decide ((f2.length : Int) > 0)) f0 f1 f2) = thresherref6_count.j2 k L d many i (decide (f0 = 28 ∨ f0 = 29)) (decide (¬ okOp ⟨f0, f1, f2⟩)) f0 f1 f2 := by
  intro hN h1 h2
  by_cases h5 : f0 = 28 ∨ f0 = 29
  ·
   rw [if_pos (decide_eq_true h5)]
   congr 1
   exact (decide_eq_false (fun h : ¬ okOp ⟨f0, f1, f2⟩ => h ⟨⟨h1, h2⟩, hN, .inr h5⟩)).symm
  ·
   rw [if_neg (by simpa using h5)]
   congr 1
   cases f2 with
   | nil => exact (decide_eq_false (by simp)).trans (decide_eq_false (fun h : ¬ okOp ⟨f0, f1, []⟩ => h ⟨⟨h1, h2⟩, hN, .inl rfl⟩)).symm
   | cons y ys => exact (decide_eq_true (by simp)).trans (decide_eq_true (show ¬ okOp ⟨f0, f1, y :: ys⟩ from fun h => h.2.2.elim (by simp) h5)).symm
 by_cases h1 : f0 < 1
 ·
  rw [if_pos h1, decide_eq_true (show ¬ okOp ⟨f0, f1, f2⟩ from fun h => by have := h.1.1; dsimp only at this; omega)]
 ·
  rw [if_neg h1]
  by_cases h2 : f0 > 30
  ·
   rw [if_pos h2, decide_eq_true (show ¬ okOp ⟨f0, f1, f2⟩ from fun h => by have := h.1.2; dsimp only at this; omega)]
  ·
   rw [if_neg h2]
   by_cases h3 : f0 = 1
   ·
    rw [if_pos h3]
    exact key (.inr h3) (by omega) (by omega)
   ·
    rw [if_neg h3]
    by_cases h4 : f1 = 0
    ·
     rw [if_pos h4]
     exact key (.inl h4) (by omega) (by omega)
    ·
     rw [if_neg h4, decide_eq_true (show ¬ okOp ⟨f0, f1, f2⟩ from fun h => h.2.1.elim h4 h3)]

theorem rc_step (k : Nat) (L : List S34) (d many : Int) (i : Nat) (hi : i < L.length) : thresherref6_count.l0 (k + 1) L d many (i : Int) = if wrap64 (many + 1) > 128 then some (wrap64 (many + 1), false) else thresherref6_count.j1 k L d (wrap64 (many + 1)) (i : Int) (decide ((rd_T34 L i).f0 = 28 ∨ (rd_T34 L i).f0 = 29)) (rd_T34 L i).f0 (rd_T34 L i).f1 (rd_T34 L i).f2 := by
 rw [thresherref6_count.l0, if_pos (by omega)]
 by_cases h : wrap64 (many + 1) > 128
 ·
  rw [if_pos h, if_pos h]
 ·
  rw [if_neg h, if_neg h, if_pos (by omega)]
  by_cases h2 : (rd_T34 L (i : Int)).f0 = 28
  ·
   rw [if_pos h2, decide_eq_true (show (rd_T34 L (i : Int)).f0 = 28 ∨ (rd_T34 L (i : Int)).f0 = 29 from .inl h2)]
  ·
   rw [if_neg h2]
   congr 1
   by_cases h3 : (rd_T34 L (i : Int)).f0 = 29 <;> simp [h2, h3]

def RCnt (d : Int) (xs : List S34) (many m : Int) (ok : Bool) : Prop := (ok = true ∧ ∃ n, Okl d xs n ∧ many + n ≤ 128 ∧ m = many + n) ∨ (ok = false ∧ ∀ n, Okl d xs n → 128 < many + n)

theorem rc_ev {xs : List S34} (h : Tr xs) : ∀ (d many : Int) (L : List S34) (i : Nat), L.drop i = xs → L.length < 140737488355328 → 0 ≤ d → d ≤ 6 → 0 ≤ many → many ≤ 128 →
  ∃ m ok, Ev (fun k => thresherref6_count.l0 k L d many (i : Int)) (m, ok) ∧ RCnt d xs many m ok := by
 induction h with
 | nil =>
  intro d many L i hL hlen h0 h6 ha0 ha1
  have hi : L.length ≤ i := by simpa using List.drop_eq_nil_iff.mp hL
  exact ⟨many, true, Ev.step (f := fun _ => some (many, true)) (fun k => by rw [thresherref6_count.l0, if_neg (by omega)]) (Ev.now _), .inl ⟨rfl, 0, .nil, by omega, by omega⟩⟩
 | @cons x xs hl hb hs ihb ihs =>
  intro d many L i hL hlen h0 h6 ha0 ha1
  have hi : i < L.length := by
   rcases Nat.lt_or_ge i L.length with h | h
   ·
    exact h
   ·
    rw [List.drop_eq_nil_of_le h] at hL; simp at hL
  have hx : rd_T34 L (i : Int) = x := by
   unfold rd_T34
   rw [List.getD_eq_getElem?_getD]
   rw [List.drop_eq_getElem_cons hi] at hL
   simp only [List.cons.injEq] at hL
   simp [hi, hL.1]
  have hL2 : L.drop (i + 1) = xs := by
   rw [List.drop_eq_getElem_cons hi] at hL
   simp only [List.cons.injEq] at hL
   exact hL.2
  have ha1' : wrap64 (many + 1) = many + 1 := by unfold wrap64; omega
  have hi1 : wrap64 ((i : Int) + 1) = ((i + 1 : Nat) : Int) := by unfold wrap64; omega
  have hd1 : wrap64 (d + 1) = d + 1 := by unfold wrap64; omega
  by_cases hm : many + 1 > 128
  ·
   refine ⟨many + 1, false, Ev.step (f := fun _ => some (many + 1, false)) (fun k => by rw [rc_step k L d many i hi, ha1', if_pos hm]) (Ev.now _), .inr ⟨rfl, fun n hn => ?_⟩⟩
   obtain ⟨_, h | h⟩ := hn.cons_inv
   ·
    obtain ⟨_, k, hk, rfl⟩ := h; have := hk.ge; omega
   ·
    obtain ⟨_, _, m, k, hm2, hk, rfl⟩ := h; have := hk.ge; have := hm2.ge; omega
  ·
   have st1 : ∀ k, thresherref6_count.l0 (k + 1 + 1) L d many (i : Int) = thresherref6_count.j2 k L d (many + 1) (i : Int) (decide (x.f0 = 28 ∨ x.f0 = 29)) (decide (¬ okOp x)) x.f0 x.f1 x.f2 := fun k => by
    rw [rc_step (k + 1) L d many i hi, ha1', if_neg hm, hx, rc_j1]
   have two : ∀ {r : Int × Bool} {f : Nat → Option (Int × Bool)}, (∀ k, thresherref6_count.j2 (k + 1) L d (many + 1) (i : Int) (decide (x.f0 = 28 ∨ x.f0 = 29)) (decide (¬ okOp x)) x.f0 x.f1 x.f2 = f k) → Ev f r → Ev (fun k => thresherref6_count.l0 k L d many (i : Int)) r := fun hf hr =>
    Ev.step (f := fun k => thresherref6_count.l0 (k + 1) L d many (i : Int)) (fun k => rfl) (Ev.step (f := fun k => thresherref6_count.j2 k L d (many + 1) (i : Int) (decide (x.f0 = 28 ∨ x.f0 = 29)) (decide (¬ okOp x)) x.f0 x.f1 x.f2) st1 (Ev.step hf hr))
   by_cases hok : okOp x
   ·
    have hbad : decide (¬ okOp x) = false := decide_eq_false (fun h => h hok)
    by_cases hb2 : x.f0 = 28 ∨ x.f0 = 29
    ·
     have hj : ∀ k, thresherref6_count.j2 (k + 1) L d (many + 1) (i : Int) (decide (x.f0 = 28 ∨ x.f0 = 29)) (decide (¬ okOp x)) x.f0 x.f1 x.f2 = (thresherref6_count.f k x.f2 (d + 1) (many + 1)).bind fun bt => if bt.2 = true then thresherref6_count.l0 k L d bt.1 ((i + 1 : Nat) : Int) else some (bt.1, false) := fun k => by
      rw [thresherref6_count.j2, hbad, if_neg (by decide), decide_eq_true hb2, if_pos rfl, hd1, hi1]
     by_cases h6' : d = 6
     ·
      refine ⟨many + 1, false, two hj (Ev.bind (a := (many + 1, false)) (Ev.step (f := fun _ => some (many + 1, false)) (fun k => by rw [thresherref6_count.f, if_pos (by omega)]) (Ev.now _)) (Ev.now _)), .inr ⟨rfl, fun n hn => ?_⟩⟩
      obtain ⟨_, h | h⟩ := hn.cons_inv
      ·
       exact absurd hb2 h.1
      ·
       obtain ⟨_, h, _⟩ := h; omega
     ·
      obtain ⟨m1, ok1, hev1, hc1⟩ := ihb (d + 1) (many + 1) x.f2 0 rfl hl (by omega) (by omega) (by omega) (by omega)
      have hf1 : Ev (fun k => thresherref6_count.f k x.f2 (d + 1) (many + 1)) (m1, ok1) := Ev.step (f := fun k => thresherref6_count.l0 k x.f2 (d + 1) (many + 1) ((0 : Nat) : Int)) (fun k => by rw [thresherref6_count.f, if_neg (by omega)]; rfl) hev1
      rcases hc1 with ⟨rfl, n1, hn1, hn2, rfl⟩ | ⟨rfl, hno⟩
      ·
       obtain ⟨m2, ok2, hev2, hc2⟩ := ihs d (many + 1 + n1) L (i + 1) hL2 hlen h0 h6 (by have := hn1.ge; omega) (by omega)
       refine ⟨m2, ok2, two hj (Ev.bind (a := (many + 1 + n1, true)) hf1 (by simpa using hev2)), ?_⟩
       rcases hc2 with ⟨rfl, n2, hn3, hn4, rfl⟩ | ⟨rfl, hno⟩
       ·
        exact .inl ⟨rfl, n1 + n2 + 1, .block hok hb2 (by omega) hn1 hn3, by omega, by omega⟩
       ·
        refine .inr ⟨rfl, fun n hn => ?_⟩
        obtain ⟨_, h | h⟩ := hn.cons_inv
        ·
         exact absurd hb2 h.1
        ·
         obtain ⟨_, _, m', k', hm', hk', rfl⟩ := h
         have := hno k' hk'
         have := hn1.uniq hm'
         omega
      ·
       refine ⟨m1, false, two hj (Ev.bind (a := (m1, false)) hf1 (Ev.now _)), .inr ⟨rfl, fun n hn => ?_⟩⟩
       obtain ⟨_, h | h⟩ := hn.cons_inv
       ·
        exact absurd hb2 h.1
       ·
        obtain ⟨_, _, m', k', hm', hk', rfl⟩ := h
        have := hno m' hm'
        have := hk'.ge
        omega
    ·
     obtain ⟨m2, ok2, hev2, hc2⟩ := ihs d (many + 1) L (i + 1) hL2 hlen h0 h6 (by omega) (by omega)
     refine ⟨m2, ok2, two (f := fun k => thresherref6_count.l0 k L d (many + 1) ((i + 1 : Nat) : Int)) (fun k => by
      rw [thresherref6_count.j2, hbad, if_neg (by decide), decide_eq_false hb2, if_neg (by decide), hi1]) hev2, ?_⟩
     rcases hc2 with ⟨rfl, n2, hn3, hn4, rfl⟩ | ⟨rfl, hno⟩
     ·
      exact .inl ⟨rfl, n2 + 1, .plain hok hb2 hn3, by omega, by omega⟩
     ·
      refine .inr ⟨rfl, fun n hn => ?_⟩
      obtain ⟨_, h | h⟩ := hn.cons_inv
      ·
       obtain ⟨_, k', hk', rfl⟩ := h
       have := hno k' hk'
       omega
      ·
       exact absurd h.1 hb2
   ·
    refine ⟨many + 1, false, two (f := fun _ => some (many + 1, false)) (fun k => by rw [thresherref6_count.j2, decide_eq_true hok, if_pos rfl]) (Ev.now _), .inr ⟨rfl, fun n hn => absurd hn.cons_inv.1 hok⟩⟩

theorem ops_ev {l : List S34} (h : Tr l) (hl : l.length < 140737488355328) : ∃ m ok, Ev (fun k => thresherref6_Ops.f k l) (m, ok) ∧ (ok = true ↔ Fits l) := by
 obtain ⟨m, ok, hev, hc⟩ := rc_ev h 0 0 l 0 rfl hl (by omega) (by omega) (by omega) (by omega)
 refine ⟨m, ok, ?_, ?_⟩
 ·
  refine Ev.congr (f := fun k => (thresherref6_count.f k l 0 0).bind fun b => some (b.1, b.2)) (fun k => rfl) (Ev.bind (a := (m, ok)) (Ev.step (f := fun k => thresherref6_count.l0 k l 0 0 ((0 : Nat) : Int)) (fun k => by rw [thresherref6_count.f, if_neg (by omega)]; rfl) hev) (Ev.now _))
 ·
  rcases hc with ⟨rfl, n, hn, hn2, _⟩ | ⟨rfl, hno⟩
  ·
   exact ⟨fun _ => ⟨n, hn, by omega⟩, fun _ => rfl⟩
  ·
   exact ⟨fun h => by simp at h, fun ⟨n, hn, hn2⟩ => by have := hno n hn; omega⟩
end Go.Proofs.Ytchgjkfnmifgkaa.QE

namespace Go.Proofs.Ytchgjkfnmifgkaa.QE
open Go.RowKit Go.Proofs.YtchgjkfnmifgkaaW.PrintWords Go.Proofs.YtchgjkfnmifgkaaW.PrintLast Go.Proofs.YtchgjkfnmifgkaaW.PrintMore
set_option linter.unusedVariables false
set_option linter.unusedSimpArgs false

def mv (k : Int) : Int × Int := if k ≤ 4 then (0, 1) else if k ≤ 17 then (2, 1) else if k ≤ 24 then (1, 1) else if k = 25 then (1, 2) else if k = 26 then (2, 2) else if k = 30 then (2, 0) else (1, 0)
theorem mv_eq (k : Int) : check_moves.f k = some (mv k) := by
 unfold check_moves.f mv
 repeat (first | rfl | split)
theorem mv_bd (k : Int) : 0 ≤ (mv k).1 ∧ (mv k).1 ≤ 2 ∧ 0 ≤ (mv k).2 ∧ (mv k).2 ≤ 2 := by
 unfold mv
 repeat (first | decide | split)
theorem takes_ev (k : Int) (h1 : 1 ≤ k) : Ev (fun n => thresherref6_takes.f n k) (mv k) := by
 refine Ev.congr (f := fun n => thresherref6_takes.j0 n k (decide (k ≤ 4))) (fun n => by rw [thresherref6_takes.f, if_pos h1]) ?_
 unfold mv
 by_cases c4 : k ≤ 4
 ·
  rw [if_pos c4]
  exact Ev.step (f := fun _ => some (0, 1)) (fun n => by rw [thresherref6_takes.j0, decide_eq_true c4, if_pos rfl]) (Ev.now _)
 ·
  rw [if_neg c4]
  refine Ev.step (f := fun n => thresherref6_takes.j1 n k (decide (k ≤ 17))) (fun n => by rw [thresherref6_takes.j0, decide_eq_false c4, if_neg (by decide), if_pos (by omega)]) ?_
  by_cases c17 : k ≤ 17
  ·
   rw [if_pos c17]
   exact Ev.step (f := fun _ => some (2, 1)) (fun n => by rw [thresherref6_takes.j1, decide_eq_true c17, if_pos rfl]) (Ev.now _)
  ·
   rw [if_neg c17]
   refine Ev.step (f := fun n => thresherref6_takes.j2 n k (decide (k ≤ 24))) (fun n => by rw [thresherref6_takes.j1, decide_eq_false c17, if_neg (by decide), if_pos (by omega)]) ?_
   by_cases c24 : k ≤ 24
   ·
    rw [if_pos c24]
    exact Ev.step (f := fun _ => some (1, 1)) (fun n => by rw [thresherref6_takes.j2, decide_eq_true c24, if_pos rfl]) (Ev.now _)
   ·
    rw [if_neg c24]
    refine Ev.step (f := fun _ => if k = 25 then some (1, 2) else if k = 26 then some (2, 2) else if k = 30 then some (2, 0) else some (1, 0)) (fun n => by rw [thresherref6_takes.j2, decide_eq_false c24, if_neg (by decide)]) ?_
    by_cases c25 : k = 25
    ·
     simp only [if_pos c25]; exact Ev.now _
    ·
     simp only [if_neg c25]
     by_cases c26 : k = 26
     ·
      simp only [if_pos c26]; exact Ev.now _
     ·
      simp only [if_neg c26]
      by_cases c30 : k = 30
      ·
       simp only [if_pos c30]; exact Ev.now _
      ·
       simp only [if_neg c30]; exact Ev.now _

/-- One op of check.block, what it takes and leaves told. -/
theorem cb_step (k : Nat) (base now most : Int) (x : S34) (xs : List S34) (hl : (x :: xs).length < 140737488355328) : check_block.f (k + 1) base now most (x :: xs) =
  if wrap64 (now - base) < (mv x.f0).1 then some (9, now, most)
  else if wrap64 (now + wrap64 ((mv x.f0).2 - (mv x.f0).1)) > 16 then some (9, wrap64 (now + wrap64 ((mv x.f0).2 - (mv x.f0).1)), most)
  else (check_block.f k (wrap64 (now + wrap64 ((mv x.f0).2 - (mv x.f0).1))) (wrap64 (now + wrap64 ((mv x.f0).2 - (mv x.f0).1))) (mx most (wrap64 (now + wrap64 ((mv x.f0).2 - (mv x.f0).1)))) x.f2).bind fun r =>
   if r.1 = 0 then (if r.2.1 = wrap64 (now + wrap64 ((mv x.f0).2 - (mv x.f0).1)) then check_block.f k base r.2.1 r.2.2 xs else some (9, r.2.1, r.2.2)) else some r := by
 rw [check_block.f, if_pos hl, mv_eq, Option.bind_some]

theorem Ev.same {α : Type} {g : Nat → Option α} {r r' : α} (h : Ev g r) (h' : Ev g r') : r = r' := by
 obtain ⟨K, h⟩ := h
 obtain ⟨K', h'⟩ := h'
 have h1 := h (max K K') (Nat.le_max_left _ _)
 have h2 := h' (max K K') (Nat.le_max_right _ _)
 rw [h1] at h2
 exact Option.some.inj h2

/-- From so many numbers on ops end, or the stack is wrong; and the same from more numbers. -/
def Runs (xs : List S34) : Prop := ∀ base now most : Int, 0 ≤ base → base ≤ now → now ≤ most → most ≤ 16 →
  ∃ e n' m', Ev (fun k => check_block.f k base now most xs) (e, n', m') ∧ ((e = 0 ∧ base ≤ n' ∧ n' ≤ m' ∧ most ≤ m' ∧ m' ≤ 16) ∨ e = 9) ∧
   (e = 0 → ∀ c base2 M, 0 ≤ c → 0 ≤ base2 → base2 ≤ base + c → M ≤ 16 → most + c ≤ 16 → (m' + c ≤ 16 → Ev (fun k => check_block.f k base2 (now + c) (mx M (most + c)) xs) (0, n' + c, mx M (m' + c))) ∧ (16 < m' + c → ∃ a b, Ev (fun k => check_block.f k base2 (now + c) (mx M (most + c)) xs) (9, a, b)))

theorem Runs.nil : Runs [] := by
 intro base now most h0 h1 h2 h3
 exact ⟨0, now, most, Ev.step (f := fun _ => some (0, now, most)) (fun k => by rw [check_block.f]) (Ev.now _), .inl ⟨rfl, by omega, by omega, by omega, by omega⟩, fun _ c base2 M hc hb hb2 hM hm => ⟨fun _ => Ev.step (f := fun _ => some (0, now + c, mx M (most + c))) (fun k => by rw [check_block.f]) (Ev.now _), fun h => by omega⟩⟩

theorem mx_eq (a b : Int) : (a < b ∧ mx a b = b) ∨ (b ≤ a ∧ mx a b = a) := by
 unfold mx
 by_cases h : a < b
 ·
  exact .inl ⟨h, if_pos h⟩
 ·
  exact .inr ⟨by omega, if_neg h⟩

theorem Runs.cons {x : S34} {xs : List S34} (hl : (x :: xs).length < 140737488355328) (hi : Runs x.f2) (hs : Runs xs) : Runs (x :: xs) := by
 intro base now most h0 h1 h2 h3
 obtain ⟨b1, b2, b3, b4⟩ := mv_bd x.f0
 have step := fun k base now most => cb_step k base now most x xs hl
 generalize mv x.f0 = tl at step b1 b2 b3 b4
 obtain ⟨t, l⟩ := tl
 dsimp only at step b1 b2 b3 b4
 have w2 : wrap64 (l - t) = l - t := by unfold wrap64; omega
 simp only [w2] at step
 have w1 : wrap64 (now - base) = now - base := by unfold wrap64; omega
 have w3 : wrap64 (now + (l - t)) = now + (l - t) := by unfold wrap64; omega
 by_cases c1 : now - base < t
 ·
  exact ⟨9, now, most, Ev.step (f := fun _ => some (9, now, most)) (fun k => by rw [step, w1, if_pos c1]) (Ev.now _), .inr rfl, fun h => by omega⟩
 by_cases c2 : now + (l - t) > 16
 ·
  exact ⟨9, now + (l - t), most, Ev.step (f := fun _ => some (9, now + (l - t), most)) (fun k => by rw [step, w1, if_neg c1, w3, if_pos c2]) (Ev.now _), .inr rfl, fun h => by omega⟩
 obtain ⟨n1, hn1⟩ : ∃ n1, n1 = now + (l - t) := ⟨_, rfl⟩
 have w3 : wrap64 (now + (l - t)) = n1 := by rw [w3, hn1]
 rw [← hn1] at c2
 have hm1 := mx_eq most n1
 obtain ⟨e, n', m', hev, hp, hsh⟩ := hi n1 n1 (mx most n1) (by omega) (by omega) (by omega) (by omega)
 have st1 : ∀ k, check_block.f (k + 1) base now most (x :: xs) = (check_block.f k n1 n1 (mx most n1) x.f2).bind fun r => if r.1 = 0 then (if r.2.1 = n1 then check_block.f k base r.2.1 r.2.2 xs else some (9, r.2.1, r.2.2)) else some r := fun k => by
  rw [step, w1, if_neg c1, w3, if_neg c2]
 rcases hp with ⟨rfl, p1, p2, p3, p4⟩ | rfl
 ·
  by_cases c3 : n' = n1
  ·
   subst c3
   obtain ⟨e2, n2, m2, hev2, hp2, hsh2⟩ := hs base n' m' (by omega) (by omega) (by omega) (by omega)
   refine ⟨e2, n2, m2, Ev.step st1 (Ev.bind (a := (0, n', m')) hev (by simpa using hev2)), ?_, ?_⟩
   ·
    rcases hp2 with ⟨rfl, q1, q2, q3, q4⟩ | rfl
    ·
     exact .inl ⟨rfl, by omega, by omega, by omega, by omega⟩
    ·
     exact .inr rfl
   ·
    intro he c base2 M hc hb hb2 hM hm
    have q : n' ≤ m' ∧ m' ≤ m2 := by
     rcases hp2 with ⟨_, q1, q2, q3, q4⟩ | h
     ·
      exact ⟨by omega, by omega⟩
     ·
      omega
    have v1 : wrap64 (now + c - base2) = now + c - base2 := by unfold wrap64; omega
    have v3 : wrap64 (now + c + (l - t)) = n' + c := by unfold wrap64; omega
    have hM1 := mx_eq M (most + c)
    have hM2 := mx_eq (mx M (most + c)) (n' + c)
    have hM3 := mx_eq M (mx most n' + c)
    have hmm : mx (mx M (most + c)) (n' + c) = mx M (mx most n' + c) := by omega
    have big : n' + c > 16 → ∃ a b, Ev (fun k => check_block.f k base2 (now + c) (mx M (most + c)) (x :: xs)) (9, a, b) := fun h =>
     ⟨_, _, Ev.step (f := fun _ => some (9, n' + c, mx M (most + c))) (fun k => by rw [step, v1, if_neg (by omega), v3, if_pos h]) (Ev.now _)⟩
    have st2 : ¬ n' + c > 16 → ∀ k, check_block.f (k + 1) base2 (now + c) (mx M (most + c)) (x :: xs) = (check_block.f k (n' + c) (n' + c) (mx M (mx most n' + c)) x.f2).bind fun r => if r.1 = 0 then (if r.2.1 = n' + c then check_block.f k base2 r.2.1 r.2.2 xs else some (9, r.2.1, r.2.2)) else some r := fun h k => by
     rw [step, v1, if_neg (by omega), v3, if_neg h, hmm]
    constructor
    ·
     intro hle
     have h16 : ¬ n' + c > 16 := by omega
     have hin := (hsh rfl c (n' + c) M hc (by omega) (by omega) hM (by omega)).1 (by omega)
     have hrest := (hsh2 he c base2 M hc hb hb2 hM (by omega)).1 hle
     exact Ev.step (st2 h16) (Ev.bind (a := (0, n' + c, mx M (m' + c))) hin (by simpa using hrest))
    ·
     intro hgt
     by_cases h16 : n' + c > 16
     ·
      exact big h16
     ·
      by_cases hin16 : m' + c ≤ 16
      ·
       have hin := (hsh rfl c (n' + c) M hc (by omega) (by omega) hM (by omega)).1 hin16
       obtain ⟨a, b, hrest⟩ := (hsh2 he c base2 M hc hb hb2 hM (by omega)).2 hgt
       exact ⟨a, b, Ev.step (st2 h16) (Ev.bind (a := (0, n' + c, mx M (m' + c))) hin (by simpa using hrest))⟩
      ·
       obtain ⟨a, b, hin⟩ := (hsh rfl c (n' + c) M hc (by omega) (by omega) hM (by omega)).2 (by omega)
       exact ⟨a, b, Ev.step (st2 h16) (Ev.bind (a := (9, a, b)) hin (by simpa using Ev.now _))⟩
  ·
   exact ⟨9, n', m', Ev.step st1 (Ev.bind (a := (0, n', m')) hev (by simpa [c3] using Ev.now _)), .inr rfl, fun h => by omega⟩
 ·
  exact ⟨9, n', m', Ev.step st1 (Ev.bind (a := (9, n', m')) hev (by simpa using Ev.now _)), .inr rfl, fun h => by omega⟩

theorem cb_runs {d : Int} {xs : List S34} {n : Int} (ho : Okl d xs n) : Tr xs → xs.length < 140737488355328 → Runs xs := by
 induction ho with
 | nil => intro _ _; exact Runs.nil
 | @plain d x xs n hk hnb hs ih =>
  intro ht hl
  cases ht with
  | cons hl2 hb hs2 =>
   have hnil : x.f2 = [] := hk.2.2.elim id (fun h => absurd h hnb)
   exact Runs.cons hl (hnil ▸ Runs.nil) (ih hs2 (by simp at hl; omega))
 | @block d x xs m n hk hb hd hm hs ihm ihs =>
  intro ht hl
  cases ht with
  | cons hl2 hb2 hs2 => exact Runs.cons hl (ihm hb2 hl2) (ihs hs2 (by simp at hl; omega))
end Go.Proofs.Ytchgjkfnmifgkaa.QE

namespace Go.Proofs.Ytchgjkfnmifgkaa.QE
open Go.RowKit Go.Proofs.YtchgjkfnmifgkaaW.PrintWords Go.Proofs.YtchgjkfnmifgkaaW.PrintLast Go.Proofs.YtchgjkfnmifgkaaW.PrintMore
set_option linter.unusedVariables false
set_option linter.unusedSimpArgs false

/-- From so many numbers, of which none below a base is taken, ops leave so many. -/
inductive Chk : Int → Int → List S34 → Int → Prop
 | nil {b n : Int} : Chk b n [] n
 | cons {b n n' : Int} {x : S34} {xs : List S34} (hok : okOp x) (hl : (x :: xs).length < 140737488355328) (ht : (mv x.f0).1 ≤ n - b) (h16 : n + ((mv x.f0).2 - (mv x.f0).1) ≤ 16) (hb : Chk (n + ((mv x.f0).2 - (mv x.f0).1)) (n + ((mv x.f0).2 - (mv x.f0).1)) x.f2 (n + ((mv x.f0).2 - (mv x.f0).1))) (hs : Chk b (n + ((mv x.f0).2 - (mv x.f0).1)) xs n') : Chk b n (x :: xs) n'

def ChkOf (xs : List S34) : Prop := ∀ base now most n' m' : Int, 0 ≤ base → base ≤ now → now ≤ most → most ≤ 16 → Ev (fun k => check_block.f k base now most xs) (0, n', m') → Chk base now xs n'

theorem ChkOf.nil : ChkOf [] := by
 intro base now most n' m' h0 h1 h2 h3 h
 have := Ev.same h (Ev.step (f := fun _ => some (0, now, most)) (fun k => by rw [check_block.f]) (Ev.now _))
 simp only [Prod.mk.injEq, true_and] at this
 rw [this.1]
 exact .nil

theorem ChkOf.cons {x : S34} {xs : List S34} (hok : okOp x) (hl : (x :: xs).length < 140737488355328) (hi : Runs x.f2) (hci : ChkOf x.f2) (hs : Runs xs) (hcs : ChkOf xs) : ChkOf (x :: xs) := by
 intro base now most n2 m2 h0 h1 h2 h3 hr
 obtain ⟨b1, b2, b3, b4⟩ := mv_bd x.f0
 have step := fun k base now most => cb_step k base now most x xs hl
 have w2 : wrap64 ((mv x.f0).2 - (mv x.f0).1) = (mv x.f0).2 - (mv x.f0).1 := by unfold wrap64; omega
 simp only [w2] at step
 have w1 : wrap64 (now - base) = now - base := by unfold wrap64; omega
 have w3 : wrap64 (now + ((mv x.f0).2 - (mv x.f0).1)) = now + ((mv x.f0).2 - (mv x.f0).1) := by unfold wrap64; omega
 by_cases c1 : now - base < (mv x.f0).1
 ·
  have := Ev.same hr (Ev.step (f := fun _ => some (9, now, most)) (fun k => by rw [step, w1, if_pos c1]) (Ev.now _))
  simp at this
 by_cases c2 : now + ((mv x.f0).2 - (mv x.f0).1) > 16
 ·
  have := Ev.same hr (Ev.step (f := fun _ => some (9, now + ((mv x.f0).2 - (mv x.f0).1), most)) (fun k => by rw [step, w1, if_neg c1, w3, if_pos c2]) (Ev.now _))
  simp at this
 refine Chk.cons hok hl (by omega) (by omega) ?_ ?_
 all_goals
  generalize hn1 : now + ((mv x.f0).2 - (mv x.f0).1) = n1 at *
  have hm1 := mx_eq most n1
  obtain ⟨e, n', m', hev, hp, _⟩ := hi n1 n1 (mx most n1) (by omega) (by omega) (by omega) (by omega)
  have st1 : ∀ k, check_block.f (k + 1) base now most (x :: xs) = (check_block.f k n1 n1 (mx most n1) x.f2).bind fun r => if r.1 = 0 then (if r.2.1 = n1 then check_block.f k base r.2.1 r.2.2 xs else some (9, r.2.1, r.2.2)) else some r := fun k => by
   rw [step, w1, if_neg c1, hn1, w3, if_neg c2]
  rcases hp with ⟨rfl, p1, p2, p3, p4⟩ | rfl
  ·
   by_cases c3 : n' = n1
   ·
    subst c3
    obtain ⟨e2, n3, m3, hev2, hp2, _⟩ := hs base n' m' (by omega) (by omega) (by omega) (by omega)
    have := Ev.same hr (Ev.step st1 (Ev.bind (a := (0, n', m')) hev (by simpa using hev2)))
    simp only [Prod.mk.injEq] at this
    obtain ⟨rfl, rfl, rfl⟩ := this
    first
    | exact hci n' n' (mx most n') n' m' (by omega) (by omega) (by omega) (by omega) hev
    | exact hcs base n' m' n2 m2 (by omega) (by omega) (by omega) (by omega) hev2
   ·
    have := Ev.same hr (Ev.step st1 (Ev.bind (a := (0, n', m')) hev (by simpa [c3] using Ev.now _)))
    simp at this
  ·
   have := Ev.same hr (Ev.step st1 (Ev.bind (a := (9, n', m')) hev (by simpa using Ev.now _)))
   simp at this

theorem chk_of {d : Int} {xs : List S34} {n : Int} (ho : Okl d xs n) : Tr xs → xs.length < 140737488355328 → ChkOf xs := by
 induction ho with
 | nil => intro _ _; exact ChkOf.nil
 | @plain d x xs n hk hnb hs ih =>
  intro ht hl
  cases ht with
  | cons hl2 hb hs2 =>
   have hnil : x.f2 = [] := hk.2.2.elim id (fun h => absurd h hnb)
   have hxs : xs.length < 140737488355328 := by simp at hl; omega
   exact ChkOf.cons hk hl (hnil ▸ Runs.nil) (hnil ▸ ChkOf.nil) (cb_runs hs hs2 hxs) (ih hs2 hxs)
 | @block d x xs m n hk hb hd hm hs ihm ihs =>
  intro ht hl
  cases ht with
  | cons hl2 hb2 hs2 =>
   have hxs : xs.length < 140737488355328 := by simp at hl; omega
   exact ChkOf.cons hk hl (cb_runs hm hb2 hl2) (ihm hb2 hl2) (cb_runs hs hs2 hxs) (ihs hs2 hxs)
end Go.Proofs.Ytchgjkfnmifgkaa.QE

namespace Go.Proofs.Ytchgjkfnmifgkaa.QE
open Go.RowKit Go.Proofs.YtchgjkfnmifgkaaW.PrintWords Go.Proofs.YtchgjkfnmifgkaaW.PrintLast Go.Proofs.YtchgjkfnmifgkaaW.PrintMore
set_option linter.unusedVariables false
set_option linter.unusedSimpArgs false

def I64 (n : Int) : Prop := -9223372036854775808 ≤ n ∧ n ≤ 9223372036854775807
/-- The numbers that stand in ops are numbers of 64 bits. -/
inductive Rng : List S34 → Prop
 | nil : Rng []
 | cons {x : S34} {xs : List S34} (hn : I64 x.f1) (hb : Rng x.f2) (hs : Rng xs) : Rng (x :: xs)

structure Alike (two two2 : Int → Int → Int → Option Int) (one one2 : Int → Int → Option Int) : Prop where
 two_ : ∀ k n m, 5 ≤ k → k ≤ 17 → I64 n → I64 m → ∃ r, two k n m = some r ∧ two2 k n m = some r ∧ I64 r
 one_ : ∀ k n, 18 ≤ k → k ≤ 24 → I64 n → ∃ r, one k n = some r ∧ one2 k n = some r ∧ I64 r

theorem pop_st {st : List Int} (h : 0 < st.length) (h2 : st.length ≤ 16) : ∃ s p, st = s ++ [p] ∧ pop1 st = some (p, s) ∧ s.length + 1 = st.length := by
 rcases List.eq_nil_or_concat st with rfl | ⟨s, p, rfl⟩
 ·
  simp at h
 ·
  rw [List.concat_eq_append] at *
  refine ⟨s, p, rfl, pop1_snoc s p (by simp at h2; omega), by simp⟩

abbrev Res := Int × List Int × Int × List S50
/-- What is told of a way of two machines: they come to the same, the fuel is no more, the stack holds numbers. -/
def Told (g g2 : Nat → Option Res) (fu n1 : Int) (less : Prop) : Prop := ∃ r : Res, Ev g r ∧ Ev g2 r ∧ 0 ≤ r.2.2.1 ∧ r.2.2.1 ≤ fu ∧ r.2.2.2.length ≤ 256 ∧ (∀ z ∈ r.2.1, I64 z) ∧ (r.1 = 0 → (r.2.1.length : Int) = n1 ∧ (less → r.2.2.1 < fu))

section
variable {two two2 : Int → Int → Int → Option Int} {one one2 : Int → Int → Option Int} {a : Int} {b : ByteArray} {v : Int}

/-- The machines over a list of ops, on fuel up to F. -/
def Sound (two two2 : Int → Int → Int → Option Int) (one one2 : Int → Int → Option Int) (a : Int) (b : ByteArray) (v : Int) (F : Nat) : Prop := ∀ (l : List S34) (base now n' : Int), Chk base now l n' → Rng l → 0 ≤ base → now ≤ 16 → ∀ (st : List Int) (fu : Int) (out : List S50), (st.length : Int) = now → (∀ z ∈ st, I64 z) → 0 ≤ fu → fu ≤ F → fu ≤ 2000 → out.length ≤ 256 →
 Told (fun k => mrun two one a b v k l st fu out) (fun k => mrun two2 one2 a b v k l st fu out) fu n' (l ≠ [])

theorem rep_sound (F : Nat) (ih : ∀ G, G < F → Sound two two2 one one2 a b v G) (l : List S34) (nn : Int) (hc : Chk nn nn l nn) (hr : Rng l) (h0 : 0 ≤ nn) (h16 : nn ≤ 16) : ∀ (G : Nat), G < F → ∀ (n : Int) (st : List Int) (fu : Int) (out : List S50), n ≤ 9223372036854775807 → (st.length : Int) = nn → (∀ z ∈ st, I64 z) → 0 ≤ fu → fu ≤ G → fu ≤ 2000 → out.length ≤ 256 →
  Told (fun k => mrep two one a b v k n l st fu out) (fun k => mrep two2 one2 a b v k n l st fu out) fu nn False := by
 intro G
 induction G using Nat.strongRecOn with
 | _ G ihG =>
 intro hG n st fu out hn hl hz hf0 hfG hf2 ho
 by_cases c1 : n > 0
 case neg =>
  exact ⟨(0, st, fu, out), Ev.step (f := fun _ => some (0, st, fu, out)) (fun k => by rw [mrep, if_neg (by omega), if_neg c1]) (Ev.now _), Ev.step (f := fun _ => some (0, st, fu, out)) (fun k => by rw [mrep, if_neg (by omega), if_neg c1]) (Ev.now _), hf0, Int.le_refl _, ho, hz, fun _ => ⟨hl, fun h => h.elim⟩⟩
 by_cases c2 : (l.length : Int) > 0
 case neg =>
  exact ⟨(0, st, fu, out), Ev.step (f := fun _ => some (0, st, fu, out)) (fun k => by rw [mrep, if_neg (by omega), if_pos c1, if_neg c2]) (Ev.now _), Ev.step (f := fun _ => some (0, st, fu, out)) (fun k => by rw [mrep, if_neg (by omega), if_pos c1, if_neg c2]) (Ev.now _), hf0, Int.le_refl _, ho, hz, fun _ => ⟨hl, fun h => h.elim⟩⟩
 obtain ⟨r, h1, h2, h3, h4, h5, h6, h7⟩ := ih G hG l nn nn nn hc hr h0 h16 st fu out hl hz hf0 hfG hf2 ho
 obtain ⟨e, st2, fu2, out2⟩ := r
 dsimp only at h3 h4 h5 h6 h7
 have w1 : wrap64 (n - 1) = n - 1 := by unfold wrap64; omega
 have s1 : ∀ k, mrep two one a b v (k + 1) n l st fu out = (mrun two one a b v k l st fu out).bind fun r => if r.1 = 0 then mrep two one a b v k (n - 1) l r.2.1 r.2.2.1 r.2.2.2 else some r := fun k => by rw [mrep, if_neg (by omega), if_pos c1, if_pos c2, w1]
 have s2 : ∀ k, mrep two2 one2 a b v (k + 1) n l st fu out = (mrun two2 one2 a b v k l st fu out).bind fun r => if r.1 = 0 then mrep two2 one2 a b v k (n - 1) l r.2.1 r.2.2.1 r.2.2.2 else some r := fun k => by rw [mrep, if_neg (by omega), if_pos c1, if_pos c2, w1]
 by_cases c3 : e = 0
 ·
  subst c3
  obtain ⟨h8, h9⟩ := h7 rfl
  have h10 : fu2 < fu := h9 (fun h => by rw [h] at c2; simp at c2)
  obtain ⟨r2, g1, g2, g3, g4, g5, g6, g7⟩ := ihG fu2.toNat (by omega) (by omega) (n - 1) st2 fu2 out2 (by omega) h8 h6 h3 (by omega) (by omega) h5
  exact ⟨r2, Ev.step s1 (Ev.bind h1 (by simpa using g1)), Ev.step s2 (Ev.bind h2 (by simpa using g2)), g3, by omega, g5, g6, fun h => ⟨(g7 h).1, fun h => h.elim⟩⟩
 ·
  exact ⟨(e, st2, fu2, out2), Ev.step s1 (Ev.bind h1 (by simpa [c3] using Ev.now _)), Ev.step s2 (Ev.bind h2 (by simpa [c3] using Ev.now _)), h3, h4, h5, h6, fun h => absurd h c3⟩

theorem push_told {g g2 : Nat → Option Res} {st : List Int} {n fu : Int} {out : List S50} {n1 : Int} (h1 : ∀ k, g (k + 1) = push1 st n fu out) (h2 : ∀ k, g2 (k + 1) = push1 st n fu out) (hl : (st.length : Int) + 1 = n1) (h16 : n1 ≤ 16) (hz : ∀ z ∈ st, I64 z) (hn : I64 n) (hf : 0 ≤ fu) (ho : out.length ≤ 256) : Told g g2 fu n1 False := by
 have hp : push1 st n fu out = some (0, st ++ [n], fu, out) := by unfold push1; rw [if_pos (by omega)]
 refine ⟨(0, st ++ [n], fu, out), Ev.step (f := fun _ => some (0, st ++ [n], fu, out)) (fun k => by rw [h1, hp]) (Ev.now _), Ev.step (f := fun _ => some (0, st ++ [n], fu, out)) (fun k => by rw [h2, hp]) (Ev.now _), hf, Int.le_refl _, ho, ?_, fun _ => ⟨by simp; omega, fun h => h.elim⟩⟩
 intro z hz2
 rcases List.mem_append.mp hz2 with h | h
 ·
  exact hz z h
 ·
  rw [List.mem_singleton.mp h]; exact hn
end
end Go.Proofs.Ytchgjkfnmifgkaa.QE

namespace Go.Proofs.Ytchgjkfnmifgkaa.QE
open Go.RowKit Go.Proofs.YtchgjkfnmifgkaaW.PrintWords Go.Proofs.YtchgjkfnmifgkaaW.PrintLast Go.Proofs.YtchgjkfnmifgkaaW.PrintMore
set_option linter.unusedVariables false
set_option linter.unusedSimpArgs false

section
variable {two two2 : Int → Int → Int → Option Int} {one one2 : Int → Int → Option Int} {a : Int} {b : ByteArray} {v : Int}

theorem mv_low {k : Int} (h : k ≤ 4) : mv k = (0, 1) := by unfold mv; rw [if_pos h]
theorem mv_two {k : Int} (h1 : 4 < k) (h : k ≤ 17) : mv k = (2, 1) := by unfold mv; rw [if_neg (by omega), if_pos h]
theorem mv_one {k : Int} (h1 : 17 < k) (h : k ≤ 24) : mv k = (1, 1) := by unfold mv; rw [if_neg (by omega), if_neg (by omega), if_pos h]
theorem mv_block {k : Int} (h : k = 27 ∨ k = 28 ∨ k = 29) : mv k = (1, 0) := by
 unfold mv
 rw [if_neg (by omega), if_neg (by omega), if_neg (by omega), if_neg (by omega), if_neg (by omega), if_neg (by omega)]

theorem now_told {g g2 : Nat → Option Res} {r : Res} {fu n1 : Int} (h1 : ∀ k, g (k + 1) = some r) (h2 : ∀ k, g2 (k + 1) = some r) (hf : r.2.2.1 = fu) (h0 : 0 ≤ fu) (ho : r.2.2.2.length ≤ 256) (hz : ∀ z ∈ r.2.1, I64 z) (hl : r.1 = 0 → (r.2.1.length : Int) = n1) : Told g g2 fu n1 False :=
 ⟨r, Ev.step (f := fun _ => some r) (fun k => h1 k) (Ev.now _), Ev.step (f := fun _ => some r) (fun k => h2 k) (Ev.now _), by omega, by omega, ho, hz, fun h => ⟨hl h, fun h => h.elim⟩⟩

theorem Told.step {g g2 h h2 : Nat → Option Res} {fu n1 : Int} {p : Prop} (e1 : ∀ k, g (k + 1) = h k) (e2 : ∀ k, g2 (k + 1) = h2 k) (t : Told h h2 fu n1 p) : Told g g2 fu n1 p := by
 obtain ⟨r, a1, a2, a3⟩ := t
 exact ⟨r, Ev.step e1 a1, Ev.step e2 a2, a3⟩

theorem mvalue_i64 {k n a v : Int} {b : ByteArray} (hn : I64 n) (ha : I64 a) (hb : b.size < 140737488355328) (hv : I64 v) : I64 (mvalue k n a b v) := by
 unfold mvalue I64 at *
 repeat (first | omega | split)

theorem do_sound (A : Alike two two2 one one2) (ha : I64 a) (hb : b.size < 140737488355328) (hv : I64 v) (F : Nat) (ih : ∀ G, G < F → Sound two two2 one one2 a b v G) (x : S34) (hok : okOp x) (hx : I64 x.f1) (now n1 : Int) (hn1 : n1 = now + ((mv x.f0).2 - (mv x.f0).1)) (h0 : (mv x.f0).1 ≤ now) (h16 : n1 ≤ 16) (hnow : now ≤ 16) (hc : Chk n1 n1 x.f2 n1) (hr : Rng x.f2) (st : List Int) (fu : Int) (out : List S50) (hl : (st.length : Int) = now) (hz : ∀ z ∈ st, I64 z) (hf0 : 0 ≤ fu) (hfF : fu < F) (hf2 : fu ≤ 2000) (ho : out.length ≤ 256) :
  Told (fun k => mdo two one a b v k x st fu out) (fun k => mdo two2 one2 a b v k x st fu out) fu n1 False := by
 obtain ⟨⟨k1, k2⟩, _, _⟩ := hok
 by_cases c4 : x.f0 ≤ 4
 ·
  rw [mv_low c4] at hn1
  exact push_told (st := st) (n := mvalue x.f0 x.f1 a b v) (out := out) (fun k => by rw [mdo, if_neg (by omega), if_pos c4]) (fun k => by rw [mdo, if_neg (by omega), if_pos c4]) (by dsimp only at hn1; omega) h16 hz (mvalue_i64 hx ha hb hv) hf0 ho
 by_cases c17 : x.f0 ≤ 17
 ·
  rw [mv_two (by omega) c17] at hn1 h0
  dsimp only at hn1 h0
  obtain ⟨s1, p, rfl, hp, hl1⟩ := pop_st (st := st) (by omega) (by omega)
  obtain ⟨s2, q, rfl, hq, hl2⟩ := pop_st (st := s1) (by omega) (by omega)
  obtain ⟨r, r1, r2, r3⟩ := A.two_ x.f0 q p (by omega) c17 (hz _ (by simp)) (hz _ (by simp))
  exact push_told (st := s2) (n := r) (out := out) (fun k => by rw [mdo, if_neg (by omega), if_neg c4, if_pos c17, hp, Option.bind_some, hq, Option.bind_some, r1, Option.bind_some]) (fun k => by rw [mdo, if_neg (by omega), if_neg c4, if_pos c17, hp, Option.bind_some, hq, Option.bind_some, r2, Option.bind_some]) (by omega) h16 (fun z h => hz z (by simp [h])) r3 hf0 ho
 by_cases c24 : x.f0 ≤ 24
 ·
  rw [mv_one (by omega) c24] at hn1 h0
  dsimp only at hn1 h0
  obtain ⟨s1, p, rfl, hp, hl1⟩ := pop_st (st := st) (by omega) (by omega)
  obtain ⟨r, r1, r2, r3⟩ := A.one_ x.f0 p (by omega) c24 (hz _ (by simp))
  exact push_told (st := s1) (n := r) (out := out) (fun k => by rw [mdo, if_neg (by omega), if_neg c4, if_neg c17, if_pos c24, hp, Option.bind_some, r1, Option.bind_some]) (fun k => by rw [mdo, if_neg (by omega), if_neg c4, if_neg c17, if_pos c24, hp, Option.bind_some, r2, Option.bind_some]) (by omega) h16 (fun z h => hz z (by simp [h])) r3 hf0 ho
 by_cases c25 : x.f0 = 25
 ·
  have hm : mv x.f0 = (1, 2) := by rw [c25]; decide
  rw [hm] at hn1 h0
  dsimp only at hn1 h0
  obtain ⟨s1, p, rfl, hp, hl1⟩ := pop_st (st := st) (by omega) (by omega)
  exact push_told (st := s1 ++ [p]) (n := p) (out := out) (fun k => by rw [mdo, if_neg (by omega), if_neg c4, if_neg c17, if_neg c24, if_pos c25, hp, Option.bind_some]) (fun k => by rw [mdo, if_neg (by omega), if_neg c4, if_neg c17, if_neg c24, if_pos c25, hp, Option.bind_some]) (by omega) h16 hz (hz _ (by simp)) hf0 ho
 by_cases c26 : x.f0 = 26
 ·
  have hm : mv x.f0 = (2, 2) := by rw [c26]; decide
  rw [hm] at hn1 h0
  dsimp only at hn1 h0
  obtain ⟨s1, p, rfl, hp, hl1⟩ := pop_st (st := st) (by omega) (by omega)
  obtain ⟨s2, q, rfl, hq, hl2⟩ := pop_st (st := s1) (by omega) (by omega)
  refine now_told (r := (0, s2 ++ [p, q], fu, out)) (fun k => by rw [mdo, if_neg (by omega), if_neg c4, if_neg c17, if_neg c24, if_neg c25, if_pos c26, hp, Option.bind_some, hq, Option.bind_some]) (fun k => by rw [mdo, if_neg (by omega), if_neg c4, if_neg c17, if_neg c24, if_neg c25, if_pos c26, hp, Option.bind_some, hq, Option.bind_some]) rfl hf0 ho ?_ (fun _ => by simp; omega)
  intro z h
  apply hz
  simp at h ⊢
  rcases h with h | h | h
  ·
   exact .inl h
  ·
   exact .inr (.inr h)
  ·
   exact .inr (.inl h)
 by_cases c27 : x.f0 = 27
 ·
  rw [mv_block (.inl c27)] at hn1 h0
  dsimp only at hn1 h0
  obtain ⟨s1, p, rfl, hp, hl1⟩ := pop_st (st := st) (by omega) (by omega)
  exact now_told (r := (0, s1, fu, out)) (fun k => by rw [mdo, if_neg (by omega), if_neg c4, if_neg c17, if_neg c24, if_neg c25, if_neg c26, if_pos c27, hp, Option.bind_some]) (fun k => by rw [mdo, if_neg (by omega), if_neg c4, if_neg c17, if_neg c24, if_neg c25, if_neg c26, if_pos c27, hp, Option.bind_some]) rfl hf0 ho (fun z h => hz z (by simp [h])) (fun _ => by show (s1.length : Int) = n1; omega)
 by_cases c28 : x.f0 = 28
 ·
  rw [mv_block (.inr (.inl c28))] at hn1 h0
  dsimp only at hn1 h0
  obtain ⟨s1, p, rfl, hp, hl1⟩ := pop_st (st := st) (by omega) (by omega)
  exact Told.step (h := fun k => mrep two one a b v k (if p = 0 then 0 else 1) x.f2 s1 fu out) (h2 := fun k => mrep two2 one2 a b v k (if p = 0 then 0 else 1) x.f2 s1 fu out) (fun k => by rw [mdo, if_neg (by omega), if_neg c4, if_neg c17, if_neg c24, if_neg c25, if_neg c26, if_neg c27, if_pos c28, hp, Option.bind_some]) (fun k => by rw [mdo, if_neg (by omega), if_neg c4, if_neg c17, if_neg c24, if_neg c25, if_neg c26, if_neg c27, if_pos c28, hp, Option.bind_some])
   (rep_sound F ih x.f2 n1 hc hr (by omega) h16 fu.toNat (by omega) _ s1 fu out (by split <;> omega) (by omega) (fun z h => hz z (by simp [h])) hf0 (by omega) hf2 ho)
 by_cases c29 : x.f0 = 29
 ·
  rw [mv_block (.inr (.inr c29))] at hn1 h0
  dsimp only at hn1 h0
  obtain ⟨s1, p, rfl, hp, hl1⟩ := pop_st (st := st) (by omega) (by omega)
  exact Told.step (h := fun k => mrep two one a b v k p x.f2 s1 fu out) (h2 := fun k => mrep two2 one2 a b v k p x.f2 s1 fu out) (fun k => by rw [mdo, if_neg (by omega), if_neg c4, if_neg c17, if_neg c24, if_neg c25, if_neg c26, if_neg c27, if_neg c28, if_pos c29, hp, Option.bind_some]) (fun k => by rw [mdo, if_neg (by omega), if_neg c4, if_neg c17, if_neg c24, if_neg c25, if_neg c26, if_neg c27, if_neg c28, if_pos c29, hp, Option.bind_some])
   (rep_sound F ih x.f2 n1 hc hr (by omega) h16 fu.toNat (by omega) _ s1 fu out (hz p (by simp)).2 (by omega) (fun z h => hz z (by simp [h])) hf0 (by omega) hf2 ho)
 have c30 : x.f0 = 30 := by omega
 have hm : mv x.f0 = (2, 0) := by rw [c30]; decide
 rw [hm] at hn1 h0
 dsimp only at hn1 h0
 obtain ⟨s1, p, rfl, hp, hl1⟩ := pop_st (st := st) (by omega) (by omega)
 obtain ⟨s2, q, rfl, hq, hl2⟩ := pop_st (st := s1) (by omega) (by omega)
 by_cases c256 : out.length = 256
 ·
  exact now_told (r := (2, s2, fu, out)) (fun k => by rw [mdo, if_neg (by omega), if_neg c4, if_neg c17, if_neg c24, if_neg c25, if_neg c26, if_neg c27, if_neg c28, if_neg c29, hp, Option.bind_some, hq, Option.bind_some, if_pos c256]) (fun k => by rw [mdo, if_neg (by omega), if_neg c4, if_neg c17, if_neg c24, if_neg c25, if_neg c26, if_neg c27, if_neg c28, if_neg c29, hp, Option.bind_some, hq, Option.bind_some, if_pos c256]) rfl hf0 ho (fun z h => hz z (by simp [h])) (fun h => by simp at h)
 ·
  exact now_told (r := (0, s2, fu, out ++ [⟨⟨q, b⟩, p⟩])) (fun k => by rw [mdo, if_neg (by omega), if_neg c4, if_neg c17, if_neg c24, if_neg c25, if_neg c26, if_neg c27, if_neg c28, if_neg c29, hp, Option.bind_some, hq, Option.bind_some, if_neg c256, if_pos (by omega)]) (fun k => by rw [mdo, if_neg (by omega), if_neg c4, if_neg c17, if_neg c24, if_neg c25, if_neg c26, if_neg c27, if_neg c28, if_neg c29, hp, Option.bind_some, hq, Option.bind_some, if_neg c256, if_pos (by omega)]) rfl hf0 (by simp; omega) (fun z h => hz z (by simp [h])) (fun _ => by show (s2.length : Int) = n1; omega)

theorem sound (A : Alike two two2 one one2) (ha : I64 a) (hb : b.size < 140737488355328) (hv : I64 v) : ∀ F, Sound two two2 one one2 a b v F := by
 intro F
 induction F using Nat.strongRecOn with
 | _ F ih =>
 intro l base now n' hc hr hb0 h16 st fu out hl hz hf0 hfF hf2 ho
 cases hc with
 | nil => exact ⟨(0, st, fu, out), Ev.step (f := fun _ => some (0, st, fu, out)) (fun k => by rw [mrun]) (Ev.now _), Ev.step (f := fun _ => some (0, st, fu, out)) (fun k => by rw [mrun]) (Ev.now _), hf0, Int.le_refl _, ho, hz, fun _ => ⟨hl, fun h => absurd rfl h⟩⟩
 | @cons _ _ _ x xs hok hlen ht hn16 hcb hcs =>
  cases hr with
  | cons hrn hrb hrs =>
  by_cases c0 : fu = 0
  ·
   exact ⟨(10, st, fu, out), Ev.step (f := fun _ => some (10, st, fu, out)) (fun k => by rw [mrun, if_pos hlen, if_pos c0]) (Ev.now _), Ev.step (f := fun _ => some (10, st, fu, out)) (fun k => by rw [mrun, if_pos hlen, if_pos c0]) (Ev.now _), hf0, Int.le_refl _, ho, hz, fun h => by simp at h⟩
  have w1 : wrap64 (fu - 1) = fu - 1 := by unfold wrap64; omega
  have s1 : ∀ k, mrun two one a b v (k + 1) (x :: xs) st fu out = (mdo two one a b v k x st (fu - 1) out).bind fun r => if r.1 = 0 then mrun two one a b v k xs r.2.1 r.2.2.1 r.2.2.2 else some r := fun k => by rw [mrun, if_pos hlen, if_neg c0, w1]
  have s2 : ∀ k, mrun two2 one2 a b v (k + 1) (x :: xs) st fu out = (mdo two2 one2 a b v k x st (fu - 1) out).bind fun r => if r.1 = 0 then mrun two2 one2 a b v k xs r.2.1 r.2.2.1 r.2.2.2 else some r := fun k => by rw [mrun, if_pos hlen, if_neg c0, w1]
  obtain ⟨b1, b2, b3, b4⟩ := mv_bd x.f0
  obtain ⟨⟨e, st2, fu2, out2⟩, h1, h2, h3, h4, h5, h6, h7⟩ := do_sound A ha hb hv F ih x hok hrn now _ rfl (by omega) hn16 h16 hcb hrb st (fu - 1) out hl hz (by omega) (by omega) (by omega) ho
  dsimp only at h3 h4 h5 h6 h7
  by_cases c3 : e = 0
  ·
   subst c3
   obtain ⟨r2, g1, g2, g3, g4, g5, g6, g7⟩ := ih (F - 1) (by omega) xs base _ n' hcs hrs hb0 hn16 st2 fu2 out2 (h7 rfl).1 h6 h3 (by omega) (by omega) h5
   exact ⟨r2, Ev.step s1 (Ev.bind h1 (by simpa using g1)), Ev.step s2 (Ev.bind h2 (by simpa using g2)), g3, by omega, g5, g6, fun h => ⟨(g7 h).1, fun _ => by omega⟩⟩
  ·
   exact ⟨(e, st2, fu2, out2), Ev.step s1 (Ev.bind h1 (by simpa [c3] using Ev.now _)), Ev.step s2 (Ev.bind h2 (by simpa [c3] using Ev.now _)), h3, by dsimp only; omega, h5, h6, fun h => absurd h c3⟩
end

end Go.Proofs.Ytchgjkfnmifgkaa.QE
