/- Which ops may be, and how many there are: what the program's count and the page's come to, in plain Lean. -/
import Derived.Test.YtchgjkfnmifgkaaTyQE
import Derived.Test.YtchgjkfnmifgkaaQEx3
namespace Go.Proofs.Ytchgjkfnmifgkaa.QE
open Go.RowKit Go.Proofs.YtchgjkfnmifgkaaW.PrintWords Go.Proofs.YtchgjkfnmifgkaaW.PrintLast Go.Proofs.YtchgjkfnmifgkaaW.PrintMore
set_option linter.unusedVariables false
set_option linter.unusedSimpArgs false

/-- A list of ops, to go through by what it holds. -/
inductive Tr : List S34 → Prop
  | nil : Tr []
  | cons {x : S34} {xs : List S34} (hl : x.f2.length < 140737488355328) (hb : Tr x.f2) (hs : Tr xs) : Tr (x :: xs)

theorem Tr.of_all : ∀ {l : List S34}, (∀ y ∈ l, y.f2.length < 140737488355328 ∧ Tr y.f2) → Tr l
  | [], _ => .nil
  | x :: xs, h => .cons (h x List.mem_cons_self).1 (h x List.mem_cons_self).2 (Tr.of_all (fun y hy => h y (List.mem_cons_of_mem _ hy)))
theorem Good34.len {x : S34} (h : Good34 x) : x.f2.length < 140737488355328 := by
  cases h with
  | mk h _ => omega
theorem Good34.tr {x : S34} (h : Good34 x) : Tr x.f2 := by
  induction h with
  | mk h hs ih => exact Tr.of_all (fun y hy => ⟨(hs y hy).len, ih y hy⟩)
theorem Tr.of_good {l : List S34} (h : ∀ y ∈ l, Good34 y) : Tr l := Tr.of_all (fun y hy => ⟨(h y hy).len, (h y hy).tr⟩)

/-- An op that may be, its block aside. -/
def okOp (x : S34) : Prop := (1 ≤ x.f0 ∧ x.f0 ≤ 30) ∧ (x.f1 = 0 ∨ x.f0 = 1) ∧ (x.f2 = [] ∨ x.f0 = 28 ∨ x.f0 = 29)
instance (x : S34) : Decidable (x.f2 = []) := match h : x.f2 with
  | [] => isTrue rfl
  | _ :: _ => isFalse (by simp)
instance (x : S34) : Decidable (okOp x) := by unfold okOp; infer_instance

/-- So many ops that may be, from a depth on. -/
inductive Okl : Int → List S34 → Int → Prop
  | nil {d : Int} : Okl d [] 0
  | plain {d : Int} {x : S34} {xs : List S34} {n : Int} (hk : okOp x) (hnb : ¬ (x.f0 = 28 ∨ x.f0 = 29)) (hs : Okl d xs n) : Okl d (x :: xs) (n + 1)
  | block {d : Int} {x : S34} {xs : List S34} {m n : Int} (hk : okOp x) (hb : x.f0 = 28 ∨ x.f0 = 29) (hd : d < 6) (hm : Okl (d + 1) x.f2 m) (hs : Okl d xs n) : Okl d (x :: xs) (m + n + 1)

theorem Okl.ge {d : Int} {l : List S34} {n : Int} (h : Okl d l n) : 0 ≤ n := by
  induction h with
  | nil => omega
  | plain _ _ _ ih => omega
  | block _ _ _ _ _ ih1 ih2 => omega

theorem lc_step (k : Nat) (d acc : Int) (L : List S34) (i : Nat) (hi : i < L.length) : lang_count.l0 (k + 1) d acc L (L.length : Int) (i : Int) = lang_count.j1 k d (wrap64 (acc + 1)) (decide (okOp (rd_T34 L i))) L (L.length : Int) (i : Int) (rd_T34 L i).f0 (rd_T34 L i).f1 (rd_T34 L i).f2 := by
  rw [lang_count.l0]
  rw [if_pos (by omega), if_pos (by omega), if_pos (by omega)]
  generalize rd_T34 L (i : Int) = x
  obtain ⟨f0, f1, f2⟩ := x
  dsimp only
  have hlb : lang_block.f f0 = some (decide (f0 = 28 ∨ f0 = 29)) := by
    unfold lang_block.f
    by_cases h : f0 = 28
    · simp [h]
    · by_cases h2 : f0 = 29 <;> simp [h, h2]
  by_cases h1 : f0 ≥ 1
  · rw [if_pos h1]
    by_cases h2 : f0 ≤ 30
    · rw [if_pos h2]
      by_cases h3 : f1 = 0
      · rw [if_pos h3]
        cases f2 with
        | nil =>
          rw [if_pos (by simp), show decide (okOp ⟨f0, f1, []⟩) = true from decide_eq_true ⟨⟨h1, h2⟩, .inl h3, .inl rfl⟩]
        | cons y ys =>
          rw [if_neg (by simp; omega), hlb, Option.bind_some]
          congr 1
          by_cases h5 : f0 = 28 ∨ f0 = 29
          · rw [decide_eq_true h5]; exact (decide_eq_true (show okOp ⟨f0, f1, y :: ys⟩ from ⟨⟨h1, h2⟩, .inl h3, .inr h5⟩)).symm
          · rw [decide_eq_false h5]; exact (decide_eq_false (fun h : okOp ⟨f0, f1, y :: ys⟩ => h.2.2.elim (by simp) h5)).symm
      · rw [if_neg h3]
        by_cases h4 : f0 = 1
        · rw [if_pos h4]
          cases f2 with
          | nil =>
            rw [if_pos (by simp), show decide (okOp ⟨f0, f1, []⟩) = true from decide_eq_true ⟨⟨h1, h2⟩, .inr h4, .inl rfl⟩]
          | cons y ys =>
            rw [if_neg (by simp; omega), hlb, Option.bind_some]
            congr 1
            by_cases h5 : f0 = 28 ∨ f0 = 29
            · rw [decide_eq_true h5]; exact (decide_eq_true (show okOp ⟨f0, f1, y :: ys⟩ from ⟨⟨h1, h2⟩, .inr h4, .inr h5⟩)).symm
            · rw [decide_eq_false h5]; exact (decide_eq_false (fun h : okOp ⟨f0, f1, y :: ys⟩ => h.2.2.elim (by simp) h5)).symm
        · rw [if_neg h4, show decide (okOp ⟨f0, f1, f2⟩) = false from decide_eq_false (fun h => h.2.1.elim h3 h4)]
    · rw [if_neg h2, show decide (okOp ⟨f0, f1, f2⟩) = false from decide_eq_false (fun h => h2 h.1.2)]
  · rw [if_neg h1, show decide (okOp ⟨f0, f1, f2⟩) = false from decide_eq_false (fun h => h1 h.1.1)]

/-- What the count of ops comes to: so many, if they may be and are not too many; else more than may be. -/
def Cnt (d : Int) (xs : List S34) (acc c : Int) : Prop := (∃ n, Okl d xs n ∧ acc + n ≤ 128 ∧ c = acc + n) ∨ ((∀ n, Okl d xs n → 128 < acc + n) ∧ 128 < c)

theorem Okl.nil_inv {d n : Int} (h : Okl d [] n) : n = 0 := by cases h; rfl
theorem Okl.cons_inv {d : Int} {x : S34} {xs : List S34} {n : Int} (h : Okl d (x :: xs) n) : okOp x ∧ ((¬ (x.f0 = 28 ∨ x.f0 = 29) ∧ ∃ k, Okl d xs k ∧ n = k + 1) ∨ ((x.f0 = 28 ∨ x.f0 = 29) ∧ d < 6 ∧ ∃ m k, Okl (d + 1) x.f2 m ∧ Okl d xs k ∧ n = m + k + 1)) := by
  cases h with
  | plain hk hnb hs => exact ⟨hk, .inl ⟨hnb, _, hs, rfl⟩⟩
  | block hk hb hd hm hs => exact ⟨hk, .inr ⟨hb, hd, _, _, hm, hs, rfl⟩⟩
theorem Okl.uniq {d : Int} {l : List S34} {n : Int} (h : Okl d l n) : ∀ {n' : Int}, Okl d l n' → n = n' := by
  induction h with
  | nil => intro n' h'; exact h'.nil_inv.symm
  | plain hk hnb hs ih =>
    intro n' h'
    obtain ⟨_, h | h⟩ := h'.cons_inv
    · obtain ⟨_, k, hk', rfl⟩ := h
      rw [ih hk']
    · exact absurd h.1 hnb
  | block hk hb hd hm hs ihm ihs =>
    intro n' h'
    obtain ⟨_, h | h⟩ := h'.cons_inv
    · exact absurd hb h.1
    · obtain ⟨_, _, m, k, hm', hk', rfl⟩ := h
      rw [ihm hm', ihs hk']
theorem lang_block_eq (f0 : Int) : lang_block.f f0 = some (decide (f0 = 28 ∨ f0 = 29)) := by
  unfold lang_block.f
  by_cases h : f0 = 28
  · simp [h]
  · by_cases h2 : f0 = 29 <;> simp [h, h2]
theorem lc_ev {xs : List S34} (h : Tr xs) : ∀ (d acc : Int) (L : List S34) (i : Nat), L.drop i = xs → L.length < 140737488355328 → 0 ≤ d → d ≤ 7 → 0 ≤ acc → acc ≤ 128 * (9 - d) + 1 → (d = 7 → xs = []) →
    ∃ c, Ev (fun k => lang_count.l0 k d acc L (L.length : Int) (i : Int)) c ∧ Cnt d xs acc c ∧ 0 ≤ c ∧ c ≤ 128 * (9 - d) + 1 := by
  induction h with
  | nil =>
    intro d acc L i hL hlen h0 h6 ha0 ha1 _
    have hi : L.length ≤ i := by simpa using List.drop_eq_nil_iff.mp hL
    refine ⟨acc, Ev.step (f := fun _ => some acc) (fun k => by rw [lang_count.l0, if_neg (by omega)]) (Ev.now _), ?_, ha0, ha1⟩
    by_cases h : acc ≤ 128
    · exact .inl ⟨0, .nil, by omega, by omega⟩
    · exact .inr ⟨fun n hn => by have := hn.ge; omega, by omega⟩
  | @cons x xs hl hb hs ihb ihs =>
    intro d acc L i hL hlen h0 h6 ha0 ha1 h7
    have hi : i < L.length := by
      rcases Nat.lt_or_ge i L.length with h | h
      · exact h
      · rw [List.drop_eq_nil_of_le h] at hL; simp at hL
    have hx : rd_T34 L (i : Int) = x := by
      unfold rd_T34
      rw [List.getD_eq_getElem?_getD]
      rw [List.drop_eq_getElem_cons hi] at hL
      simp only [List.cons.injEq] at hL
      simp [hi, hL.1]
    have hL2 : L.drop (i + 1) = xs := by
      rw [List.drop_eq_getElem_cons hi] at hL
      simp only [List.cons.injEq] at hL
      exact hL.2
    have hd6 : d ≤ 6 := by
      rcases Int.lt_or_le d 7 with h | h
      · omega
      · exact absurd (h7 (by omega)) (by simp)
    have ha1' : wrap64 (acc + 1) = acc + 1 := by unfold wrap64; omega
    have hi1 : wrap64 ((i : Int) + 1) = ((i + 1 : Nat) : Int) := by unfold wrap64; omega
    have hd1 : wrap64 (d + 1) = d + 1 := by unfold wrap64; omega
    by_cases hok : okOp x
    · by_cases hm : acc + 1 > 128
      · refine ⟨129, Ev.step (fun k => lc_step k d acc L i hi) (Ev.step (f := fun _ => some 129) (fun k => by rw [lang_count.j1, hx, decide_eq_true hok, if_pos rfl, ha1', if_pos hm]) (Ev.now _)), .inr ⟨fun n hn => ?_, by omega⟩, by omega, by omega⟩
        obtain ⟨_, h | h⟩ := hn.cons_inv
        · obtain ⟨_, k, hk, rfl⟩ := h; have := hk.ge; omega
        · obtain ⟨_, _, m, k, hm2, hk, rfl⟩ := h; have := hk.ge; have := hm2.ge; omega
      · by_cases hb2 : x.f0 = 28 ∨ x.f0 = 29
        · by_cases h6' : d = 6
          · refine ⟨129, Ev.step (fun k => lc_step k d acc L i hi) (Ev.step (f := fun _ => some 129) (fun k => by rw [lang_count.j1, hx, decide_eq_true hok, if_pos rfl, ha1', if_neg hm, lang_block_eq, Option.bind_some, decide_eq_true hb2, if_pos rfl, if_pos h6']) (Ev.now _)), .inr ⟨fun n hn => ?_, by omega⟩, by omega, by omega⟩
            obtain ⟨_, h | h⟩ := hn.cons_inv
            · exact absurd hb2 h.1
            · obtain ⟨_, h, _⟩ := h; omega
          · obtain ⟨c1, hev1, hc1, hc10, hc11⟩ := ihb (d + 1) 0 x.f2 0 rfl hl (by omega) (by omega) (by omega) (by omega) (fun h => by omega)
            have hw : wrap64 (acc + 1 + c1) = acc + 1 + c1 := by unfold wrap64; omega
            obtain ⟨c2, hev2, hc2, hc20, hc21⟩ := ihs d (acc + 1 + c1) L (i + 1) hL2 hlen h0 h6 (by omega) (by omega) (fun h => by omega)
            refine ⟨c2, Ev.step (fun k => lc_step k d acc L i hi) (Ev.step (f := fun k => (lang_count.f k x.f2 (d + 1)).bind fun t => lang_count.l0 k d (wrap64 (acc + 1 + t)) L (L.length : Int) ((i + 1 : Nat) : Int)) (fun k => by rw [lang_count.j1, hx, decide_eq_true hok, if_pos rfl, ha1', if_neg hm, lang_block_eq, Option.bind_some, decide_eq_true hb2, if_pos rfl, if_neg h6', hd1, hi1]) (Ev.bind (a := c1) (Ev.step (f := fun k => lang_count.l0 k (d + 1) 0 x.f2 (x.f2.length : Int) ((0 : Nat) : Int)) (fun k => rfl) hev1) (by simp only [hw]; exact hev2))), ?_, hc20, hc21⟩
            rcases hc1 with ⟨m, hm1, hm2, rfl⟩ | ⟨hn1, hn2⟩
            · rcases hc2 with ⟨n, hn1, hn2, rfl⟩ | ⟨hn1, hn2⟩
              · exact .inl ⟨m + n + 1, .block hok hb2 (by omega) hm1 hn1, by omega, by omega⟩
              · refine .inr ⟨fun n hn => ?_, hn2⟩
                obtain ⟨_, h | h⟩ := hn.cons_inv
                · exact absurd hb2 h.1
                · obtain ⟨_, _, m', k', hm', hk', rfl⟩ := h
                  have := hn1 k' hk'
                  have := hm1.uniq hm'
                  omega
            · refine .inr ⟨fun n hn => ?_, ?_⟩
              · obtain ⟨_, h | h⟩ := hn.cons_inv
                · exact absurd hb2 h.1
                · obtain ⟨_, _, m', k', hm', hk', rfl⟩ := h
                  have := hn1 m' hm'
                  have := hk'.ge
                  omega
              · rcases hc2 with ⟨n, hn1', hn2', rfl⟩ | ⟨_, h⟩
                · have := hn1'.ge; omega
                · exact h
        · have hnil : x.f2 = [] := by
            rcases hok.2.2 with h | h
            · exact h
            · exact absurd h hb2
          obtain ⟨c1, hev1, hc1, hc10, hc11⟩ := ihb (d + 1) 0 x.f2 0 rfl hl (by omega) (by omega) (by omega) (by omega) (fun h => hnil)
          have hc0 : c1 = 0 := by
            rw [hnil] at hc1
            rcases hc1 with ⟨n, hn, _, rfl⟩ | ⟨h, _⟩
            · have := hn.nil_inv; omega
            · have := h 0 .nil; omega
          subst hc0
          have hw : wrap64 (acc + 1 + 0) = acc + 1 := by unfold wrap64; omega
          obtain ⟨c2, hev2, hc2, hc20, hc21⟩ := ihs d (acc + 1) L (i + 1) hL2 hlen h0 h6 (by omega) (by omega) (fun h => by omega)
          refine ⟨c2, Ev.step (fun k => lc_step k d acc L i hi) (Ev.step (f := fun k => (lang_count.f k x.f2 (d + 1)).bind fun t => lang_count.l0 k d (wrap64 (acc + 1 + t)) L (L.length : Int) ((i + 1 : Nat) : Int)) (fun k => by rw [lang_count.j1, hx, decide_eq_true hok, if_pos rfl, ha1', if_neg hm, lang_block_eq, Option.bind_some, decide_eq_false hb2, if_neg (by decide), hd1, hi1]) (Ev.bind (a := 0) (Ev.step (f := fun k => lang_count.l0 k (d + 1) 0 x.f2 (x.f2.length : Int) ((0 : Nat) : Int)) (fun k => rfl) hev1) (by simp only [hw]; exact hev2))), ?_, hc20, hc21⟩
          rcases hc2 with ⟨n, hn1, hn2, rfl⟩ | ⟨hn1, hn2⟩
          · exact .inl ⟨n + 1, .plain hok hb2 hn1, by omega, by omega⟩
          · refine .inr ⟨fun n hn => ?_, hn2⟩
            obtain ⟨_, h | h⟩ := hn.cons_inv
            · obtain ⟨_, k', hk', rfl⟩ := h
              have := hn1 k' hk'
              omega
            · exact absurd h.1 hb2
    · refine ⟨129, Ev.step (fun k => lc_step k d acc L i hi) (Ev.step (f := fun _ => some 129) (fun k => by rw [lang_count.j1, hx, decide_eq_false hok, if_neg (by decide)]) (Ev.now _)), .inr ⟨fun n hn => absurd hn.cons_inv.1 hok, by omega⟩, by omega, by omega⟩

/-- Whether a list of ops may be. -/
def Fits (l : List S34) : Prop := ∃ n, Okl 0 l n ∧ n ≤ 128

theorem lang_check_ev {l : List S34} (h : Tr l) (hl : l.length < 140737488355328) : ∃ e, Ev (fun k => lang_Check.f k l) e ∧ ((e = 0 ∧ Fits l) ∨ (e = 1 ∧ ¬ Fits l)) := by
  obtain ⟨c, hev, hc, h0, h1⟩ := lc_ev h 0 0 l 0 rfl hl (by omega) (by omega) (by omega) (by omega) (fun h => by omega)
  have hf : Ev (fun k => lang_count.f k l 0) c := Ev.step (f := fun k => lang_count.l0 k 0 0 l (l.length : Int) ((0 : Nat) : Int)) (fun k => rfl) hev
  rcases hc with ⟨n, hn, hn2, rfl⟩ | ⟨hn, hc⟩
  · refine ⟨0, ?_, .inl ⟨rfl, n, hn, by omega⟩⟩
    refine Ev.congr (f := fun k => ((lang_count.f k l 0).bind fun t => if t > 128 then some (0, 1) else some (t, 0)).bind fun b => some b.2) (fun k => rfl) ?_
    exact Ev.bind (a := (0 + n, 0)) (Ev.bind (a := 0 + n) hf (by simp only [if_neg (show ¬ (0 + n > 128) by omega)]; exact Ev.now _)) (Ev.now _)
  · refine ⟨1, ?_, .inr ⟨rfl, fun ⟨n, hn', hn2⟩ => by have := hn n hn'; omega⟩⟩
    refine Ev.congr (f := fun k => ((lang_count.f k l 0).bind fun t => if t > 128 then some (0, 1) else some (t, 0)).bind fun b => some b.2) (fun k => rfl) ?_
    exact Ev.bind (a := (0, 1)) (Ev.bind (a := c) hf (by simp only [if_pos (show c > 128 by omega)]; exact Ev.now _)) (Ev.now _)

end Go.Proofs.Ytchgjkfnmifgkaa.QE
