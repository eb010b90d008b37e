/- Which ops may be: the page's count, in plain Lean. -/
import Derived.Test.YtchgjkfnmifgkaaOpsLaw
import Derived.Test.YtchgjkfnmifgkaaQEx2
namespace Go.Proofs.Ytchgjkfnmifgkaa.QE
open Go.RowKit Go.Proofs.YtchgjkfnmifgkaaW.PrintWords Go.Proofs.YtchgjkfnmifgkaaW.PrintLast Go.Proofs.YtchgjkfnmifgkaaW.PrintMore
set_option linter.unusedVariables false
set_option linter.unusedSimpArgs false

theorem rc_j1 (k : Nat) (L : List S34) (d many i : Int) (x : S34) : thresherref6_count.j1 (k + 1) L d many i (decide (x.f0 = 28 ∨ x.f0 = 29)) x.f0 x.f1 x.f2 = thresherref6_count.j2 k L d many i (decide (x.f0 = 28 ∨ x.f0 = 29)) (decide (¬ okOp x)) x.f0 x.f1 x.f2 := by
  rw [thresherref6_count.j1]
  obtain ⟨f0, f1, f2⟩ := x
  dsimp only
  have key : ∀ hN : f1 = 0 ∨ f0 = 1, 1 ≤ f0 → f0 ≤ 30 → (if decide (f0 = 28 ∨ f0 = 29) = true then thresherref6_count.j2 k L d many i (decide (f0 = 28 ∨ f0 = 29)) false f0 f1 f2 else thresherref6_count.j2 k L d many i (decide (f0 = 28 ∨ f0 = 29)) (decide ((f2.length : Int) > 0)) f0 f1 f2) = thresherref6_count.j2 k L d many i (decide (f0 = 28 ∨ f0 = 29)) (decide (¬ okOp ⟨f0, f1, f2⟩)) f0 f1 f2 := by
    intro hN h1 h2
    by_cases h5 : f0 = 28 ∨ f0 = 29
    · rw [if_pos (decide_eq_true h5)]
      congr 1
      exact (decide_eq_false (fun h : ¬ okOp ⟨f0, f1, f2⟩ => h ⟨⟨h1, h2⟩, hN, .inr h5⟩)).symm
    · rw [if_neg (by simpa using h5)]
      congr 1
      cases f2 with
      | nil => exact (decide_eq_false (by simp)).trans (decide_eq_false (fun h : ¬ okOp ⟨f0, f1, []⟩ => h ⟨⟨h1, h2⟩, hN, .inl rfl⟩)).symm
      | cons y ys => exact (decide_eq_true (by simp)).trans (decide_eq_true (show ¬ okOp ⟨f0, f1, y :: ys⟩ from fun h => h.2.2.elim (by simp) h5)).symm
  by_cases h1 : f0 < 1
  · rw [if_pos h1, decide_eq_true (show ¬ okOp ⟨f0, f1, f2⟩ from fun h => by have := h.1.1; dsimp only at this; omega)]
  · rw [if_neg h1]
    by_cases h2 : f0 > 30
    · rw [if_pos h2, decide_eq_true (show ¬ okOp ⟨f0, f1, f2⟩ from fun h => by have := h.1.2; dsimp only at this; omega)]
    · rw [if_neg h2]
      by_cases h3 : f0 = 1
      · rw [if_pos h3]
        exact key (.inr h3) (by omega) (by omega)
      · rw [if_neg h3]
        by_cases h4 : f1 = 0
        · rw [if_pos h4]
          exact key (.inl h4) (by omega) (by omega)
        · rw [if_neg h4, decide_eq_true (show ¬ okOp ⟨f0, f1, f2⟩ from fun h => h.2.1.elim h4 h3)]

theorem rc_step (k : Nat) (L : List S34) (d many : Int) (i : Nat) (hi : i < L.length) : thresherref6_count.l0 (k + 1) L d many (i : Int) = if wrap64 (many + 1) > 128 then some (wrap64 (many + 1), false) else thresherref6_count.j1 k L d (wrap64 (many + 1)) (i : Int) (decide ((rd_T34 L i).f0 = 28 ∨ (rd_T34 L i).f0 = 29)) (rd_T34 L i).f0 (rd_T34 L i).f1 (rd_T34 L i).f2 := by
  rw [thresherref6_count.l0, if_pos (by omega)]
  by_cases h : wrap64 (many + 1) > 128
  · rw [if_pos h, if_pos h]
  · rw [if_neg h, if_neg h, if_pos (by omega)]
    by_cases h2 : (rd_T34 L (i : Int)).f0 = 28
    · rw [if_pos h2, decide_eq_true (show (rd_T34 L (i : Int)).f0 = 28 ∨ (rd_T34 L (i : Int)).f0 = 29 from .inl h2)]
    · rw [if_neg h2]
      congr 1
      by_cases h3 : (rd_T34 L (i : Int)).f0 = 29 <;> simp [h2, h3]

def RCnt (d : Int) (xs : List S34) (many m : Int) (ok : Bool) : Prop := (ok = true ∧ ∃ n, Okl d xs n ∧ many + n ≤ 128 ∧ m = many + n) ∨ (ok = false ∧ ∀ n, Okl d xs n → 128 < many + n)

theorem rc_ev {xs : List S34} (h : Tr xs) : ∀ (d many : Int) (L : List S34) (i : Nat), L.drop i = xs → L.length < 140737488355328 → 0 ≤ d → d ≤ 6 → 0 ≤ many → many ≤ 128 →
    ∃ m ok, Ev (fun k => thresherref6_count.l0 k L d many (i : Int)) (m, ok) ∧ RCnt d xs many m ok := by
  induction h with
  | nil =>
    intro d many L i hL hlen h0 h6 ha0 ha1
    have hi : L.length ≤ i := by simpa using List.drop_eq_nil_iff.mp hL
    exact ⟨many, true, Ev.step (f := fun _ => some (many, true)) (fun k => by rw [thresherref6_count.l0, if_neg (by omega)]) (Ev.now _), .inl ⟨rfl, 0, .nil, by omega, by omega⟩⟩
  | @cons x xs hl hb hs ihb ihs =>
    intro d many L i hL hlen h0 h6 ha0 ha1
    have hi : i < L.length := by
      rcases Nat.lt_or_ge i L.length with h | h
      · exact h
      · rw [List.drop_eq_nil_of_le h] at hL; simp at hL
    have hx : rd_T34 L (i : Int) = x := by
      unfold rd_T34
      rw [List.getD_eq_getElem?_getD]
      rw [List.drop_eq_getElem_cons hi] at hL
      simp only [List.cons.injEq] at hL
      simp [hi, hL.1]
    have hL2 : L.drop (i + 1) = xs := by
      rw [List.drop_eq_getElem_cons hi] at hL
      simp only [List.cons.injEq] at hL
      exact hL.2
    have ha1' : wrap64 (many + 1) = many + 1 := by unfold wrap64; omega
    have hi1 : wrap64 ((i : Int) + 1) = ((i + 1 : Nat) : Int) := by unfold wrap64; omega
    have hd1 : wrap64 (d + 1) = d + 1 := by unfold wrap64; omega
    by_cases hm : many + 1 > 128
    · refine ⟨many + 1, false, Ev.step (f := fun _ => some (many + 1, false)) (fun k => by rw [rc_step k L d many i hi, ha1', if_pos hm]) (Ev.now _), .inr ⟨rfl, fun n hn => ?_⟩⟩
      obtain ⟨_, h | h⟩ := hn.cons_inv
      · obtain ⟨_, k, hk, rfl⟩ := h; have := hk.ge; omega
      · obtain ⟨_, _, m, k, hm2, hk, rfl⟩ := h; have := hk.ge; have := hm2.ge; omega
    · have st1 : ∀ k, thresherref6_count.l0 (k + 1 + 1) L d many (i : Int) = thresherref6_count.j2 k L d (many + 1) (i : Int) (decide (x.f0 = 28 ∨ x.f0 = 29)) (decide (¬ okOp x)) x.f0 x.f1 x.f2 := fun k => by
        rw [rc_step (k + 1) L d many i hi, ha1', if_neg hm, hx, rc_j1]
      have two : ∀ {r : Int × Bool} {f : Nat → Option (Int × Bool)}, (∀ k, thresherref6_count.j2 (k + 1) L d (many + 1) (i : Int) (decide (x.f0 = 28 ∨ x.f0 = 29)) (decide (¬ okOp x)) x.f0 x.f1 x.f2 = f k) → Ev f r → Ev (fun k => thresherref6_count.l0 k L d many (i : Int)) r := fun hf hr =>
        Ev.step (f := fun k => thresherref6_count.l0 (k + 1) L d many (i : Int)) (fun k => rfl) (Ev.step (f := fun k => thresherref6_count.j2 k L d (many + 1) (i : Int) (decide (x.f0 = 28 ∨ x.f0 = 29)) (decide (¬ okOp x)) x.f0 x.f1 x.f2) st1 (Ev.step hf hr))
      by_cases hok : okOp x
      · have hbad : decide (¬ okOp x) = false := decide_eq_false (fun h => h hok)
        by_cases hb2 : x.f0 = 28 ∨ x.f0 = 29
        · have hj : ∀ k, thresherref6_count.j2 (k + 1) L d (many + 1) (i : Int) (decide (x.f0 = 28 ∨ x.f0 = 29)) (decide (¬ okOp x)) x.f0 x.f1 x.f2 = (thresherref6_count.f k x.f2 (d + 1) (many + 1)).bind fun bt => if bt.2 = true then thresherref6_count.l0 k L d bt.1 ((i + 1 : Nat) : Int) else some (bt.1, false) := fun k => by
            rw [thresherref6_count.j2, hbad, if_neg (by decide), decide_eq_true hb2, if_pos rfl, hd1, hi1]
          by_cases h6' : d = 6
          · refine ⟨many + 1, false, two hj (Ev.bind (a := (many + 1, false)) (Ev.step (f := fun _ => some (many + 1, false)) (fun k => by rw [thresherref6_count.f, if_pos (by omega)]) (Ev.now _)) (Ev.now _)), .inr ⟨rfl, fun n hn => ?_⟩⟩
            obtain ⟨_, h | h⟩ := hn.cons_inv
            · exact absurd hb2 h.1
            · obtain ⟨_, h, _⟩ := h; omega
          · obtain ⟨m1, ok1, hev1, hc1⟩ := ihb (d + 1) (many + 1) x.f2 0 rfl hl (by omega) (by omega) (by omega) (by omega)
            have hf1 : Ev (fun k => thresherref6_count.f k x.f2 (d + 1) (many + 1)) (m1, ok1) := Ev.step (f := fun k => thresherref6_count.l0 k x.f2 (d + 1) (many + 1) ((0 : Nat) : Int)) (fun k => by rw [thresherref6_count.f, if_neg (by omega)]; rfl) hev1
            rcases hc1 with ⟨rfl, n1, hn1, hn2, rfl⟩ | ⟨rfl, hno⟩
            · obtain ⟨m2, ok2, hev2, hc2⟩ := ihs d (many + 1 + n1) L (i + 1) hL2 hlen h0 h6 (by have := hn1.ge; omega) (by omega)
              refine ⟨m2, ok2, two hj (Ev.bind (a := (many + 1 + n1, true)) hf1 (by simpa using hev2)), ?_⟩
              rcases hc2 with ⟨rfl, n2, hn3, hn4, rfl⟩ | ⟨rfl, hno⟩
              · exact .inl ⟨rfl, n1 + n2 + 1, .block hok hb2 (by omega) hn1 hn3, by omega, by omega⟩
              · refine .inr ⟨rfl, fun n hn => ?_⟩
                obtain ⟨_, h | h⟩ := hn.cons_inv
                · exact absurd hb2 h.1
                · obtain ⟨_, _, m', k', hm', hk', rfl⟩ := h
                  have := hno k' hk'
                  have := hn1.uniq hm'
                  omega
            · refine ⟨m1, false, two hj (Ev.bind (a := (m1, false)) hf1 (Ev.now _)), .inr ⟨rfl, fun n hn => ?_⟩⟩
              obtain ⟨_, h | h⟩ := hn.cons_inv
              · exact absurd hb2 h.1
              · obtain ⟨_, _, m', k', hm', hk', rfl⟩ := h
                have := hno m' hm'
                have := hk'.ge
                omega
        · obtain ⟨m2, ok2, hev2, hc2⟩ := ihs d (many + 1) L (i + 1) hL2 hlen h0 h6 (by omega) (by omega)
          refine ⟨m2, ok2, two (f := fun k => thresherref6_count.l0 k L d (many + 1) ((i + 1 : Nat) : Int)) (fun k => by
            rw [thresherref6_count.j2, hbad, if_neg (by decide), decide_eq_false hb2, if_neg (by decide), hi1]) hev2, ?_⟩
          rcases hc2 with ⟨rfl, n2, hn3, hn4, rfl⟩ | ⟨rfl, hno⟩
          · exact .inl ⟨rfl, n2 + 1, .plain hok hb2 hn3, by omega, by omega⟩
          · refine .inr ⟨rfl, fun n hn => ?_⟩
            obtain ⟨_, h | h⟩ := hn.cons_inv
            · obtain ⟨_, k', hk', rfl⟩ := h
              have := hno k' hk'
              omega
            · exact absurd h.1 hb2
      · refine ⟨many + 1, false, two (f := fun _ => some (many + 1, false)) (fun k => by rw [thresherref6_count.j2, decide_eq_true hok, if_pos rfl]) (Ev.now _), .inr ⟨rfl, fun n hn => absurd hn.cons_inv.1 hok⟩⟩

theorem ops_ev {l : List S34} (h : Tr l) (hl : l.length < 140737488355328) : ∃ m ok, Ev (fun k => thresherref6_Ops.f k l) (m, ok) ∧ (ok = true ↔ Fits l) := by
  obtain ⟨m, ok, hev, hc⟩ := rc_ev h 0 0 l 0 rfl hl (by omega) (by omega) (by omega) (by omega)
  refine ⟨m, ok, ?_, ?_⟩
  · refine Ev.congr (f := fun k => (thresherref6_count.f k l 0 0).bind fun b => some (b.1, b.2)) (fun k => rfl) (Ev.bind (a := (m, ok)) (Ev.step (f := fun k => thresherref6_count.l0 k l 0 0 ((0 : Nat) : Int)) (fun k => by rw [thresherref6_count.f, if_neg (by omega)]; rfl) hev) (Ev.now _))
  · rcases hc with ⟨rfl, n, hn, hn2, _⟩ | ⟨rfl, hno⟩
    · exact ⟨fun _ => ⟨n, hn, by omega⟩, fun _ => rfl⟩
    · exact ⟨fun h => by simp at h, fun ⟨n, hn, hn2⟩ => by have := hno n hn; omega⟩
end Go.Proofs.Ytchgjkfnmifgkaa.QE
