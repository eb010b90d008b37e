/- Two programs, one behind the other, in plain Lean. -/
import Derived.Test.YtchgjkfnmifgkaaNeedLaw
namespace Go.Proofs.Ytchgjkfnmifgkaa.QE
open Go.RowKit Go.Proofs.YtchgjkfnmifgkaaW.PrintWords Go.Proofs.YtchgjkfnmifgkaaW.PrintLast Go.Proofs.YtchgjkfnmifgkaaW.PrintMore
set_option linter.unusedVariables false
set_option linter.unusedSimpArgs false

theorem Okl.split {d : Int} {ys : List S34} : ∀ {xs : List S34} {n : Int}, Okl d (xs ++ ys) n → ∃ a b, Okl d xs a ∧ Okl d ys b ∧ n = a + b
  | [], n, h => ⟨0, n, .nil, h, by omega⟩
  | x :: xs, n, h => by
    obtain ⟨hk, h | h⟩ := Okl.cons_inv h
    · obtain ⟨hnb, k, hk2, rfl⟩ := h
      obtain ⟨a, b, ha, hb, rfl⟩ := Okl.split hk2
      exact ⟨a + 1, b, .plain hk hnb ha, hb, by omega⟩
    · obtain ⟨hb2, hd, m, k, hm, hk2, rfl⟩ := h
      obtain ⟨a, b, ha, hb, rfl⟩ := Okl.split hk2
      exact ⟨m + a + 1, b, .block hk hb2 hd hm ha, hb, by omega⟩
theorem Fits.left {xs ys : List S34} (h : Fits (xs ++ ys)) : Fits xs := by
  obtain ⟨n, hn, h⟩ := h
  obtain ⟨a, b, ha, hb, rfl⟩ := Okl.split hn
  have := hb.ge
  exact ⟨a, ha, by omega⟩
theorem Fits.right {xs ys : List S34} (h : Fits (xs ++ ys)) : Fits ys := by
  obtain ⟨n, hn, h⟩ := h
  obtain ⟨a, b, ha, hb, rfl⟩ := Okl.split hn
  have := ha.ge
  exact ⟨b, hb, by omega⟩

theorem cb_at {k K : Nat} {a b c : Int} {l : List S34} {r : Int × Int × Int} (hk : k ≤ K) (h : check_block.f k a b c l = some r) : check_block.f K a b c l = some r := at_rounds (g := fun k => check_block.f k a b c l) (fun k => check_block.mono_l k a b c l) hk h

theorem cb_app (ys : List S34) (r : Int × Int × Int) (j : Nat) : ∀ k xs base now most e n' m', (xs ++ ys).length < 140737488355328 → check_block.f k base now most xs = some (e, n', m') → (e = 0 → check_block.f j base n' m' ys = some r) → ∃ K, check_block.f K base now most (xs ++ ys) = some (if e = 0 then r else (e, n', m'))
  | 0, _, _, _, _, _, _, _, _, h, _ => by simp [check_block.f] at h
  | k + 1, [], base, now, most, e, n', m', hl, h, hy => by
    simp only [check_block.f, Option.some.injEq, Prod.mk.injEq] at h
    obtain ⟨rfl, rfl, rfl⟩ := h
    exact ⟨j, by rw [if_pos rfl]; exact hy rfl⟩
  | k + 1, x :: xs, base, now, most, e, n', m', hl, h, hy => by
    have hl1 : (x :: xs).length < 140737488355328 := by simp at hl ⊢; omega
    have hl2 : (x :: (xs ++ ys)).length < 140737488355328 := by simpa using hl
    rw [cb_step _ _ _ _ _ _ hl1] at h
    by_cases c1 : wrap64 (now - base) < (mv x.f0).1
    · rw [if_pos c1] at h
      obtain ⟨rfl, rfl, rfl⟩ : 9 = e ∧ now = n' ∧ most = m' := by simpa using h
      exact ⟨1, by rw [List.cons_append, cb_step _ _ _ _ _ _ hl2, if_pos c1, if_neg (by decide)]⟩
    · rw [if_neg c1] at h
      by_cases c2 : wrap64 (now + wrap64 ((mv x.f0).2 - (mv x.f0).1)) > 16
      · rw [if_pos c2] at h
        obtain ⟨rfl, rfl, rfl⟩ : 9 = e ∧ wrap64 (now + wrap64 ((mv x.f0).2 - (mv x.f0).1)) = n' ∧ most = m' := by simpa using h
        exact ⟨1, by rw [List.cons_append, cb_step _ _ _ _ _ _ hl2, if_neg c1, if_pos c2, if_neg (by decide)]⟩
      · rw [if_neg c2] at h
        obtain ⟨⟨e1, n1, m1⟩, h1, h⟩ := Option.bind_eq_some_iff.mp h
        dsimp only at h
        by_cases c3 : e1 = 0
        · rw [if_pos c3] at h
          by_cases c4 : n1 = wrap64 (now + wrap64 ((mv x.f0).2 - (mv x.f0).1))
          · rw [if_pos c4] at h
            obtain ⟨K, hK⟩ := cb_app ys r j k xs base n1 m1 e n' m' (by simp at hl ⊢; omega) h hy
            refine ⟨max k K + 1, ?_⟩
            rw [List.cons_append, cb_step _ _ _ _ _ _ hl2, if_neg c1, if_neg c2, cb_at (Nat.le_max_left k K) h1, Option.bind_some]
            dsimp only
            rw [if_pos c3, if_pos c4]
            exact cb_at (Nat.le_max_right k K) hK
          · rw [if_neg c4] at h
            obtain ⟨rfl, rfl, rfl⟩ : 9 = e ∧ n1 = n' ∧ m1 = m' := by simpa using h
            refine ⟨k + 1, ?_⟩
            rw [List.cons_append, cb_step _ _ _ _ _ _ hl2, if_neg c1, if_neg c2, h1, Option.bind_some]
            dsimp only
            rw [if_pos c3, if_neg c4, if_neg (by decide)]
        · rw [if_neg c3] at h
          obtain ⟨rfl, rfl, rfl⟩ : e1 = e ∧ n1 = n' ∧ m1 = m' := by simpa using h
          refine ⟨k + 1, ?_⟩
          rw [List.cons_append, cb_step _ _ _ _ _ _ hl2, if_neg c1, if_neg c2, h1, Option.bind_some]
          dsimp only
          rw [if_neg c3, if_neg c3]
end Go.Proofs.Ytchgjkfnmifgkaa.QE
