/- What ops take and leave: the program's and the page's, in plain Lean. -/
import Derived.Test.YtchgjkfnmifgkaaOpsLaw2
import Derived.Test.YtchgjkfnmifgkaaQEx6
namespace Go.Proofs.Ytchgjkfnmifgkaa.QE
open Go.RowKit Go.Proofs.YtchgjkfnmifgkaaW.PrintWords Go.Proofs.YtchgjkfnmifgkaaW.PrintLast Go.Proofs.YtchgjkfnmifgkaaW.PrintMore
set_option linter.unusedVariables false
set_option linter.unusedSimpArgs false

def mv (k : Int) : Int × Int := if k ≤ 4 then (0, 1) else if k ≤ 17 then (2, 1) else if k ≤ 24 then (1, 1) else if k = 25 then (1, 2) else if k = 26 then (2, 2) else if k = 30 then (2, 0) else (1, 0)
theorem mv_eq (k : Int) : check_moves.f k = some (mv k) := by
  unfold check_moves.f mv
  repeat (first | rfl | split)
theorem mv_bd (k : Int) : 0 ≤ (mv k).1 ∧ (mv k).1 ≤ 2 ∧ 0 ≤ (mv k).2 ∧ (mv k).2 ≤ 2 := by
  unfold mv
  repeat (first | decide | split)
theorem takes_ev (k : Int) (h1 : 1 ≤ k) : Ev (fun n => thresherref6_takes.f n k) (mv k) := by
  refine Ev.congr (f := fun n => thresherref6_takes.j0 n k (decide (k ≤ 4))) (fun n => by rw [thresherref6_takes.f, if_pos h1]) ?_
  unfold mv
  by_cases c4 : k ≤ 4
  · rw [if_pos c4]
    exact Ev.step (f := fun _ => some (0, 1)) (fun n => by rw [thresherref6_takes.j0, decide_eq_true c4, if_pos rfl]) (Ev.now _)
  · rw [if_neg c4]
    refine Ev.step (f := fun n => thresherref6_takes.j1 n k (decide (k ≤ 17))) (fun n => by rw [thresherref6_takes.j0, decide_eq_false c4, if_neg (by decide), if_pos (by omega)]) ?_
    by_cases c17 : k ≤ 17
    · rw [if_pos c17]
      exact Ev.step (f := fun _ => some (2, 1)) (fun n => by rw [thresherref6_takes.j1, decide_eq_true c17, if_pos rfl]) (Ev.now _)
    · rw [if_neg c17]
      refine Ev.step (f := fun n => thresherref6_takes.j2 n k (decide (k ≤ 24))) (fun n => by rw [thresherref6_takes.j1, decide_eq_false c17, if_neg (by decide), if_pos (by omega)]) ?_
      by_cases c24 : k ≤ 24
      · rw [if_pos c24]
        exact Ev.step (f := fun _ => some (1, 1)) (fun n => by rw [thresherref6_takes.j2, decide_eq_true c24, if_pos rfl]) (Ev.now _)
      · rw [if_neg c24]
        refine Ev.step (f := fun _ => if k = 25 then some (1, 2) else if k = 26 then some (2, 2) else if k = 30 then some (2, 0) else some (1, 0)) (fun n => by rw [thresherref6_takes.j2, decide_eq_false c24, if_neg (by decide)]) ?_
        by_cases c25 : k = 25
        · simp only [if_pos c25]; exact Ev.now _
        · simp only [if_neg c25]
          by_cases c26 : k = 26
          · simp only [if_pos c26]; exact Ev.now _
          · simp only [if_neg c26]
            by_cases c30 : k = 30
            · simp only [if_pos c30]; exact Ev.now _
            · simp only [if_neg c30]; exact Ev.now _

/-- One op of check.block, what it takes and leaves told. -/
theorem cb_step (k : Nat) (base now most : Int) (x : S34) (xs : List S34) (hl : (x :: xs).length < 140737488355328) : check_block.f (k + 1) base now most (x :: xs) =
    if wrap64 (now - base) < (mv x.f0).1 then some (9, now, most)
    else if wrap64 (now + wrap64 ((mv x.f0).2 - (mv x.f0).1)) > 16 then some (9, wrap64 (now + wrap64 ((mv x.f0).2 - (mv x.f0).1)), most)
    else (check_block.f k (wrap64 (now + wrap64 ((mv x.f0).2 - (mv x.f0).1))) (wrap64 (now + wrap64 ((mv x.f0).2 - (mv x.f0).1))) (mx most (wrap64 (now + wrap64 ((mv x.f0).2 - (mv x.f0).1)))) x.f2).bind fun r =>
      if r.1 = 0 then (if r.2.1 = wrap64 (now + wrap64 ((mv x.f0).2 - (mv x.f0).1)) then check_block.f k base r.2.1 r.2.2 xs else some (9, r.2.1, r.2.2)) else some r := by
  rw [check_block.f, if_pos hl, mv_eq, Option.bind_some]

theorem Ev.same {α : Type} {g : Nat → Option α} {r r' : α} (h : Ev g r) (h' : Ev g r') : r = r' := by
  obtain ⟨K, h⟩ := h
  obtain ⟨K', h'⟩ := h'
  have h1 := h (max K K') (Nat.le_max_left _ _)
  have h2 := h' (max K K') (Nat.le_max_right _ _)
  rw [h1] at h2
  exact Option.some.inj h2

/-- From so many numbers on ops end, or the stack is wrong; and the same from more numbers. -/
def Runs (xs : List S34) : Prop := ∀ base now most : Int, 0 ≤ base → base ≤ now → now ≤ most → most ≤ 16 →
    ∃ e n' m', Ev (fun k => check_block.f k base now most xs) (e, n', m') ∧ ((e = 0 ∧ base ≤ n' ∧ n' ≤ m' ∧ most ≤ m' ∧ m' ≤ 16) ∨ e = 9) ∧
      (e = 0 → ∀ c base2 M, 0 ≤ c → 0 ≤ base2 → base2 ≤ base + c → M ≤ 16 → most + c ≤ 16 → (m' + c ≤ 16 → Ev (fun k => check_block.f k base2 (now + c) (mx M (most + c)) xs) (0, n' + c, mx M (m' + c))) ∧ (16 < m' + c → ∃ a b, Ev (fun k => check_block.f k base2 (now + c) (mx M (most + c)) xs) (9, a, b)))

theorem Runs.nil : Runs [] := by
  intro base now most h0 h1 h2 h3
  exact ⟨0, now, most, Ev.step (f := fun _ => some (0, now, most)) (fun k => by rw [check_block.f]) (Ev.now _), .inl ⟨rfl, by omega, by omega, by omega, by omega⟩, fun _ c base2 M hc hb hb2 hM hm => ⟨fun _ => Ev.step (f := fun _ => some (0, now + c, mx M (most + c))) (fun k => by rw [check_block.f]) (Ev.now _), fun h => by omega⟩⟩

theorem mx_eq (a b : Int) : (a < b ∧ mx a b = b) ∨ (b ≤ a ∧ mx a b = a) := by
  unfold mx
  by_cases h : a < b
  · exact .inl ⟨h, if_pos h⟩
  · exact .inr ⟨by omega, if_neg h⟩

theorem Runs.cons {x : S34} {xs : List S34} (hl : (x :: xs).length < 140737488355328) (hi : Runs x.f2) (hs : Runs xs) : Runs (x :: xs) := by
  intro base now most h0 h1 h2 h3
  obtain ⟨b1, b2, b3, b4⟩ := mv_bd x.f0
  have step := fun k base now most => cb_step k base now most x xs hl
  generalize mv x.f0 = tl at step b1 b2 b3 b4
  obtain ⟨t, l⟩ := tl
  dsimp only at step b1 b2 b3 b4
  have w2 : wrap64 (l - t) = l - t := by unfold wrap64; omega
  simp only [w2] at step
  have w1 : wrap64 (now - base) = now - base := by unfold wrap64; omega
  have w3 : wrap64 (now + (l - t)) = now + (l - t) := by unfold wrap64; omega
  by_cases c1 : now - base < t
  · exact ⟨9, now, most, Ev.step (f := fun _ => some (9, now, most)) (fun k => by rw [step, w1, if_pos c1]) (Ev.now _), .inr rfl, fun h => by omega⟩
  by_cases c2 : now + (l - t) > 16
  · exact ⟨9, now + (l - t), most, Ev.step (f := fun _ => some (9, now + (l - t), most)) (fun k => by rw [step, w1, if_neg c1, w3, if_pos c2]) (Ev.now _), .inr rfl, fun h => by omega⟩
  obtain ⟨n1, hn1⟩ : ∃ n1, n1 = now + (l - t) := ⟨_, rfl⟩
  have w3 : wrap64 (now + (l - t)) = n1 := by rw [w3, hn1]
  rw [← hn1] at c2
  have hm1 := mx_eq most n1
  obtain ⟨e, n', m', hev, hp, hsh⟩ := hi n1 n1 (mx most n1) (by omega) (by omega) (by omega) (by omega)
  have st1 : ∀ k, check_block.f (k + 1) base now most (x :: xs) = (check_block.f k n1 n1 (mx most n1) x.f2).bind fun r => if r.1 = 0 then (if r.2.1 = n1 then check_block.f k base r.2.1 r.2.2 xs else some (9, r.2.1, r.2.2)) else some r := fun k => by
    rw [step, w1, if_neg c1, w3, if_neg c2]
  rcases hp with ⟨rfl, p1, p2, p3, p4⟩ | rfl
  · by_cases c3 : n' = n1
    · subst c3
      obtain ⟨e2, n2, m2, hev2, hp2, hsh2⟩ := hs base n' m' (by omega) (by omega) (by omega) (by omega)
      refine ⟨e2, n2, m2, Ev.step st1 (Ev.bind (a := (0, n', m')) hev (by simpa using hev2)), ?_, ?_⟩
      · rcases hp2 with ⟨rfl, q1, q2, q3, q4⟩ | rfl
        · exact .inl ⟨rfl, by omega, by omega, by omega, by omega⟩
        · exact .inr rfl
      · intro he c base2 M hc hb hb2 hM hm
        have q : n' ≤ m' ∧ m' ≤ m2 := by
          rcases hp2 with ⟨_, q1, q2, q3, q4⟩ | h
          · exact ⟨by omega, by omega⟩
          · omega
        have v1 : wrap64 (now + c - base2) = now + c - base2 := by unfold wrap64; omega
        have v3 : wrap64 (now + c + (l - t)) = n' + c := by unfold wrap64; omega
        have hM1 := mx_eq M (most + c)
        have hM2 := mx_eq (mx M (most + c)) (n' + c)
        have hM3 := mx_eq M (mx most n' + c)
        have hmm : mx (mx M (most + c)) (n' + c) = mx M (mx most n' + c) := by omega
        have big : n' + c > 16 → ∃ a b, Ev (fun k => check_block.f k base2 (now + c) (mx M (most + c)) (x :: xs)) (9, a, b) := fun h =>
          ⟨_, _, Ev.step (f := fun _ => some (9, n' + c, mx M (most + c))) (fun k => by rw [step, v1, if_neg (by omega), v3, if_pos h]) (Ev.now _)⟩
        have st2 : ¬ n' + c > 16 → ∀ k, check_block.f (k + 1) base2 (now + c) (mx M (most + c)) (x :: xs) = (check_block.f k (n' + c) (n' + c) (mx M (mx most n' + c)) x.f2).bind fun r => if r.1 = 0 then (if r.2.1 = n' + c then check_block.f k base2 r.2.1 r.2.2 xs else some (9, r.2.1, r.2.2)) else some r := fun h k => by
          rw [step, v1, if_neg (by omega), v3, if_neg h, hmm]
        constructor
        · intro hle
          have h16 : ¬ n' + c > 16 := by omega
          have hin := (hsh rfl c (n' + c) M hc (by omega) (by omega) hM (by omega)).1 (by omega)
          have hrest := (hsh2 he c base2 M hc hb hb2 hM (by omega)).1 hle
          exact Ev.step (st2 h16) (Ev.bind (a := (0, n' + c, mx M (m' + c))) hin (by simpa using hrest))
        · intro hgt
          by_cases h16 : n' + c > 16
          · exact big h16
          · by_cases hin16 : m' + c ≤ 16
            · have hin := (hsh rfl c (n' + c) M hc (by omega) (by omega) hM (by omega)).1 hin16
              obtain ⟨a, b, hrest⟩ := (hsh2 he c base2 M hc hb hb2 hM (by omega)).2 hgt
              exact ⟨a, b, Ev.step (st2 h16) (Ev.bind (a := (0, n' + c, mx M (m' + c))) hin (by simpa using hrest))⟩
            · obtain ⟨a, b, hin⟩ := (hsh rfl c (n' + c) M hc (by omega) (by omega) hM (by omega)).2 (by omega)
              exact ⟨a, b, Ev.step (st2 h16) (Ev.bind (a := (9, a, b)) hin (by simpa using Ev.now _))⟩
    · exact ⟨9, n', m', Ev.step st1 (Ev.bind (a := (0, n', m')) hev (by simpa [c3] using Ev.now _)), .inr rfl, fun h => by omega⟩
  · exact ⟨9, n', m', Ev.step st1 (Ev.bind (a := (9, n', m')) hev (by simpa using Ev.now _)), .inr rfl, fun h => by omega⟩

theorem cb_runs {d : Int} {xs : List S34} {n : Int} (ho : Okl d xs n) : Tr xs → xs.length < 140737488355328 → Runs xs := by
  induction ho with
  | nil => intro _ _; exact Runs.nil
  | @plain d x xs n hk hnb hs ih =>
    intro ht hl
    cases ht with
    | cons hl2 hb hs2 =>
      have hnil : x.f2 = [] := hk.2.2.elim id (fun h => absurd h hnb)
      exact Runs.cons hl (hnil ▸ Runs.nil) (ih hs2 (by simp at hl; omega))
  | @block d x xs m n hk hb hd hm hs ihm ihs =>
    intro ht hl
    cases ht with
    | cons hl2 hb2 hs2 => exact Runs.cons hl (ihm hb2 hl2) (ihs hs2 (by simp at hl; omega))
end Go.Proofs.Ytchgjkfnmifgkaa.QE
