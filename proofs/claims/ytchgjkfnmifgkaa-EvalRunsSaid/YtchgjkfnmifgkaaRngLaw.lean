/- The numbers in the ops of a text are numbers of 64 bits. -/
import Derived.Test.YtchgjkfnmifgkaaHParse
import Derived.Test.YtchgjkfnmifgkaaEvLaws
namespace Go.Proofs.Ytchgjkfnmifgkaa.QE
open Go.RowKit Go.Proofs.YtchgjkfnmifgkaaW.PrintWords Go.Proofs.YtchgjkfnmifgkaaW.PrintLast Go.Proofs.YtchgjkfnmifgkaaW.PrintMore
set_option linter.unusedVariables false
set_option linter.unusedSimpArgs false

theorem w64_I64 (n : Int) : I64 (wrap64 n) := by unfold I64 wrap64; omega
theorem zero_I64 : I64 0 := by unfold I64; omega
theorem num_l0_rng (s : ByteArray) (b : Bool) : ∀ k acc i r, thresherref6_number.l0 k s b acc i = some r → I64 r.1 := by
 intro k
 induction k with
 | zero => intro acc i r h; simp [thresherref6_number.l0] at h
 | succ k ih =>
  intro acc i r h
  rw [thresherref6_number.l0] at h
  repeat' (split at h)
  all_goals first
   | exact ih _ _ _ h
   | (rw [← Option.some.inj h]; first | exact w64_I64 _ | exact zero_I64)
   | (simp at h)
theorem num_j2_rng (s : ByteArray) (b x : Bool) : ∀ k r, thresherref6_number.j2 k s b x = some r → I64 r.1 := by
 intro k r h
 cases k with
 | zero => simp [thresherref6_number.j2] at h
 | succ k =>
  rw [thresherref6_number.j2] at h
  split at h
  ·
   rw [← Option.some.inj h]; exact zero_I64
  ·
   exact num_l0_rng _ _ _ _ _ _ h
theorem num_j1_rng (s : ByteArray) (b : Bool) : ∀ k r, thresherref6_number.j1 k s b = some r → I64 r.1 := by
 intro k r h
 cases k with
 | zero => simp [thresherref6_number.j1] at h
 | succ k =>
  rw [thresherref6_number.j1] at h
  repeat' (split at h)
  all_goals first
   | exact num_j2_rng _ _ _ _ _ h
   | (simp at h)
theorem num_j0_rng (s : ByteArray) (b x : Bool) : ∀ k r, thresherref6_number.j0 k s b x = some r → I64 r.1 := by
 intro k r h
 cases k with
 | zero => simp [thresherref6_number.j0] at h
 | succ k =>
  rw [thresherref6_number.j0] at h
  repeat' (split at h)
  all_goals first
   | exact num_j1_rng _ _ _ _ h
   | (simp at h)
theorem num_rng (s : ByteArray) : ∀ k r, thresherref6_number.f k s = some r → I64 r.1 := by
 intro k r h
 unfold thresherref6_number.f at h
 repeat' (split at h)
 all_goals first
  | exact num_j0_rng _ _ _ _ _ h
  | (simp at h)
theorem opOf_rng {w : ByteArray} {nb : Int × Bool} (h : I64 nb.1) : I64 (opOf w nb).2 := by
 unfold opOf
 split
 ·
  exact h
 ·
  split <;> exact zero_I64

theorem Rng.snoc {x : S34} (hn : I64 x.f1) (hb : Rng x.f2) : ∀ {l : List S34}, Rng l → Rng (l ++ [x])
 | _, .nil => .cons hn hb .nil
 | _, .cons h1 h2 h3 => .cons h1 h2 (Rng.snoc hn hb h3)
theorem pblock_rng : ∀ k d ws many out r, pblock k d ws many out = some r → Rng out → Rng r.1 := by
 intro k
 induction k with
 | zero => intro d ws many out r h; simp [pblock] at h
 | succ k ih =>
  intro d ws many out r h ho
  cases ws with
  | nil =>
   rw [pblock] at h
   split at h
   ·
    rw [← Option.some.inj h]; exact .nil
   ·
    rw [← Option.some.inj h]; exact ho
  | cons w ws =>
   rw [pblock] at h
   split at h
   ·
    split at h
    ·
     rw [← Option.some.inj h]; exact .nil
    ·
     rw [← Option.some.inj h]; exact ho
   ·
    obtain ⟨nb, hnb, h⟩ := Option.bind_eq_some_iff.mp h
    have hr : I64 (opOf w nb).2 := opOf_rng (num_rng _ _ _ hnb)
    split at h
    ·
     rw [← Option.some.inj h]; exact .nil
    split at h
    ·
     rw [← Option.some.inj h]; exact .nil
    split at h
    ·
     cases ws with
     | nil => dsimp only at h; rw [← Option.some.inj h]; exact .nil
     | cons b ws =>
      dsimp only at h
      split at h
      ·
       split at h
       ·
        rw [← Option.some.inj h]; exact .nil
       ·
        obtain ⟨q, hq, h⟩ := Option.bind_eq_some_iff.mp h
        have hq2 := ih _ _ _ _ _ hq .nil
        split at h
        ·
         split at h
         ·
          exact ih _ _ _ _ _ h (Rng.snoc (x := ⟨(opOf w nb).1, (opOf w nb).2, q.1⟩) hr hq2 ho)
         ·
          simp at h
        ·
         rw [← Option.some.inj h]; exact .nil
      ·
       rw [← Option.some.inj h]; exact .nil
    ·
     split at h
     ·
      exact ih _ _ _ _ _ h (Rng.snoc (x := ⟨(opOf w nb).1, (opOf w nb).2, []⟩) hr .nil ho)
     ·
      simp at h
theorem parse_rng {k : Nat} {s : ByteArray} {l : List S34} {e : Int} (h : thresherref6_Parse.f k s = some (l, e)) : Rng l := by
 unfold thresherref6_Parse.f at h
 split at h
 ·
  obtain ⟨rfl, _⟩ : [] = l ∧ 2 = e := by simpa using h
  exact .nil
 ·
  obtain ⟨ws, _, h⟩ := Option.bind_eq_some_iff.mp h
  obtain ⟨r, hr, h⟩ := Option.bind_eq_some_iff.mp h
  obtain ⟨rfl, _⟩ : r.1 = l ∧ r.2.1 = e := by simpa using h
  exact pblock_rng _ _ _ _ _ _ hr .nil
theorem parse_rng_ev {s : ByteArray} {l : List S34} {e : Int} (h : Ev (fun k => thresherref6_Parse.f k s) (l, e)) : Rng l := by
 obtain ⟨K, h⟩ := h
 exact parse_rng (h K (Nat.le_refl _))
end Go.Proofs.Ytchgjkfnmifgkaa.QE
