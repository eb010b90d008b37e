/- What a machine over a program's ops comes to, in plain Lean: the same for the program's and the page's but for what two numbers, and one, make. -/
import Derived.Test.YtchgjkfnmifgkaaQEx0
namespace Go.Proofs.Ytchgjkfnmifgkaa.QE
open Go.RowKit Go.Proofs.YtchgjkfnmifgkaaW.PrintWords Go.Proofs.YtchgjkfnmifgkaaW.PrintLast Go.Proofs.YtchgjkfnmifgkaaW.PrintMore
set_option linter.unusedVariables false
set_option linter.unusedSimpArgs false

/-- The last number, and what lies beneath. -/
def pop1 (st : List Int) : Option (Int × List Int) := if 0 < st.length ∧ st.length < 2000000 then some (rd st ((st.length : Int) - 1), st.take (st.length - 1)) else none
/-- One more. -/
def push1 (st : List Int) (n fu : Int) (out : List S50) : Option (Int × List Int × Int × List S50) := if st.length < 1000000 then some (0, st ++ [n], fu, out) else none
def mvalue (kind n a : Int) (b : ByteArray) (v : Int) : Int := if kind = 1 then n else if kind = 2 then a else if kind = 3 then (b.size : Int) else v

section
variable (two : Int → Int → Int → Option Int) (one : Int → Int → Option Int) (a : Int) (b : ByteArray) (v : Int)
mutual
/-- Ops, one after the other: the error, the stack, the fuel, what was emitted. -/
def mrun : Nat → List S34 → List Int → Int → List S50 → Option (Int × List Int × Int × List S50)
  | 0, _, _, _, _ => none
  | _ + 1, [], st, fu, out => some (0, st, fu, out)
  | k + 1, x :: xs, st, fu, out =>
    if (x :: xs).length < 140737488355328 then
      if fu = 0 then some (10, st, fu, out)
      else (mdo k x st (wrap64 (fu - 1)) out).bind fun r => if r.1 = 0 then mrun k xs r.2.1 r.2.2.1 r.2.2.2 else some r
    else none
def mdo : Nat → S34 → List Int → Int → List S50 → Option (Int × List Int × Int × List S50)
  | 0, _, _, _, _ => none
  | k + 1, x, st, fu, out =>
    if x.f0 < 1 then none
    else if x.f0 ≤ 4 then push1 st (mvalue x.f0 x.f1 a b v) fu out
    else if x.f0 ≤ 17 then (pop1 st).bind fun p => (pop1 p.2).bind fun q => (two x.f0 q.1 p.1).bind fun r => push1 q.2 r fu out
    else if x.f0 ≤ 24 then (pop1 st).bind fun p => (one x.f0 p.1).bind fun r => push1 p.2 r fu out
    else if x.f0 = 25 then (pop1 st).bind fun p => push1 st p.1 fu out
    else if x.f0 = 26 then (pop1 st).bind fun p => (pop1 p.2).bind fun q => some (0, q.2 ++ [p.1, q.1], fu, out)
    else if x.f0 = 27 then (pop1 st).bind fun p => some (0, p.2, fu, out)
    else if x.f0 = 28 then (pop1 st).bind fun p => mrep k (if p.1 = 0 then 0 else 1) x.f2 p.2 fu out
    else if x.f0 = 29 then (pop1 st).bind fun p => mrep k p.1 x.f2 p.2 fu out
    else (pop1 st).bind fun p => (pop1 p.2).bind fun q => if out.length = 256 then some (2, q.2, fu, out) else if out.length < 1000000 then some (0, q.2, fu, out ++ [⟨⟨q.1, b⟩, p.1⟩]) else none
def mrep : Nat → Int → List S34 → List Int → Int → List S50 → Option (Int × List Int × Int × List S50)
  | 0, _, _, _, _, _ => none
  | k + 1, n, l, st, fu, out =>
    if 9223372036854775807 < n then none
    else if n > 0 then
      if (l.length : Int) > 0 then (mrun k l st fu out).bind fun r => if r.1 = 0 then mrep k (wrap64 (n - 1)) l r.2.1 r.2.2.1 r.2.2.2 else some r
      else some (0, st, fu, out)
    else some (0, st, fu, out)
end

theorem m_mono : ∀ k, (∀ l st fu out, LeO (mrun two one a b v k l st fu out) (mrun two one a b v (k + 1) l st fu out)) ∧ (∀ x st fu out, LeO (mdo two one a b v k x st fu out) (mdo two one a b v (k + 1) x st fu out)) ∧ (∀ n l st fu out, LeO (mrep two one a b v k n l st fu out) (mrep two one a b v (k + 1) n l st fu out))
  | 0 => ⟨fun _ _ _ _ r h => by simp [mrun] at h, fun _ _ _ _ r h => by simp [mdo] at h, fun _ _ _ _ _ r h => by simp [mrep] at h⟩
  | k + 1 => by
    obtain ⟨ih1, ih2, ih3⟩ := m_mono k
    refine ⟨?_, ?_, ?_⟩
    · intro l st fu out
      cases l with
      | nil => simp only [mrun]; exact LeO.refl _
      | cons x xs =>
        rw [mrun, mrun]
        exact LeO.ite (LeO.ite (LeO.refl _) (LeO.bind (ih2 _ _ _ _) fun _ => LeO.ite (ih1 _ _ _ _) (LeO.refl _))) (LeO.none _)
    · intro x st fu out
      rw [mdo, mdo]
      exact LeO.ite (LeO.none _) <| LeO.ite (LeO.refl _) <| LeO.ite (LeO.refl _) <| LeO.ite (LeO.refl _) <| LeO.ite (LeO.refl _) <| LeO.ite (LeO.refl _) <| LeO.ite (LeO.refl _) <| LeO.ite (LeO.bind (LeO.refl _) fun _ => ih3 _ _ _ _ _) <| LeO.ite (LeO.bind (LeO.refl _) fun _ => ih3 _ _ _ _ _) (LeO.refl _)
    · intro n l st fu out
      rw [mrep, mrep]
      exact LeO.ite (LeO.none _) <| LeO.ite (LeO.ite (LeO.bind (ih1 _ _ _ _) fun _ => LeO.ite (ih3 _ _ _ _ _) (LeO.refl _)) (LeO.refl _)) (LeO.refl _)

theorem mrun.len {k : Nat} {l : List S34} {st : List Int} {fu : Int} {out : List S50} {r : Int × List Int × Int × List S50} (h : mrun two one a b v (k + 1) l st fu out = some r) : l.length < 140737488355328 := by
  cases l with
  | nil => decide
  | cons x xs =>
    simp only [mrun] at h
    split at h
    · assumption
    · simp at h
end

theorem pop1_some {st : List Int} {x : Int} {st' : List Int} (h : pop1 st = some (x, st')) : (0 < st.length ∧ st.length < 2000000) ∧ x = rd st ((st.length : Int) - 1) ∧ st' = st.take (st.length - 1) := by
  unfold pop1 at h
  split at h
  case isFalse => simp at h
  case isTrue h0 =>
    simp only [Option.some.injEq, Prod.mk.injEq] at h
    exact ⟨h0, h.1.symm, h.2.symm⟩
theorem pop1_snoc (st : List Int) (x : Int) (h : st.length < 1999999) : pop1 (st ++ [x]) = some (x, st) := by
  unfold pop1
  rw [if_pos (by simp; omega)]
  simp [rd]
theorem pop1_form {st : List Int} {x : Int} {st' : List Int} (h : pop1 st = some (x, st')) : st = st' ++ [x] := by
  have hl := (pop1_some h).1
  rcases List.eq_nil_or_concat st with rfl | ⟨l, y, rfl⟩
  · simp at hl
  · rw [List.concat_eq_append] at hl h ⊢
    rw [pop1_snoc _ _ (by simp at hl; omega)] at h
    simp only [Option.some.injEq, Prod.mk.injEq] at h
    rw [h.1, h.2]
theorem push1_some {st : List Int} {n fu : Int} {out : List S50} {r : Int × List Int × Int × List S50} (h : push1 st n fu out = some r) : st.length < 1000000 ∧ r = (0, st ++ [n], fu, out) := by
  unfold push1 at h
  split at h
  · exact ⟨by assumption, (Option.some.inj h).symm⟩
  · simp at h

end Go.Proofs.Ytchgjkfnmifgkaa.QE
