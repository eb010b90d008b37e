/- With more fuel, if it ended, it is the same, and so much more is left; with less it is told so: of a machine over ops, whatever it makes of numbers. -/
import Derived.Test.YtchgjkfnmifgkaaHMach
namespace Go.Proofs.Ytchgjkfnmifgkaa.QE
open Go.RowKit Go.Proofs.YtchgjkfnmifgkaaW.PrintWords Go.Proofs.YtchgjkfnmifgkaaW.PrintLast Go.Proofs.YtchgjkfnmifgkaaW.PrintMore
set_option linter.unusedVariables false
set_option linter.unusedSimpArgs false

/-- What is told of a way by its fuel. -/
def FuelOk (h : Int → Option (Int × List Int × Int × List S50)) : Prop := ∀ fu r, h fu = some r → r.1 = 0 → 0 ≤ fu → fu ≤ 2000 → 0 ≤ r.2.2.1 ∧ r.2.2.1 ≤ fu ∧ ∀ g, 0 ≤ g → g ≤ 2000 → (fu - r.2.2.1 ≤ g → h g = some (0, r.2.1, g - (fu - r.2.2.1), r.2.2.2)) ∧ (g < fu - r.2.2.1 → ∃ q, h g = some (10, q))

theorem FuelOk.none : FuelOk (fun _ => none) := fun fu r h => by simp at h
theorem FuelOk.ret (e : Int) (s : List Int) (o : List S50) : FuelOk (fun fu => some (e, s, fu, o)) := by
  intro fu r h h0 h1 h2
  obtain rfl := (Option.some.inj h).symm
  dsimp only at h0 ⊢
  refine ⟨h1, Int.le_refl _, fun g g0 g1 => ⟨fun _ => ?_, fun h => by omega⟩⟩
  rw [h0, show g - (fu - fu) = g by omega]
theorem FuelOk.bind {f : Int → Option (Int × List Int × Int × List S50)} {F : List Int → Int → List S50 → Option (Int × List Int × Int × List S50)} (hf : FuelOk f) (hF : ∀ s o, FuelOk (fun fu => F s fu o)) : FuelOk (fun fu => (f fu).bind fun r => if r.1 = 0 then F r.2.1 r.2.2.1 r.2.2.2 else some r) := by
  intro fu r h h0 h1 h2
  obtain ⟨p, hp, hr⟩ := Option.bind_eq_some_iff.mp h
  obtain ⟨e, s, f1, o⟩ := p
  dsimp only at hr
  by_cases c : e = 0
  · subst c
    rw [if_pos rfl] at hr
    obtain ⟨a1, a2, a3⟩ := hf fu _ hp rfl h1 h2
    dsimp only at a1 a2 a3
    obtain ⟨b1, b2, b3⟩ := hF s o f1 r hr h0 a1 (by omega)
    refine ⟨b1, by omega, fun g g0 g1 => ⟨fun hg => ?_, fun hg => ?_⟩⟩
    · have e1 := (a3 g g0 g1).1 (by omega)
      have e2 := (b3 (g - (fu - f1)) (by omega) (by omega)).1 (by omega)
      dsimp only at e1 e2
      show (f g).bind _ = _
      rw [e1, Option.bind_some]
      dsimp only
      rw [if_pos rfl, e2, show g - (fu - f1) - (f1 - r.2.2.1) = g - (fu - r.2.2.1) by omega]
    · by_cases hg2 : fu - f1 ≤ g
      · have e1 := (a3 g g0 g1).1 hg2
        obtain ⟨q, e2⟩ := (b3 (g - (fu - f1)) (by omega) (by omega)).2 (by omega)
        dsimp only at e1 e2
        refine ⟨q, ?_⟩
        show (f g).bind _ = _
        rw [e1, Option.bind_some]
        dsimp only
        rw [if_pos rfl, e2]
      · obtain ⟨q, e1⟩ := (a3 g g0 g1).2 (by omega)
        refine ⟨q, ?_⟩
        show (f g).bind _ = _
        rw [e1, Option.bind_some]
        dsimp only
        rw [if_neg (by decide)]
  · rw [if_neg c] at hr
    obtain rfl := (Option.some.inj hr).symm
    exact absurd h0 c
theorem FuelOk.tick {h : Int → Option (Int × List Int × Int × List S50)} (hh : FuelOk h) (s : List Int) (o : List S50) : FuelOk (fun fu => if fu = 0 then some (10, s, fu, o) else h (wrap64 (fu - 1))) := by
  intro fu r hr h0 h1 h2
  dsimp only at hr
  by_cases c : fu = 0
  · rw [if_pos c] at hr
    obtain rfl := (Option.some.inj hr).symm
    simp at h0
  · rw [if_neg c, show wrap64 (fu - 1) = fu - 1 by unfold wrap64; omega] at hr
    obtain ⟨a1, a2, a3⟩ := hh (fu - 1) r hr h0 (by omega) (by omega)
    refine ⟨a1, by omega, fun g g0 g1 => ?_⟩
    dsimp only
    by_cases c2 : g = 0
    · refine ⟨fun hg => by omega, fun _ => ⟨(s, g, o), by rw [if_pos c2]⟩⟩
    · rw [if_neg c2, show wrap64 (g - 1) = g - 1 by unfold wrap64; omega]
      obtain ⟨b1, b2⟩ := a3 (g - 1) (by omega) (by omega)
      refine ⟨fun hg => ?_, fun hg => b2 (by omega)⟩
      rw [b1 (by omega), show g - 1 - (fu - 1 - r.2.2.1) = g - (fu - r.2.2.1) by omega]
theorem FuelOk.push (st : List Int) (n : Int) (out : List S50) : FuelOk (fun fu => push1 st n fu out) := by
  unfold push1
  split
  · exact FuelOk.ret _ _ _
  · exact FuelOk.none
theorem FuelOk.obind {α : Type} (o : Option α) {F : α → Int → Option (Int × List Int × Int × List S50)} (hF : ∀ x, FuelOk (F x)) : FuelOk (fun fu => o.bind fun x => F x fu) := by
  cases o with
  | none => exact FuelOk.none
  | some x => exact hF x
theorem FuelOk.ite {c : Prop} [Decidable c] {f g : Int → Option (Int × List Int × Int × List S50)} (hf : FuelOk f) (hg : FuelOk g) : FuelOk (fun fu => if c then f fu else g fu) := by
  split
  · exact hf
  · exact hg

theorem m_fuel (two : Int → Int → Int → Option Int) (one : Int → Int → Option Int) (a : Int) (b : ByteArray) (v : Int) : ∀ k, (∀ l st out, FuelOk (fun fu => mrun two one a b v k l st fu out)) ∧ (∀ x st out, FuelOk (fun fu => mdo two one a b v k x st fu out)) ∧ (∀ n l st out, FuelOk (fun fu => mrep two one a b v k n l st fu out))
  | 0 => ⟨fun _ _ _ => by simp only [mrun]; exact FuelOk.none, fun _ _ _ => by simp only [mdo]; exact FuelOk.none, fun _ _ _ _ => by simp only [mrep]; exact FuelOk.none⟩
  | k + 1 => by
    obtain ⟨ih1, ih2, ih3⟩ := m_fuel two one a b v k
    refine ⟨?_, ?_, ?_⟩
    · intro l st out
      cases l with
      | nil => simp only [mrun]; exact FuelOk.ret _ _ _
      | cons x xs =>
        have h : FuelOk (fun fu => if (x :: xs).length < 140737488355328 then (if fu = 0 then some (10, st, fu, out) else (mdo two one a b v k x st (wrap64 (fu - 1)) out).bind fun r => if r.1 = 0 then mrun two one a b v k xs r.2.1 r.2.2.1 r.2.2.2 else some r) else none) :=
          FuelOk.ite (FuelOk.tick (FuelOk.bind (F := fun s fu o => mrun two one a b v k xs s fu o) (ih2 x st out) (fun s o => ih1 xs s o)) st out) FuelOk.none
        exact h
    · intro x st out
      have h : FuelOk (fun fu => if x.f0 < 1 then none
    else if x.f0 ≤ 4 then push1 st (mvalue x.f0 x.f1 a b v) fu out
    else if x.f0 ≤ 17 then (pop1 st).bind fun p => (pop1 p.2).bind fun q => (two x.f0 q.1 p.1).bind fun r => push1 q.2 r fu out
    else if x.f0 ≤ 24 then (pop1 st).bind fun p => (one x.f0 p.1).bind fun r => push1 p.2 r fu out
    else if x.f0 = 25 then (pop1 st).bind fun p => push1 st p.1 fu out
    else if x.f0 = 26 then (pop1 st).bind fun p => (pop1 p.2).bind fun q => some (0, q.2 ++ [p.1, q.1], fu, out)
    else if x.f0 = 27 then (pop1 st).bind fun p => some (0, p.2, fu, out)
    else if x.f0 = 28 then (pop1 st).bind fun p => mrep two one a b v k (if p.1 = 0 then 0 else 1) x.f2 p.2 fu out
    else if x.f0 = 29 then (pop1 st).bind fun p => mrep two one a b v k p.1 x.f2 p.2 fu out
    else (pop1 st).bind fun p => (pop1 p.2).bind fun q => if out.length = 256 then some (2, q.2, fu, out) else if out.length < 1000000 then some (0, q.2, fu, out ++ [⟨⟨q.1, b⟩, p.1⟩]) else none) :=
        FuelOk.ite FuelOk.none <| FuelOk.ite (FuelOk.push _ _ _) <|
        FuelOk.ite (FuelOk.obind _ fun p => FuelOk.obind _ fun q => FuelOk.obind _ fun r => FuelOk.push _ _ _) <|
        FuelOk.ite (FuelOk.obind _ fun p => FuelOk.obind _ fun r => FuelOk.push _ _ _) <|
        FuelOk.ite (FuelOk.obind _ fun p => FuelOk.push _ _ _) <|
        FuelOk.ite (FuelOk.obind _ fun p => FuelOk.obind _ fun q => FuelOk.ret _ _ _) <|
        FuelOk.ite (FuelOk.obind _ fun p => FuelOk.ret _ _ _) <|
        FuelOk.ite (FuelOk.obind _ fun p => ih3 _ _ _ _) <|
        FuelOk.ite (FuelOk.obind _ fun p => ih3 _ _ _ _) <|
        FuelOk.obind _ fun p => FuelOk.obind _ fun q => FuelOk.ite (FuelOk.ret _ _ _) (FuelOk.ite (FuelOk.ret _ _ _) FuelOk.none)
      simpa only [mdo] using h
    · intro n l st out
      have h : FuelOk (fun fu => if 9223372036854775807 < n then none else if n > 0 then (if (l.length : Int) > 0 then (mrun two one a b v k l st fu out).bind fun r => if r.1 = 0 then mrep two one a b v k (wrap64 (n - 1)) l r.2.1 r.2.2.1 r.2.2.2 else some r else some (0, st, fu, out)) else some (0, st, fu, out)) :=
        FuelOk.ite FuelOk.none (FuelOk.ite (FuelOk.ite (FuelOk.bind (F := fun s fu o => mrep two one a b v k (wrap64 (n - 1)) l s fu o) (ih1 l st out) (fun s o => ih3 _ l s o)) (FuelOk.ret _ _ _)) (FuelOk.ret _ _ _))
      simpa only [mrep] using h
end Go.Proofs.Ytchgjkfnmifgkaa.QE
