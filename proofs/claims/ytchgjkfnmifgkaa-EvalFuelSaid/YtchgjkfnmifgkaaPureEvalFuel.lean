/- With more fuel, if it ended, it is the same, and so much more is left; with just what it took nothing is left; with less it is told so: in plain Lean. -/
import Derived.Test.YtchgjkfnmifgkaaEvalLaw
import Derived.Test.YtchgjkfnmifgkaaAlikeE
import Derived.Test.YtchgjkfnmifgkaaFuelLaw
import Derived.Test.YtchgjkfnmifgkaaRngLaw
import Derived.Test.YtchgjkfnmifgkaaParseLaw
import Derived.Test.YtchgjkfnmifgkaaPrEvalFuel
namespace Go.Proofs.Ytchgjkfnmifgkaa.QE
open Go.RowKit Go.Proofs.YtchgjkfnmifgkaaW.PrintWords Go.Proofs.YtchgjkfnmifgkaaW.PrintLast Go.Proofs.YtchgjkfnmifgkaaW.PrintMore
set_option linter.unusedVariables false
set_option linter.unusedSimpArgs false

section
variable (S : List ByteArray) (L : List S34) (R : List S50) (F : List Int)
theorem fuel_j3 (x3 : Int) (l : List S34) (x6 : Int) (ht : Tr l) (hl : l.length < 140737488355328) (hr : Rng l) (h0 : 0 ≤ x6) (h1 : x6 < R.length) (hR : ∀ y ∈ R, Good50 y) (rest : Ev (fun k => thresherlaw8_EvalFuel.l1 k x3 l (wrap64 (x6 + 1)) S L R F) true) :
    Ev (fun k => thresherlaw8_EvalFuel.j3 k x3 l x6 true S L R F) true := by
  have hg := good50_rd hR h0 h1
  have e : ∀ k, thresherlaw8_EvalFuel.j3 (k + 1) x3 l x6 true S L R F = _ := fun k => by rw [thresherlaw8_EvalFuel.j3, if_pos rfl, if_pos h0, if_pos h1]
  have e4 : ∀ k y t, thresherlaw8_EvalFuel.j4 (k + 1) x3 l x6 y t S L R F = _ := fun k y t => by rw [thresherlaw8_EvalFuel.j4, if_pos h0, if_pos h1]
  generalize rd_T50 R x6 = x at e e4 hg
  obtain ⟨⟨a, b⟩, v⟩ := x
  obtain ⟨⟨hga, hgb⟩, hgv⟩ := hg
  dsimp only at e e4 hga hgb hgv
  have ha := wfI64 hga
  have hv := wfI64 hgv
  have hb : b.size < 140737488355328 := by omega
  have no : ∀ {q : List S50 × Int × Int}, q.2.2 ≠ 0 → Ev (fun k => eval_Run.f k l a b v 2000) q → Ev (fun k => thresherlaw8_EvalFuel.j3 k x3 l x6 true S L R F) true := by
    intro q hq hev
    refine Ev.step e (Ev.bind hev ?_)
    simp only [thresherlaw8_num.f, Option.bind_some, if_neg hq]
    exact rest
  obtain ⟨c, hc, hchk⟩ := check_ev ht hl
  by_cases c0 : c = 0
  case neg => exact no (q := ([], 0, c)) c0 (run_bad hc c0 a b v 2000)
  subst c0
  by_cases c1 : (b.size : Int) > 64
  · exact no (q := ([], 0, 1)) (by decide) (run_form hc a b v 2000 (.inl c1))
  obtain ⟨r, hm, _, hf0, hf1, ho, hz, _⟩ := sound (a := a) (b := b) (v := v) alike_own ha hb hv 2000 l 0 0 0 (hchk rfl) hr (by omega) (by omega) [] 2000 [] rfl (by simp) (by omega) (by omega) (by omega) (by simp)
  have hrun := run_good hc c1 (by omega) (by omega) (tell_ev hm)
  obtain ⟨err, st, left, out⟩ := r
  by_cases c2 : err = 0
  case neg => exact no (q := ([], 0, err)) c2 (by simpa [toldOf, c2] using hrun)
  subst c2
  dsimp only at hf0 hf1 ho
  have hrun : Ev (fun k => eval_Run.f k l a b v 2000) (out, left, 0) := by simpa [toldOf] using hrun
  obtain ⟨K, hK⟩ := hm
  dsimp only at hK
  have fuel := fun k (hk : K ≤ k) => ((m_fuel etwo eone a b v k).1 l [] []) 2000 _ (hK k hk) rfl (by omega) (by omega)
  dsimp only at fuel
  have w1 : wrap64 (2000 - left) = 2000 - left := by unfold wrap64; omega
  have hrun2 : Ev (fun k => eval_Run.f k l a b v (2000 - left)) (out, 0, 0) := by
    refine run_good hc c1 (by omega) (by omega) ?_
    have hm2 : Ev (fun k => mrun etwo eone a b v k l [] (2000 - left) []) (0, st, 0, out) := ⟨K, fun k hk => by
      have := ((fuel k hk).2.2 (2000 - left) (by omega) (by omega)).1 (by omega)
      rw [show 2000 - left - (2000 - left) = 0 by omega] at this
      exact this⟩
    simpa [toldOf] using tell_ev hm2
  have hnum : thresherref0_Num.f left 2000 = some true := by
    unfold thresherref0_Num.f
    rw [if_pos (by omega), decide_eq_true (by omega)]
  refine Ev.step e (Ev.bind hrun ?_)
  simp only [thresherlaw8_num.f, Option.bind_some, if_pos, hnum, w1]
  refine Ev.bind hrun2 ?_
  simp only [if_pos]
  refine Ev.bind (eqrecs_refl out (by omega)) ?_
  refine Ev.step (fun k => by rw [e4]) ?_
  simp only [Bool.not_true, if_neg (show ¬ (false = true) by decide)]
  by_cases c3 : 2000 - left > 0
  case neg => simp only [if_neg c3]; exact rest
  simp only [if_pos c3]
  have w2 : wrap64 (2000 - left - 1) = 2000 - left - 1 := by unfold wrap64; omega
  have hrun3 : Ev (fun k => eval_Run.f k l a b v (2000 - left - 1)) ([], 0, 10) := by
    refine run_good hc c1 (by omega) (by omega) ⟨K, fun k hk => ?_⟩
    obtain ⟨q, hq⟩ := ((fuel k hk).2.2 (2000 - left - 1) (by omega) (by omega)).2 (by omega)
    dsimp only
    rw [hq, Option.bind_some]
    dsimp only
    rw [if_neg (by decide)]
  simp only [w2]
  refine Ev.bind hrun3 ?_
  simp only [thresherlaw8_num.f, Option.bind_some, if_pos, List.length_nil, if_neg (show ¬ (((0 : Nat) : Int) > 0) by decide)]
  exact rest

theorem fuel_l1 (x3 : Int) (l : List S34) (ht : Tr l) (hl : l.length < 140737488355328) (hr : Rng l) (hR : ∀ y ∈ R, Good50 y) (rest : Ev (fun k => thresherlaw8_EvalFuel.l0 k (wrap64 (x3 + 1)) S L R F) true) : ∀ (d i : Nat), i + d = 8 → Ev (fun k => thresherlaw8_EvalFuel.l1 k x3 l (i : Int) S L R F) true := by
  have tail : ∀ i : Int, Ev (fun k => thresherlaw8_EvalFuel.j3 k x3 l i false S L R F) true := fun i => Ev.step (fun k => by rw [thresherlaw8_EvalFuel.j3, if_neg (by decide)]) rest
  intro d
  induction d with
  | zero =>
    intro i hi
    refine Ev.step (f := fun k => thresherlaw8_EvalFuel.j3 k x3 l (i : Int) false S L R F) (fun k => ?_) (tail _)
    rw [thresherlaw8_EvalFuel.l1, decide_eq_false (show ¬ (i : Int) < 8 by omega)]
    split <;> rfl
  | succ d ih =>
    intro i hi
    by_cases c1 : (i : Int) < (R.length : Int)
    case neg => exact Ev.step (f := fun k => thresherlaw8_EvalFuel.j3 k x3 l (i : Int) false S L R F) (fun k => by rw [thresherlaw8_EvalFuel.l1, if_neg c1]) (tail _)
    have hi1 : wrap64 ((i : Int) + 1) = ((i + 1 : Nat) : Int) := by unfold wrap64; omega
    refine Ev.step (f := fun k => thresherlaw8_EvalFuel.j3 k x3 l (i : Int) true S L R F) (fun k => by rw [thresherlaw8_EvalFuel.l1, if_pos c1, decide_eq_true (show (i : Int) < 8 by omega)]) ?_
    exact fuel_j3 S L R F x3 l i ht hl hr (by omega) c1 hR (by rw [hi1]; exact ih (i + 1) (by omega))

theorem fuel_l0 (hR : ∀ y ∈ R, Good50 y) : ∀ (d i : Nat), i + d = 8 → Ev (fun k => thresherlaw8_EvalFuel.l0 k (i : Int) S L R F) true := by
  have tail : ∀ i : Int, Ev (fun k => thresherlaw8_EvalFuel.j1 k i false S L R F) true := fun i => Ev.step (f := fun k => (thresherlaw8_wakes.f k).bind fun t => some t) (fun k => by rw [thresherlaw8_EvalFuel.j1, if_neg (by decide)]) (Ev.bind wakes8_ev (Ev.now _))
  intro d
  induction d with
  | zero =>
    intro i hi
    refine Ev.step (f := fun k => thresherlaw8_EvalFuel.j1 k (i : Int) false S L R F) (fun k => ?_) (tail _)
    rw [thresherlaw8_EvalFuel.l0, decide_eq_false (show ¬ (i : Int) < 8 by omega)]
    split <;> rfl
  | succ d ih =>
    intro i hi
    by_cases c1 : (i : Int) < (S.length : Int)
    case neg => exact Ev.step (f := fun k => thresherlaw8_EvalFuel.j1 k (i : Int) false S L R F) (fun k => by rw [thresherlaw8_EvalFuel.l0, if_neg c1]) (tail _)
    have hi1 : wrap64 ((i : Int) + 1) = ((i + 1 : Nat) : Int) := by unfold wrap64; omega
    obtain ⟨l, e, h1, h2, h3⟩ := parse_ev (rdOf ByteArray.empty S (i : Int))
    refine Ev.step (f := fun k => thresherlaw8_EvalFuel.j1 k (i : Int) true S L R F) (fun k => by rw [thresherlaw8_EvalFuel.l0, if_pos c1, decide_eq_true (show (i : Int) < 8 by omega)]) ?_
    refine Ev.step (f := fun k => (thresherref6_Parse.f k (rdOf ByteArray.empty S (i : Int))).bind fun b => if b.2 = 0 then thresherlaw8_EvalFuel.l1 k (i : Int) b.1 0 S L R F else thresherlaw8_EvalFuel.l0 k ((i + 1 : Nat) : Int) S L R F) (fun k => by rw [thresherlaw8_EvalFuel.j1, if_pos rfl, if_pos (by omega), if_pos c1, hi1]) ?_
    refine Ev.bind h1 ?_
    by_cases c2 : e = 0
    · simp only [if_pos c2]
      exact fuel_l1 S L R F (i : Int) l h2 (by omega) (parse_rng_ev h1) hR (by rw [hi1]; exact ih (i + 1) (by omega)) 8 0 rfl
    · simp only [if_neg c2]
      exact ih (i + 1) (by omega)
end
end Go.Proofs.Ytchgjkfnmifgkaa.QE
namespace Go.Proofs.Ytchgjkfnmifgkaa.QE.Pure
open Go.RowKit Go.Proofs.YtchgjkfnmifgkaaW.PrintWords Go.Proofs.YtchgjkfnmifgkaaW.PrintLast Go.Proofs.YtchgjkfnmifgkaaW.PrintMore
theorem EvalFuel : EvalFuelPure := by
  intro S L R F hS hL hR hF
  have ht := Tr.of_good hL.2.2
  have hl : L.length < 140737488355328 := by have := hL.2.1; omega
  have hs : S.length < 140737488355328 := by have := hS.2.1; omega
  have hr : R.length < 140737488355328 := by have := hR.2.1; omega
  obtain ⟨hv, h3⟩ := heavy8_ev (S := S) R F ht hl hs hr
  refine Ev.rounds (g := fun k => thresherlaw8_EvalFuel.f k S L R F) ?_
  refine Ev.congr (f := fun k => (thresherlaw8_Heavy.f k S L R F).bind fun t => if t = true then some true else thresherlaw8_EvalFuel.l0 k ((0 : Nat) : Int) S L R F) (fun k => rfl) (Ev.bind h3 ?_)
  cases hv with
  | true => simpa using Ev.now _
  | false =>
    simp only [if_neg (show ¬ (false = true) by decide)]
    exact fuel_l0 S L R F hR.2.2 8 0 rfl
end Go.Proofs.Ytchgjkfnmifgkaa.QE.Pure
