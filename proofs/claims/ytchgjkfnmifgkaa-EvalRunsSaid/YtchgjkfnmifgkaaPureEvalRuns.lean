/- What any program does with any record, on any fuel, is the page's, or the error is: in plain Lean. -/
import Derived.Test.YtchgjkfnmifgkaaEvalLaw
import Derived.Test.YtchgjkfnmifgkaaAlikeLaw
import Derived.Test.YtchgjkfnmifgkaaRngLaw
import Derived.Test.YtchgjkfnmifgkaaOneLaw
import Derived.Test.YtchgjkfnmifgkaaParseLaw
import Derived.Test.YtchgjkfnmifgkaaPrEvalRuns
namespace Go.Proofs.Ytchgjkfnmifgkaa.QE
open Go.RowKit Go.Proofs.YtchgjkfnmifgkaaW.PrintWords Go.Proofs.YtchgjkfnmifgkaaW.PrintLast Go.Proofs.YtchgjkfnmifgkaaW.PrintMore
set_option linter.unusedVariables false
set_option linter.unusedSimpArgs false

theorem run_j1_bad (l : List S34) (fu : Int) (o : List S50) (n e : Int) (a : Int) (b : ByteArray) (v : Int) (he : e ≠ 0) (ho : o.length < 140737488355328) : Ev (fun k => thresherlaw8_run.j1 k l fu o n e o n e a b v) true := by
 have e1 : ∀ k, thresherlaw8_run.j1 (k + 1) l fu o n e o n e a b v = _ := fun k => by rw [thresherlaw8_run.j1, if_neg he, thresherlaw8_num.f, Option.bind_some, if_pos rfl, if_pos rfl]
 exact Ev.step e1 (Ev.bind (eqrecs_refl o ho) (Ev.now _))

theorem run_law {l : List S34} (ht : Tr l) (hl : l.length < 140737488355328) (hr : Rng l) {a v : Int} {b : ByteArray} (ha : I64 a) (hb : b.size < 140737488355328) (hv : I64 v) (fu : Int) : Ev (fun k => thresherlaw8_run.f k l a b v fu) true := by
 obtain ⟨c, h1, h2⟩ := both_check ht hl
 obtain ⟨c', h1', hchk⟩ := check_ev ht hl
 obtain rfl := Ev.same h1 h1'
 have body : ∀ k, thresherlaw8_run.f k l a b v fu = (eval_Run.f k l a b v fu).bind fun bt450 => ((thresherref6_Check.f k l).bind fun t455 => (if t455 = 0 then ((thresherref6_MayRun.f a b v fu).bind fun t456 => (thresherlaw8_run.j0 k l fu bt450.1 bt450.2.1 bt450.2.2 ([] : List (S50)) 0 t455 (!t456) a b v)) else (thresherlaw8_run.j0 k l fu bt450.1 bt450.2.1 bt450.2.2 ([] : List (S50)) 0 t455 false a b v))) := fun k => rfl
 by_cases c0 : c = 0
 case neg =>
  refine Ev.congr body (Ev.bind (run_bad h1 c0 a b v fu) (Ev.bind h2 ?_))
  simp only [if_neg c0]
  exact Ev.step (fun k => by rw [thresherlaw8_run.j0, if_neg (by decide)]) (run_j1_bad l fu [] 0 c a b v c0 (by simp))
 subst c0
 by_cases c1 : (b.size : Int) ≤ 64 ∧ 0 ≤ fu ∧ fu ≤ 2000
 case neg =>
  refine Ev.congr body (Ev.bind (run_form h1 a b v fu (by omega)) (Ev.bind h2 ?_))
  simp only [if_pos, mayrun_f, Option.bind_some, decide_eq_false c1, Bool.not_false]
  exact Ev.step (fun k => by rw [thresherlaw8_run.j0, if_pos rfl]) (run_j1_bad l fu [] 0 1 a b v (by decide) (by simp))
 obtain ⟨r, hm, hm2, hf0, hf1, ho, hz, _⟩ := sound (a := a) (b := b) (v := v) alike ha hb hv fu.toNat l 0 0 0 (hchk rfl) hr (by omega) (by omega) [] fu [] rfl (by simp) (by omega) (by omega) (by omega) (by simp)
 refine Ev.congr body (Ev.bind (run_good h1 (by omega) c1.2.1 c1.2.2 (tell_ev hm)) (Ev.bind h2 ?_))
 simp only [if_pos, mayrun_f, Option.bind_some, decide_eq_true c1, Bool.not_true]
 refine Ev.step (f := fun k => thresherlaw8_run.j1 k l fu (toldOf r).1 (toldOf r).2.1 (toldOf r).2.2 [] 0 0 a b v) (fun k => by rw [thresherlaw8_run.j0, if_neg (by decide)]) ?_
 have e1 : ∀ k, thresherlaw8_run.j1 (k + 1) l fu (toldOf r).1 (toldOf r).2.1 (toldOf r).2.2 [] 0 0 a b v = _ := fun k => by rw [thresherlaw8_run.j1, if_pos rfl]
 refine Ev.step e1 (Ev.bind (g := fun n => thresherref6_Run.f n l a b v fu) (Ev.congr (f := fun n => (mrun rtwo rone a b v n l [] fu []).bind fun r => if r.1 = 0 then some (r.2.2.2, r.2.2.1, 0) else some ([], 0, r.1)) (fun n => rfl) (tell_ev hm2)) ?_)
 simp only [thresherlaw8_num.f, Option.bind_some, if_pos]
 exact Ev.bind (eqrecs_refl (toldOf r).1 (by unfold toldOf; split <;> simp <;> omega)) (Ev.now _)

section
variable (S : List ByteArray) (L : List S34) (R : List S50) (F : List Int)
theorem runs_l2 (hR : ∀ y ∈ R, Good50 y) (htL : Tr L) (hlL : L.length < 140737488355328) (hrL : Rng L) (x3 : Int) (l : List S34) (ht : Tr l) (hl : l.length < 140737488355328) (hr : Rng l) (rest : Ev (fun k => thresherlaw8_EvalRuns.l0 k (wrap64 (x3 + 1)) S L R F) true) : ∀ (d i : Nat), i + d = 8 → Ev (fun k => thresherlaw8_EvalRuns.l2 k x3 l (i : Int) S L R F) true := by
 have tail : ∀ i : Int, Ev (fun k => thresherlaw8_EvalRuns.j3 k x3 l i false S L R F) true := fun i => Ev.step (fun k => by rw [thresherlaw8_EvalRuns.j3, if_neg (by decide)]) rest
 intro d
 induction d with
 | zero =>
  intro i hi
  refine Ev.step (f := fun k => thresherlaw8_EvalRuns.j3 k x3 l (i : Int) false S L R F) (fun k => ?_) (tail _)
  rw [thresherlaw8_EvalRuns.l2, decide_eq_false (show ¬ (i : Int) < 8 by omega)]
  split
  ·
   split <;> rfl
  ·
   rfl
 | succ d ih =>
  intro i hi
  by_cases c1 : (i : Int) < (R.length : Int)
  case neg => exact Ev.step (f := fun k => thresherlaw8_EvalRuns.j3 k x3 l (i : Int) false S L R F) (fun k => by rw [thresherlaw8_EvalRuns.l2, if_neg c1]) (tail _)
  by_cases c2 : (i : Int) < (F.length : Int)
  case neg => exact Ev.step (f := fun k => thresherlaw8_EvalRuns.j3 k x3 l (i : Int) false S L R F) (fun k => by rw [thresherlaw8_EvalRuns.l2, if_pos c1, if_neg c2]) (tail _)
  have hi1 : wrap64 ((i : Int) + 1) = ((i + 1 : Nat) : Int) := by unfold wrap64; omega
  refine Ev.step (f := fun k => thresherlaw8_EvalRuns.j3 k x3 l (i : Int) true S L R F) (fun k => by rw [thresherlaw8_EvalRuns.l2, if_pos c1, if_pos c2, decide_eq_true (show (i : Int) < 8 by omega)]) ?_
  have hg := good50_rd hR (show (0 : Int) ≤ (i : Int) by omega) c1
  have e : ∀ k, thresherlaw8_EvalRuns.j3 (k + 1) x3 l (i : Int) true S L R F = _ := fun k => by rw [thresherlaw8_EvalRuns.j3, if_pos rfl, if_pos (show (0 : Int) ≤ (i : Int) by omega), if_pos c1, if_pos c2, hi1]
  generalize rd_T50 R (i : Int) = x at e hg
  generalize rd F (i : Int) = fu at e
  obtain ⟨⟨a, b⟩, v⟩ := x
  obtain ⟨⟨hga, hgb⟩, hgv⟩ := hg
  dsimp only at e hga hgb hgv
  have ha := wfI64 hga
  have hv := wfI64 hgv
  have hb : b.size < 140737488355328 := by omega
  refine Ev.step e (Ev.bind (run_law ht hl hr ha hb hv fu) ?_)
  simp only [if_pos]
  refine Ev.bind (run_law htL hlL hrL ha hb hv fu) ?_
  simp only [if_pos]
  exact ih (i + 1) (by omega)

theorem runs_l0 (hR : ∀ y ∈ R, Good50 y) (htL : Tr L) (hlL : L.length < 140737488355328) (hrL : Rng L) : ∀ (d i : Nat), i + d = 8 → Ev (fun k => thresherlaw8_EvalRuns.l0 k (i : Int) S L R F) true := by
 have tail : ∀ i : Int, Ev (fun k => thresherlaw8_EvalRuns.j1 k i false S L R F) true := fun i => Ev.step (f := fun k => (thresherlaw8_wakes.f k).bind fun t => some t) (fun k => by rw [thresherlaw8_EvalRuns.j1, if_neg (by decide)]) (Ev.bind wakes8_ev (Ev.now _))
 intro d
 induction d with
 | zero =>
  intro i hi
  refine Ev.step (f := fun k => thresherlaw8_EvalRuns.j1 k (i : Int) false S L R F) (fun k => ?_) (tail _)
  rw [thresherlaw8_EvalRuns.l0, decide_eq_false (show ¬ (i : Int) < 8 by omega)]
  split <;> rfl
 | succ d ih =>
  intro i hi
  by_cases c1 : (i : Int) < (S.length : Int)
  case neg => exact Ev.step (f := fun k => thresherlaw8_EvalRuns.j1 k (i : Int) false S L R F) (fun k => by rw [thresherlaw8_EvalRuns.l0, if_neg c1]) (tail _)
  have hi1 : wrap64 ((i : Int) + 1) = ((i + 1 : Nat) : Int) := by unfold wrap64; omega
  obtain ⟨l, e, h1, h2, h3⟩ := parse_ev (rdOf ByteArray.empty S (i : Int))
  have rest : Ev (fun k => thresherlaw8_EvalRuns.l0 k (wrap64 ((i : Int) + 1)) S L R F) true := by rw [hi1]; exact ih (i + 1) (by omega)
  refine Ev.step (f := fun k => thresherlaw8_EvalRuns.j1 k (i : Int) true S L R F) (fun k => by rw [thresherlaw8_EvalRuns.l0, if_pos c1, decide_eq_true (show (i : Int) < 8 by omega)]) ?_
  refine Ev.step (f := fun k => (thresherref6_Parse.f k (rdOf ByteArray.empty S (i : Int))).bind fun b => if b.2 = 0 then thresherlaw8_EvalRuns.l2 k (i : Int) b.1 0 S L R F else thresherlaw8_EvalRuns.l2 k (i : Int) L 0 S L R F) (fun k => by rw [thresherlaw8_EvalRuns.j1, if_pos rfl, if_pos (by omega), if_pos c1]) ?_
  refine Ev.bind h1 ?_
  by_cases c2 : e = 0
  ·
   simp only [if_pos c2]
   exact runs_l2 S L R F hR htL hlL hrL (i : Int) l h2 (by omega) (parse_rng_ev h1) rest 8 0 rfl
  ·
   simp only [if_neg c2]
   exact runs_l2 S L R F hR htL hlL hrL (i : Int) L htL hlL hrL rest 8 0 rfl
end
end Go.Proofs.Ytchgjkfnmifgkaa.QE
namespace Go.Proofs.Ytchgjkfnmifgkaa.QE.Pure
open Go.RowKit Go.Proofs.YtchgjkfnmifgkaaW.PrintWords Go.Proofs.YtchgjkfnmifgkaaW.PrintLast Go.Proofs.YtchgjkfnmifgkaaW.PrintMore
theorem EvalRuns : EvalRunsPure := by
 intro S L R F hS hL hR hF
 have ht := Tr.of_good hL.2.2
 have hl : L.length < 140737488355328 := by have := hL.2.1; omega
 have hs : S.length < 140737488355328 := by have := hS.2.1; omega
 have hr : R.length < 140737488355328 := by have := hR.2.1; omega
 obtain ⟨hv, h3⟩ := heavy8_ev (S := S) R F ht hl hs hr
 refine Ev.rounds (g := fun k => thresherlaw8_EvalRuns.f k S L R F) ?_
 refine Ev.congr (f := fun k => (thresherlaw8_Heavy.f k S L R F).bind fun t => if t = true then some true else thresherlaw8_EvalRuns.l0 k ((0 : Nat) : Int) S L R F) (fun k => rfl) (Ev.bind h3 ?_)
 cases hv with
 | true => simpa using Ev.now _
 | false =>
  simp only [if_neg (show ¬ (false = true) by decide)]
  exact runs_l0 S L R F hR.2.2 ht hl (Rng.of_good hL.2.2) 8 0 rfl
end Go.Proofs.Ytchgjkfnmifgkaa.QE.Pure
