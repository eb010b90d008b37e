/- What any ops, and any program, take and leave, and whether they check, is the page's. -/
import Derived.Test.YtchgjkfnmifgkaaOneLaw
import Derived.Test.YtchgjkfnmifgkaaParseLaw
import Derived.Test.YtchgjkfnmifgkaaHeavyLaw
import Derived.Test.YtchgjkfnmifgkaaPrCheckNeeds
namespace Go.Proofs.Ytchgjkfnmifgkaa.QE
open Go.RowKit Go.Proofs.YtchgjkfnmifgkaaW.PrintWords Go.Proofs.YtchgjkfnmifgkaaW.PrintLast Go.Proofs.YtchgjkfnmifgkaaW.PrintMore
set_option linter.unusedVariables false
set_option linter.unusedSimpArgs false

theorem wakes7_ev : Ev (fun k => thresherlaw7_wakes.f k) true := Ev.of (fun k => thresherlaw7_wakes.mono k) (k := 60) (by decide +kernel)

theorem cn_j3_end (i : Int) (S : List ByteArray) (L : List S34) : Ev (fun k => thresherlaw7_CheckNeeds.j3 k i false S L) true :=
  Ev.step (f := fun k => (thresherlaw7_wakes.f k).bind fun t => some t) (fun k => by rw [thresherlaw7_CheckNeeds.j3, if_neg (by decide)]) (Ev.bind wakes7_ev (Ev.now _))

theorem cn_l1 (S : List ByteArray) (L : List S34) : ∀ (dd i : Nat), i + dd = 10 → Ev (fun k => thresherlaw7_CheckNeeds.l1 k (i : Int) S L) true := by
  intro dd
  induction dd with
  | zero =>
    intro i hi
    refine Ev.step (f := fun k => thresherlaw7_CheckNeeds.j3 k (i : Int) false S L) (fun k => ?_) (cn_j3_end _ _ _)
    rw [thresherlaw7_CheckNeeds.l1, decide_eq_false (show ¬ (i : Int) < 10 by omega)]
    split <;> rfl
  | succ dd ih =>
    intro i hi
    by_cases c1 : (i : Int) < (S.length : Int)
    case neg => exact Ev.step (f := fun k => thresherlaw7_CheckNeeds.j3 k (i : Int) false S L) (fun k => by rw [thresherlaw7_CheckNeeds.l1, if_neg c1]) (cn_j3_end _ _ _)
    have hi1 : wrap64 ((i : Int) + 1) = ((i + 1 : Nat) : Int) := by unfold wrap64; omega
    obtain ⟨l, e, h1, h2, h3⟩ := parse_ev (rdOf ByteArray.empty S (i : Int))
    refine Ev.step (f := fun k => thresherlaw7_CheckNeeds.j3 k (i : Int) true S L) (fun k => by rw [thresherlaw7_CheckNeeds.l1, if_pos c1, decide_eq_true (show (i : Int) < 10 by omega)]) ?_
    refine Ev.step (f := fun k => (thresherref6_Parse.f k (rdOf ByteArray.empty S (i : Int))).bind fun b => if b.2 = 0 then ((thresherlaw7_one.f k b.1).bind fun t => if t = true then thresherlaw7_CheckNeeds.l1 k ((i + 1 : Nat) : Int) S L else some false) else thresherlaw7_CheckNeeds.l1 k ((i + 1 : Nat) : Int) S L) (fun k => by rw [thresherlaw7_CheckNeeds.j3, if_pos rfl, if_pos (by omega), if_pos c1, hi1]) ?_
    refine Ev.bind h1 ?_
    by_cases c2 : e = 0
    · simp only [if_pos c2]
      exact Ev.bind (one_ev h2 (by omega)) (by simpa using ih (i + 1) (by omega))
    · simp only [if_neg c2]
      exact ih (i + 1) (by omega)

theorem Tr.take : ∀ {l : List S34} (i : Nat), Tr l → Tr (l.take i)
  | _, 0, _ => by simpa using Tr.nil
  | _, _ + 1, .nil => by simpa using Tr.nil
  | _, i + 1, .cons h1 h2 h3 => by simpa using Tr.cons h1 h2 (Tr.take i h3)
theorem Tr.drop : ∀ {l : List S34} (i : Nat), Tr l → Tr (l.drop i)
  | _, 0, h => by simpa using h
  | _, _ + 1, .nil => by simpa using Tr.nil
  | _, i + 1, .cons h1 h2 h3 => by simpa using Tr.drop i h3

theorem cn_l0 (S : List ByteArray) (L : List S34) (ht : Tr L) (hl : L.length < 140737488355328) : ∀ (dd i : Nat), i + dd = 40 → Ev (fun k => thresherlaw7_CheckNeeds.l0 k (i : Int) S L) true := by
  have tail : ∀ i : Int, Ev (fun k => thresherlaw7_CheckNeeds.j1 k i false S L) true := fun i => Ev.step (f := fun k => thresherlaw7_CheckNeeds.l1 k ((0 : Nat) : Int) S L) (fun k => by rw [thresherlaw7_CheckNeeds.j1, if_neg (by decide)]; rfl) (cn_l1 S L 10 0 rfl)
  intro dd
  induction dd with
  | zero =>
    intro i hi
    refine Ev.step (f := fun k => thresherlaw7_CheckNeeds.j1 k (i : Int) false S L) (fun k => ?_) (tail _)
    rw [thresherlaw7_CheckNeeds.l0, decide_eq_false (show ¬ (i : Int) < 40 by omega)]
    split <;> rfl
  | succ dd ih =>
    intro i hi
    by_cases c1 : (i : Int) < (L.length : Int)
    case neg => exact Ev.step (f := fun k => thresherlaw7_CheckNeeds.j1 k (i : Int) false S L) (fun k => by rw [thresherlaw7_CheckNeeds.l0, if_neg c1]) (tail _)
    have hi1 : wrap64 ((i : Int) + 1) = ((i + 1 : Nat) : Int) := by unfold wrap64; omega
    refine Ev.step (f := fun k => thresherlaw7_CheckNeeds.j1 k (i : Int) true S L) (fun k => by rw [thresherlaw7_CheckNeeds.l0, if_pos c1, decide_eq_true (show (i : Int) < 40 by omega)]) ?_
    refine Ev.step (f := fun k => (thresherlaw7_one.f k (L.take i)).bind fun t => if t = true then ((thresherlaw7_one.f k (L.drop i)).bind fun u => if u = true then thresherlaw7_CheckNeeds.l0 k ((i + 1 : Nat) : Int) S L else some false) else some false) (fun k => by rw [thresherlaw7_CheckNeeds.j1, if_pos rfl, if_pos (by omega), if_pos (by omega), Int.toNat_natCast, hi1]) ?_
    refine Ev.bind (one_ev (ht.take i) (by simp; omega)) ?_
    simp only [if_pos]
    refine Ev.bind (one_ev (ht.drop i) (by simp; omega)) ?_
    simp only [if_pos]
    exact ih (i + 1) (by omega)
end Go.Proofs.Ytchgjkfnmifgkaa.QE
namespace Go.Proofs.Ytchgjkfnmifgkaa.QE.Pure
open Go.RowKit Go.Proofs.YtchgjkfnmifgkaaW.PrintWords Go.Proofs.YtchgjkfnmifgkaaW.PrintLast Go.Proofs.YtchgjkfnmifgkaaW.PrintMore
theorem CheckNeeds : CheckNeedsPure := by
  intro S L hS hL
  have ht := Tr.of_good hL.2.2
  have hl : L.length < 140737488355328 := by have := hL.2.1; omega
  have hs : S.length < 140737488355328 := by have := hS.2.1; omega
  obtain ⟨hv, h3⟩ := heavy_ev (S := S) ht hl hs
  refine Ev.rounds (g := fun k => thresherlaw7_CheckNeeds.f k S L) ?_
  refine Ev.congr (f := fun k => (thresherlaw6_Heavy.f k S L).bind fun t => if t = true then some true else ((thresherlaw7_one.f k L).bind fun u => if u = true then thresherlaw7_CheckNeeds.l0 k ((0 : Nat) : Int) S L else some false)) (fun k => rfl) (Ev.bind h3 ?_)
  cases hv with
  | true => simpa using Ev.now _
  | false =>
    simp only [if_neg (show ¬ (false = true) by decide)]
    exact Ev.bind (one_ev ht hl) (by simpa using cn_l0 S L ht hl 40 0 rfl)
end Go.Proofs.Ytchgjkfnmifgkaa.QE.Pure
