/- What any ops take and leave, and whether they check: the program's answers are the page's. -/
import Derived.Test.YtchgjkfnmifgkaaNeedRef
import Derived.Test.YtchgjkfnmifgkaaQEx7
namespace Go.Proofs.Ytchgjkfnmifgkaa.QE
open Go.RowKit Go.Proofs.YtchgjkfnmifgkaaW.PrintWords Go.Proofs.YtchgjkfnmifgkaaW.PrintLast Go.Proofs.YtchgjkfnmifgkaaW.PrintMore
set_option linter.unusedVariables false
set_option linter.unusedSimpArgs false

theorem both_need {l : List S34} (ht : Tr l) (hl : l.length < 140737488355328) : ∃ r : Int × Int × Int, Ev (fun k => check_Need.f k l) r ∧ Ev (fun k => thresherref6_Need.f k l) r ∧ 0 ≤ r.1 := by
 obtain ⟨m, ok, h1, h2⟩ := ops_ev ht hl
 obtain ⟨c, hc, ⟨rfl, hf⟩ | ⟨rfl, hf⟩⟩ := lang_check_ev ht hl
 ·
  obtain rfl := h2.mpr hf
  obtain ⟨s, hs, hs2⟩ := hf
  obtain ⟨e, n, m', hev, hp, _⟩ := cb_runs hs ht hl 0 0 0 (by omega) (by omega) (by omega) (by omega)
  have hr := likes hs ht hl l 0 rfl hl 0 0 0 (by omega) (by omega) (by omega) (by omega) _ hev
  have hr2 : Ev (fun k => thresherref6_need.f k l 0 0 0) (told (e, n, m')) := Ev.step (f := fun k => thresherref6_need.l0 k l 0 0 0 ((0 : Nat) : Int)) (fun k => rfl) hr
  refine ⟨if e = 0 then (n, m', 0) else (0, 0, 9), ?_, ?_, ?_⟩
  ·
   refine Ev.congr (f := fun k => (lang_Check.f k l).bind fun e => if e = 0 then (check_block.f k 0 0 0 l).bind fun r => (if r.1 = 0 then some (r.2.1, r.2.2, 0) else some (0, 0, r.1)) else some (0, 0, e)) (fun k => rfl) (Ev.bind (a := 0) hc (Ev.bind (a := (e, n, m')) hev ?_))
   rcases hp with ⟨rfl, _⟩ | rfl
   ·
    simpa using Ev.now _
   ·
    simpa using Ev.now _
  ·
   refine Ev.congr (f := fun k => (thresherref6_Ops.f k l).bind fun b => if b.2 = true then ((thresherref6_need.f k l 0 0 0).bind fun b => (if b.2.2 = true then some (b.1, b.2.1, 0) else some (0, 0, 9))) else some (0, 0, 1)) (fun k => rfl) (Ev.bind h1 (Ev.bind (a := told (e, n, m')) hr2 ?_))
   rcases hp with ⟨rfl, _⟩ | rfl
   ·
    simpa [told] using Ev.now _
   ·
    simpa [told] using Ev.now _
  ·
   rcases hp with ⟨rfl, h, _⟩ | rfl
   ·
    simpa using h
   ·
    simp
 ·
  have hno : ok = false := by
   cases ok with
   | false => rfl
   | true => exact absurd (h2.mp rfl) hf
  subst hno
  refine ⟨(0, 0, 1), ?_, ?_, by simp⟩
  ·
   exact Ev.congr (f := fun k => (lang_Check.f k l).bind fun e => if e = 0 then (check_block.f k 0 0 0 l).bind fun r => (if r.1 = 0 then some (r.2.1, r.2.2, 0) else some (0, 0, r.1)) else some (0, 0, e)) (fun k => rfl) (Ev.bind (a := 1) hc (by simpa using Ev.now _))
  ·
   exact Ev.congr (f := fun k => (thresherref6_Ops.f k l).bind fun b => if b.2 = true then ((thresherref6_need.f k l 0 0 0).bind fun b => (if b.2.2 = true then some (b.1, b.2.1, 0) else some (0, 0, 9))) else some (0, 0, 1)) (fun k => rfl) (Ev.bind h1 (by simpa using Ev.now _))

theorem both_check {l : List S34} (ht : Tr l) (hl : l.length < 140737488355328) : ∃ e : Int, Ev (fun k => check_Check.f k l) e ∧ Ev (fun k => thresherref6_Check.f k l) e := by
 obtain ⟨⟨n, m, e⟩, h1, h2, h3⟩ := both_need ht hl
 dsimp only at h3
 refine ⟨if e = 0 then (if n = 0 then 0 else 9) else e, ?_, ?_⟩
 ·
  refine Ev.congr (f := fun k => (check_Need.f k l).bind fun b => if b.2.2 = 0 then (if b.1 = 0 then some b.2.2 else some 9) else some b.2.2) (fun k => rfl) (Ev.bind h1 ?_)
  by_cases c : e = 0
  ·
   subst c
   by_cases c2 : n = 0
   ·
    subst c2; simpa using Ev.now _
   ·
    simpa [c2] using Ev.now _
  ·
   simpa [c] using Ev.now _
 ·
  refine Ev.congr (f := fun k => (thresherref6_Need.f k l).bind fun b => if b.2.2 = 0 then (if b.1 > 0 then some 9 else some b.2.2) else some b.2.2) (fun k => rfl) (Ev.bind h2 ?_)
  by_cases c : e = 0
  ·
   subst c
   by_cases c2 : n = 0
   ·
    subst c2; simpa using Ev.now _
   ·
    simpa [c2, show n > 0 by omega] using Ev.now _
  ·
   simpa [c] using Ev.now _
end Go.Proofs.Ytchgjkfnmifgkaa.QE
