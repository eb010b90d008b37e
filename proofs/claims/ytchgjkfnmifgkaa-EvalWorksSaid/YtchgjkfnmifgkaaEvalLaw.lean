/- What eval.Run answers of ops, whatever the record and the fuel; and what is asked around it. -/
import Derived.Test.YtchgjkfnmifgkaaEvLaws
import Derived.Test.YtchgjkfnmifgkaaEvRun
import Derived.Test.YtchgjkfnmifgkaaQEx13
import Derived.Test.YtchgjkfnmifgkaaQEx16
import Derived.Test.YtchgjkfnmifgkaaHeavyLaw
import Derived.Test.YtchgjkfnmifgkaaTyQE
namespace Go.Proofs.Ytchgjkfnmifgkaa.QE
open Go.RowKit Go.Proofs.YtchgjkfnmifgkaaW.PrintWords Go.Proofs.YtchgjkfnmifgkaaW.PrintLast Go.Proofs.YtchgjkfnmifgkaaW.PrintMore
set_option linter.unusedVariables false
set_option linter.unusedSimpArgs false

theorem check_ev {l : List S34} (ht : Tr l) (hl : l.length < 140737488355328) : ∃ e, Ev (fun k => check_Check.f k l) e ∧ (e = 0 → Chk 0 0 l 0) := by
 have hcheck : ∀ {n m e : Int}, Ev (fun k => check_Need.f k l) (n, m, e) → Ev (fun k => check_Check.f k l) (if e = 0 then (if n = 0 then 0 else 9) else e) := by
  intro n m e h
  refine Ev.congr (f := fun k => (check_Need.f k l).bind fun b => if b.2.2 = 0 then (if b.1 = 0 then some b.2.2 else some 9) else some b.2.2) (fun k => rfl) (Ev.bind h ?_)
  by_cases c : e = 0
  ·
   subst c
   by_cases c2 : n = 0
   ·
    subst c2; simpa using Ev.now _
   ·
    simpa [c2] using Ev.now _
  ·
   simpa [c] using Ev.now _
 obtain ⟨c, hc, ⟨rfl, hf⟩ | ⟨rfl, hf⟩⟩ := lang_check_ev ht hl
 ·
  obtain ⟨s, hs, hs2⟩ := hf
  obtain ⟨e, n, m', hev, hp, _⟩ := cb_runs hs ht hl 0 0 0 (by omega) (by omega) (by omega) (by omega)
  have hneed : Ev (fun k => check_Need.f k l) (if e = 0 then (n, m', 0) else (0, 0, e)) := by
   refine Ev.congr (f := fun k => (lang_Check.f k l).bind fun e => if e = 0 then (check_block.f k 0 0 0 l).bind fun r => (if r.1 = 0 then some (r.2.1, r.2.2, 0) else some (0, 0, r.1)) else some (0, 0, e)) (fun k => rfl) (Ev.bind (a := 0) hc (Ev.bind (a := (e, n, m')) hev ?_))
   by_cases c : e = 0
   ·
    simpa [c] using Ev.now _
   ·
    simpa [c] using Ev.now _
  by_cases c : e = 0
  ·
   subst c
   rw [if_pos rfl] at hneed
   refine ⟨_, hcheck hneed, fun h => ?_⟩
   rw [if_pos rfl] at h
   have h0 : n = 0 := by
    by_cases c2 : n = 0
    ·
     exact c2
    ·
     rw [if_neg c2] at h; simp at h
   subst h0
   exact chk_of hs ht hl 0 0 0 0 m' (by omega) (by omega) (by omega) (by omega) hev
  ·
   rw [if_neg c] at hneed
   refine ⟨_, hcheck hneed, fun h => ?_⟩
   rw [if_neg c] at h
   exact absurd h c
 ·
  refine ⟨_, hcheck (n := 0) (m := 0) (e := 1) ?_, fun h => by simp at h⟩
  exact Ev.congr (f := fun k => (lang_Check.f k l).bind fun e => if e = 0 then (check_block.f k 0 0 0 l).bind fun r => (if r.1 = 0 then some (r.2.1, r.2.2, 0) else some (0, 0, r.1)) else some (0, 0, e)) (fun k => rfl) (Ev.bind (a := 1) hc (by simpa using Ev.now _))

/-- What a machine that ran tells. -/
def toldOf (r : Res) : List S50 × Int × Int := if r.1 = 0 then (r.2.2.2, r.2.2.1, 0) else ([], 0, r.1)

theorem key_f (a : Int) (b : ByteArray) : key_Check.f a b = some (if (b.size : Int) > 64 then 1 else 0) := by
 unfold key_Check.f
 split <;> rfl

theorem run_bad {l : List S34} {e : Int} (he : Ev (fun k => check_Check.f k l) e) (h : e ≠ 0) (a : Int) (b : ByteArray) (v fu : Int) : Ev (fun k => eval_Run.f k l a b v fu) ([], 0, e) := by
 refine Ev.congr (f := fun k => (check_Check.f k l).bind fun e => if e = 0 then
  (key_Check.f a b).bind fun e2 => if e2 = 0 then
   (if fu < 0 then some ([], 0, 1) else if fu > 2000 then some ([], 0, 1) else
    (mrun etwo eone a b v k l [] fu []).bind fun r => if r.1 = 0 then some (r.2.2.2, r.2.2.1, 0) else some ([], 0, r.1))
   else some ([], 0, 1)
  else some ([], 0, e)) (fun k => rfl) (Ev.bind he ?_)
 simp only [if_neg h]
 exact Ev.now _
theorem run_form {l : List S34} (he : Ev (fun k => check_Check.f k l) 0) (a : Int) (b : ByteArray) (v fu : Int) (h : (b.size : Int) > 64 ∨ fu < 0 ∨ fu > 2000) : Ev (fun k => eval_Run.f k l a b v fu) ([], 0, 1) := by
 refine Ev.congr (f := fun k => (check_Check.f k l).bind fun e => if e = 0 then
  (key_Check.f a b).bind fun e2 => if e2 = 0 then
   (if fu < 0 then some ([], 0, 1) else if fu > 2000 then some ([], 0, 1) else
    (mrun etwo eone a b v k l [] fu []).bind fun r => if r.1 = 0 then some (r.2.2.2, r.2.2.1, 0) else some ([], 0, r.1))
   else some ([], 0, 1)
  else some ([], 0, e)) (fun k => rfl) (Ev.bind he ?_)
 simp only [if_pos, key_f, Option.bind_some]
 by_cases c : (b.size : Int) > 64
 ·
  simp only [if_pos c, if_neg (show ¬ ((1 : Int) = 0) by decide)]
  exact Ev.now _
 ·
  simp only [if_neg c, if_pos]
  by_cases c2 : fu < 0
  ·
   simp only [if_pos c2]
   exact Ev.now _
  ·
   simp only [if_neg c2, if_pos (show fu > 2000 by omega)]
   exact Ev.now _
theorem run_good {l : List S34} (he : Ev (fun k => check_Check.f k l) 0) {a : Int} {b : ByteArray} {v fu : Int} (hb : ¬ (b.size : Int) > 64) (h0 : 0 ≤ fu) (h1 : fu ≤ 2000) {g : List S50 × Int × Int} (hm : Ev (fun k => (mrun etwo eone a b v k l [] fu []).bind fun r => if r.1 = 0 then some (r.2.2.2, r.2.2.1, 0) else some ([], 0, r.1)) g) : Ev (fun k => eval_Run.f k l a b v fu) g := by
 refine Ev.congr (f := fun k => (check_Check.f k l).bind fun e => if e = 0 then
  (key_Check.f a b).bind fun e2 => if e2 = 0 then
   (if fu < 0 then some ([], 0, 1) else if fu > 2000 then some ([], 0, 1) else
    (mrun etwo eone a b v k l [] fu []).bind fun r => if r.1 = 0 then some (r.2.2.2, r.2.2.1, 0) else some ([], 0, r.1))
   else some ([], 0, 1)
  else some ([], 0, e)) (fun k => rfl) (Ev.bind he ?_)
 simp only [if_pos, key_f, Option.bind_some, if_neg hb, if_neg (show ¬ fu < 0 by omega), if_neg (show ¬ fu > 2000 by omega)]
 exact hm
theorem tell_ev {two : Int → Int → Int → Option Int} {one : Int → Int → Option Int} {a : Int} {b : ByteArray} {v fu : Int} {l : List S34} {r : Res} (h : Ev (fun k => mrun two one a b v k l [] fu []) r) : Ev (fun k => (mrun two one a b v k l [] fu []).bind fun r => if r.1 = 0 then some (r.2.2.2, r.2.2.1, 0) else some ([], 0, r.1)) (toldOf r) := by
 refine Ev.bind h ?_
 unfold toldOf
 split
 ·
  exact Ev.now _
 ·
  exact Ev.now _

theorem eqrecs_refl (l : List S50) (h : l.length < 140737488355328) : Ev (fun k => thresherref0_EqRecs.f k l l) true := by
 have hl : ∀ (d i : Nat), i + d = l.length → Ev (fun k => thresherref0_EqRecs.l0 k l l (i : Int)) true := by
  intro d
  induction d with
  | zero => intro i hi; exact Ev.step (f := fun _ => some true) (fun k => by rw [thresherref0_EqRecs.l0, if_neg (by omega)]) (Ev.now _)
  | succ d ih =>
   intro i hi
   have hi1 : wrap64 ((i : Int) + 1) = ((i + 1 : Nat) : Int) := by unfold wrap64; omega
   exact Ev.step (fun k => by rw [thresherref0_EqRecs.l0, if_pos (by omega), if_pos (by omega), if_pos (by omega), if_neg (by simp), hi1]) (ih (i + 1) (by omega))
 exact Ev.congr (f := fun k => thresherref0_EqRecs.l0 k l l ((0 : Nat) : Int)) (fun k => by rw [thresherref0_EqRecs.f, if_pos rfl]; rfl) (hl l.length 0 (by omega))

theorem recsw_ev (R : List S50) (hR : R.length < 140737488355328) : ∀ (d i : Nat) (acc : Int), i + d = R.length → ∃ c, Ev (fun k => thresherlaw0_RecsWeight.l0 k R acc (i : Int)) c := by
 intro d
 induction d with
 | zero => intro i acc hi; exact ⟨acc, Ev.step (f := fun _ => some acc) (fun k => by rw [thresherlaw0_RecsWeight.l0, if_neg (by omega)]) (Ev.now _)⟩
 | succ d ih =>
  intro i acc hi
  have hi1 : wrap64 ((i : Int) + 1) = ((i + 1 : Nat) : Int) := by unfold wrap64; omega
  by_cases c : acc < 1048576
  ·
   obtain ⟨r, hr⟩ := ih (i + 1) (wrap64 (acc + (((rd_T50 R (i : Int)).f0.f1).size : Int))) (by omega)
   exact ⟨r, Ev.step (fun k => by rw [thresherlaw0_RecsWeight.l0, if_pos (by omega), if_pos c, if_pos (by omega), hi1]) hr⟩
  ·
   exact ⟨acc, Ev.step (f := fun _ => some acc) (fun k => by rw [thresherlaw0_RecsWeight.l0, if_pos (by omega), if_neg c]) (Ev.now _)⟩

theorem heavy8_ev {S : List ByteArray} {L : List S34} (R : List S50) (F : List Int) (ht : Tr L) (hl : L.length < 140737488355328) (hs : S.length < 140737488355328) (hR : R.length < 140737488355328) : ∃ h, Ev (fun k => thresherlaw8_Heavy.f k S L R F) h := by
 obtain ⟨t, h1⟩ := heavy_ev (S := S) ht hl hs
 obtain ⟨o, h2⟩ := recsw_ev R hR R.length 0 (R.length : Int) (by omega)
 cases t with
 | true => exact ⟨true, Ev.congr (f := fun k => (thresherlaw6_Heavy.f k S L).bind fun t350 => (if t350 = true then (some true) else ((thresherlaw0_RecsWeight.f k R).bind fun t351 => (if t351 > 6000 then (some true) else (some (decide ((F.length : Int) > 200))))))) (fun k => rfl) (Ev.bind h1 (by simpa using Ev.now _))⟩
 | false =>
  by_cases c : o > 6000
  ·
   exact ⟨true, Ev.congr (f := fun k => (thresherlaw6_Heavy.f k S L).bind fun t350 => (if t350 = true then (some true) else ((thresherlaw0_RecsWeight.l0 k R (R.length : Int) ((0 : Nat) : Int)).bind fun t351 => (if t351 > 6000 then (some true) else (some (decide ((F.length : Int) > 200))))))) (fun k => rfl) (Ev.bind h1 (by simp only [if_neg (show ¬ (false = true) by decide)]; exact Ev.bind h2 (by simp only [if_pos c]; exact Ev.now _)))⟩
  ·
   exact ⟨decide ((F.length : Int) > 200), Ev.congr (f := fun k => (thresherlaw6_Heavy.f k S L).bind fun t350 => (if t350 = true then (some true) else ((thresherlaw0_RecsWeight.l0 k R (R.length : Int) ((0 : Nat) : Int)).bind fun t351 => (if t351 > 6000 then (some true) else (some (decide ((F.length : Int) > 200))))))) (fun k => rfl) (Ev.bind h1 (by simp only [if_neg (show ¬ (false = true) by decide)]; exact Ev.bind h2 (by simp only [if_neg c]; exact Ev.now _)))⟩

theorem wakes8_ev : Ev (fun k => thresherlaw8_wakes.f k) true := Ev.of (fun k => thresherlaw8_wakes.mono k) (k := 60) (by decide +kernel)

theorem good50_rd {l : List S50} (h : ∀ y ∈ l, Good50 y) {i : Int} (h0 : 0 ≤ i) (h1 : i < l.length) : Good50 (rd_T50 l i) := by
 unfold rd_T50
 have hl : i.toNat < l.length := by omega
 rw [List.getD_eq_getElem?_getD, List.getElem?_eq_getElem hl]
 exact h _ (List.getElem_mem hl)
theorem wfI64 {n : Int} (h : (Lit.int .i64 n).wf = true) : I64 n := by
 simp [Lit.wf, IntKind.min, IntKind.max, IntKind.bits, IntKind.signed] at h
 unfold I64
 omega
theorem Rng.of_all : ∀ {l : List S34}, (∀ y ∈ l, I64 y.f1 ∧ Rng y.f2) → Rng l
 | [], _ => .nil
 | x :: xs, h => .cons (h x List.mem_cons_self).1 (h x List.mem_cons_self).2 (Rng.of_all (fun y hy => h y (List.mem_cons_of_mem _ hy)))
theorem Good34.rng {x : S34} (h : Good34 x) : I64 x.f1 ∧ Rng x.f2 := by
 induction h with
 | mk h hs ih => exact ⟨wfI64 h.2.1, Rng.of_all ih⟩
theorem Rng.of_good {l : List S34} (h : ∀ y ∈ l, Good34 y) : Rng l := Rng.of_all (fun y hy => (h y hy).rng)
end Go.Proofs.Ytchgjkfnmifgkaa.QE
