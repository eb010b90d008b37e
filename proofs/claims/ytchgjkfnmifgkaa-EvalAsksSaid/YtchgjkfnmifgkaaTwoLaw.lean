/- What a program of two numbers and a word makes of a record is the page's: in plain Lean. -/
import Derived.Test.YtchgjkfnmifgkaaEvalLaw
import Derived.Test.YtchgjkfnmifgkaaAlikeLaw
import Derived.Test.YtchgjkfnmifgkaaQEx19
namespace Go.Proofs.Ytchgjkfnmifgkaa.QE
open Go.RowKit Go.Proofs.YtchgjkfnmifgkaaW.PrintWords Go.Proofs.YtchgjkfnmifgkaaW.PrintLast Go.Proofs.YtchgjkfnmifgkaaW.PrintMore
set_option linter.unusedVariables false
set_option linter.unusedSimpArgs false

/-- The program: 0 a v WORD emit 1 v a WORD emit. -/
def twoOps (k : Int) : List S34 := [⟨1, 0, []⟩, ⟨2, 0, []⟩, ⟨4, 0, []⟩, ⟨k, 0, []⟩, ⟨30, 0, []⟩, ⟨1, 1, []⟩, ⟨4, 0, []⟩, ⟨2, 0, []⟩, ⟨k, 0, []⟩, ⟨30, 0, []⟩]
theorem twoOps_tr (k : Int) : Tr (twoOps k) := by
  unfold twoOps
  repeat (first | exact .nil | refine .cons (by show 0 < _; decide) .nil ?_)
theorem twoOps_rng (k : Int) : Rng (twoOps k) := by
  unfold twoOps
  repeat (first | exact .nil | refine .cons (by unfold I64; dsimp only; omega) .nil ?_)

/-- A word and its text: the page's parser reads the program, and it checks. -/
structure WordOk (w : ByteArray) (k : Int) : Prop where
  size : w.size ≤ 3
  parse : Ev (fun n => thresherref6_Parse.f n (((((⟨#[48, 32, 97, 32, 118, 32]⟩ : ByteArray) ++ w) ++ (⟨#[32, 101, 109, 105, 116, 32, 49, 32, 118, 32, 97, 32]⟩ : ByteArray)) ++ w) ++ (⟨#[32, 101, 109, 105, 116]⟩ : ByteArray))) (twoOps k, 0)
  check : Ev (fun n => check_Check.f n (twoOps k)) 0

section
variable (S : List ByteArray) (L : List S34) (R : List S50) (F : List Int)
theorem two_j3 (W : List ByteArray) (x5 x6 : Int) (o : List S50) (n e : Int) (ho : o.length < 140737488355328) (rest : Ev (fun k => thresherlaw8_two.l1 k W x5 (wrap64 (x6 + 1)) S L R F) true) : Ev (fun k => thresherlaw8_two.j3 k W x5 x6 0 o n e e o n S L R F) true := by
  have e3 : ∀ k, thresherlaw8_two.j3 (k + 1) W x5 x6 0 o n e e o n S L R F = _ := fun k => by rw [thresherlaw8_two.j3, if_pos rfl, thresherlaw8_num.f, Option.bind_some, if_pos rfl, if_pos rfl]
  exact Ev.step e3 (Ev.bind (eqrecs_refl o ho) (by simpa using rest))
theorem two_l1_step (W : List ByteArray) (x5 : Int) (x6 : Nat) (hW : W.length ≤ 3) (h0 : 0 ≤ x5) (h1 : x5 < R.length) (hR : ∀ y ∈ R, Good50 y) (h6 : x6 < W.length) {k : Int} (hw : WordOk (rdOf ByteArray.empty W (x6 : Int)) k) (rest : Ev (fun n => thresherlaw8_two.l1 n W x5 ((x6 + 1 : Nat) : Int) S L R F) true) :
    Ev (fun n => thresherlaw8_two.l1 n W x5 (x6 : Int) S L R F) true := by
  have hg := good50_rd hR h0 h1
  have hi1 : wrap64 ((x6 : Int) + 1) = ((x6 + 1 : Nat) : Int) := by unfold wrap64; omega
  obtain ⟨hs, hp, hc⟩ := hw
  have e : ∀ n, thresherlaw8_two.l1 (n + 1) W x5 (x6 : Int) S L R F = _ := fun n => by rw [thresherlaw8_two.l1, if_pos (by omega), if_pos (by omega), if_pos (by omega), if_pos (by omega), if_pos (by omega), if_pos (by omega)]
  rw [← hi1] at rest
  generalize rdOf ByteArray.empty W (x6 : Int) = w at hs hp e
  generalize rd_T50 R x5 = x at e hg
  obtain ⟨⟨a, b⟩, v⟩ := x
  obtain ⟨⟨hga, hgb⟩, hgv⟩ := hg
  dsimp only at e hga hgb hgv
  have ha := wfI64 hga
  have hv := wfI64 hgv
  have hb : b.size < 140737488355328 := by omega
  refine Ev.step e (Ev.bind hp ?_)
  simp only [if_pos h0, if_pos h1]
  by_cases c1 : (b.size : Int) > 64
  · refine Ev.bind (run_form hc a b v 20 (.inl c1)) ?_
    simp only [mayrun_f, Option.bind_some, decide_eq_false (show ¬ ((b.size : Int) ≤ 64 ∧ (0 : Int) ≤ 20 ∧ (20 : Int) ≤ 2000) by omega), if_neg (show ¬ (false = true) by decide)]
    exact two_j3 S L R F W x5 x6 [] 0 1 (by simp) rest
  · obtain ⟨c, hc2, hchk⟩ := check_ev (twoOps_tr k) (by simp [twoOps])
    obtain rfl := Ev.same hc2 hc
    obtain ⟨r, hm, hm2, hf0, hf1, ho, hz, _⟩ := sound (a := a) (b := b) (v := v) alike ha hb hv 20 (twoOps k) 0 0 0 (hchk rfl) (twoOps_rng k) (by omega) (by omega) [] 20 [] rfl (by simp) (by omega) (by omega) (by omega) (by simp)
    refine Ev.bind (run_good hc c1 (by omega) (by omega) (tell_ev hm)) ?_
    simp only [mayrun_f, Option.bind_some, decide_eq_true (show (b.size : Int) ≤ 64 ∧ (0 : Int) ≤ 20 ∧ (20 : Int) ≤ 2000 by omega), if_pos]
    refine Ev.bind (g := fun n => thresherref6_Run.f n (twoOps k) a b v 20) (Ev.congr (f := fun n => (mrun rtwo rone a b v n (twoOps k) [] 20 []).bind fun r => if r.1 = 0 then some (r.2.2.2, r.2.2.1, 0) else some ([], 0, r.1)) (fun n => rfl) (tell_ev hm2)) ?_
    exact two_j3 S L R F W x5 x6 (toldOf r).1 (toldOf r).2.1 (toldOf r).2.2 (by unfold toldOf; split <;> simp <;> omega) rest

theorem two_l1 (W : List ByteArray) (hW : W.length ≤ 3) (hk : ∀ i : Nat, i < W.length → ∃ k, WordOk (rdOf ByteArray.empty W (i : Int)) k) (x5 : Int) (h0 : 0 ≤ x5) (h1 : x5 < R.length) (hR : ∀ y ∈ R, Good50 y) (rest : Ev (fun n => thresherlaw8_two.l0 n W (wrap64 (x5 + 1)) S L R F) true) : ∀ (d i : Nat), i + d = W.length → Ev (fun n => thresherlaw8_two.l1 n W x5 (i : Int) S L R F) true := by
  intro d
  induction d with
  | zero => intro i hi; exact Ev.step (fun n => by rw [thresherlaw8_two.l1, if_neg (by omega)]) rest
  | succ d ih =>
    intro i hi
    obtain ⟨k, hw⟩ := hk i (by omega)
    exact two_l1_step S L R F W x5 i hW h0 h1 hR (by omega) hw (ih (i + 1) (by omega))
theorem two_l0 (W : List ByteArray) (hW : W.length ≤ 3) (hk : ∀ i : Nat, i < W.length → ∃ k, WordOk (rdOf ByteArray.empty W (i : Int)) k) (hR : ∀ y ∈ R, Good50 y) : ∀ (d i : Nat), i + d = 8 → Ev (fun n => thresherlaw8_two.l0 n W (i : Int) S L R F) true := by
  have tail : ∀ i : Int, Ev (fun k => thresherlaw8_two.j1 k W i false S L R F) true := fun i => Ev.step (f := fun k => (thresherlaw8_wakes.f k).bind fun t => some t) (fun k => by rw [thresherlaw8_two.j1, if_neg (by decide)]) (Ev.bind wakes8_ev (Ev.now _))
  intro d
  induction d with
  | zero =>
    intro i hi
    refine Ev.step (f := fun k => thresherlaw8_two.j1 k W (i : Int) false S L R F) (fun k => ?_) (tail _)
    rw [thresherlaw8_two.l0, decide_eq_false (show ¬ (i : Int) < 8 by omega)]
    split <;> rfl
  | succ d ih =>
    intro i hi
    by_cases c1 : (i : Int) < (R.length : Int)
    case neg => exact Ev.step (f := fun k => thresherlaw8_two.j1 k W (i : Int) false S L R F) (fun k => by rw [thresherlaw8_two.l0, if_neg c1]) (tail _)
    have hi1 : wrap64 ((i : Int) + 1) = ((i + 1 : Nat) : Int) := by unfold wrap64; omega
    refine Ev.step (f := fun k => thresherlaw8_two.j1 k W (i : Int) true S L R F) (fun k => by rw [thresherlaw8_two.l0, if_pos c1, decide_eq_true (show (i : Int) < 8 by omega)]) ?_
    refine Ev.step (f := fun k => thresherlaw8_two.l1 k W (i : Int) ((0 : Nat) : Int) S L R F) (fun k => by rw [thresherlaw8_two.j1, if_pos rfl]; rfl) ?_
    exact two_l1 S L R F W hW hk (i : Int) (by omega) c1 hR (by rw [hi1]; exact ih (i + 1) (by omega)) W.length 0 (by omega)
theorem two_ev (W : List ByteArray) (hW : W.length ≤ 3) (hk : ∀ i : Nat, i < W.length → ∃ k, WordOk (rdOf ByteArray.empty W (i : Int)) k) (hR : ∀ y ∈ R, Good50 y) (ht : Tr L) (hl : L.length < 140737488355328) (hs : S.length < 140737488355328) (hr : R.length < 140737488355328) : Ev (fun n => thresherlaw8_two.f n S L R F W) true := by
  obtain ⟨hv, h3⟩ := heavy8_ev (S := S) R F ht hl hs hr
  refine Ev.congr (f := fun k => (thresherlaw8_Heavy.f k S L R F).bind fun t => if t = true then some true else thresherlaw8_two.l0 k W ((0 : Nat) : Int) S L R F) (fun k => rfl) (Ev.bind h3 ?_)
  cases hv with
  | true => simpa using Ev.now _
  | false =>
    simp only [if_neg (show ¬ (false = true) by decide)]
    exact two_l0 S L R F W hW hk hR 8 0 rfl
end

theorem WordOk.of {w : ByteArray} {k : Int} (h1 : w.size ≤ 3) (h2 : thresherref6_Parse.f 80 (((((⟨#[48, 32, 97, 32, 118, 32]⟩ : ByteArray) ++ w) ++ (⟨#[32, 101, 109, 105, 116, 32, 49, 32, 118, 32, 97, 32]⟩ : ByteArray)) ++ w) ++ (⟨#[32, 101, 109, 105, 116]⟩ : ByteArray)) = some (twoOps k, 0)) (h3 : check_Check.f 60 (twoOps k) = some 0) : WordOk w k :=
  ⟨h1, Ev.of (fun n => thresherref6_Parse.mono _ n) h2, Ev.of (fun n => check_Check.mono _ n) h3⟩
end Go.Proofs.Ytchgjkfnmifgkaa.QE
