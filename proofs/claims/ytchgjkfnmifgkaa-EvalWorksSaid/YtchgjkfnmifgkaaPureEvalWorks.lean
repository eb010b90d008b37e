/- Small programs do what they are to do, at any number: in plain Lean. -/
import Derived.Test.YtchgjkfnmifgkaaEvalLaw
import Derived.Test.YtchgjkfnmifgkaaAlikeE
import Derived.Test.YtchgjkfnmifgkaaPrEvalWorks
namespace Go.Proofs.Ytchgjkfnmifgkaa.QE
open Go.RowKit Go.Proofs.YtchgjkfnmifgkaaW.PrintWords Go.Proofs.YtchgjkfnmifgkaaW.PrintLast Go.Proofs.YtchgjkfnmifgkaaW.PrintMore Go.Proofs.Ytchgjkfnmifgkaa.Math
set_option linter.unusedVariables false
set_option linter.unusedSimpArgs false

abbrev abc : ByteArray := ⟨#[97, 98, 99]⟩
/-- A text's program emits one record, (0, abc), of the number that is wanted. -/
def Works (t : ByteArray) (v want : Int) : Prop := ∃ l left, Ev (fun k => thresherref6_Parse.f k t) (l, 0) ∧ Ev (fun k => eval_Run.f k l 7 abc v 100) ([⟨⟨0, abc⟩, want⟩], left, 0)
theorem Works.of {t : ByteArray} {v want : Int} {l : List S34} {st : List Int} {left : Int} (h1 : thresherref6_Parse.f 200 t = some (l, 0)) (h2 : check_Check.f 60 l = some 0) (h3 : mrun etwo eone 7 abc v 40 l [] 100 [] = some (0, st, left, [⟨⟨0, abc⟩, want⟩])) : Works t v want := by
  refine ⟨l, left, Ev.of (fun n => thresherref6_Parse.mono _ n) h1, ?_⟩
  refine run_good (Ev.of (fun n => check_Check.mono _ n) h2) (by decide) (by decide) (by decide) ?_
  have hm : Ev (fun k => mrun etwo eone 7 abc v k l [] 100 []) (0, st, left, [⟨⟨0, abc⟩, want⟩]) := Ev.of (fun n => (m_mono etwo eone 7 abc v n).1 l [] 100 []) h3
  simpa [toldOf] using tell_ev hm

theorem mrun0 (v : Int) : mrun etwo eone 7 abc v 40 [⟨1, 0, []⟩, ⟨4, 0, []⟩, ⟨1, 1, []⟩, ⟨5, 0, []⟩, ⟨30, 0, []⟩] [] 100 [] = some (0, [], 95, [⟨⟨0, abc⟩, wrap64 (v + 1)⟩]) := by kernel_rfl
theorem mrun1 (v : Int) : mrun etwo eone 7 abc v 40 [⟨1, 0, []⟩, ⟨2, 0, []⟩, ⟨3, 0, []⟩, ⟨7, 0, []⟩, ⟨30, 0, []⟩] [] 100 [] = some (0, [], 95, [⟨⟨0, abc⟩, 21⟩]) := by kernel_rfl
theorem mrun2 (v : Int) : mrun etwo eone 7 abc v 40 [⟨1, 0, []⟩, ⟨4, 0, []⟩, ⟨19, 0, []⟩, ⟨30, 0, []⟩] [] 100 [] = some (0, [], 96, [⟨⟨0, abc⟩, v % 256⟩]) := by kernel_rfl
theorem mrun3 (v : Int) : mrun etwo eone 7 abc v 40 [⟨1, 0, []⟩, ⟨4, 0, []⟩, ⟨23, 0, []⟩, ⟨30, 0, []⟩] [] 100 [] = some (0, [], 96, [⟨⟨0, abc⟩, wrap64 (IntKind.i16.wrap v)⟩]) := by kernel_rfl
theorem mrun4 (v : Int) : mrun etwo eone 7 abc v 40 [⟨1, 0, []⟩, ⟨4, 0, []⟩, ⟨1, 3, []⟩, ⟨15, 0, []⟩, ⟨30, 0, []⟩] [] 100 [] = some (0, [], 95, [⟨⟨0, abc⟩, wrap64 (shr .u64 (IntKind.u64.wrap v) (Int.tmod (IntKind.u64.wrap 3) 64))⟩]) := by kernel_rfl
theorem mrun5 (v : Int) : mrun etwo eone 7 abc v 40 [⟨1, 0, []⟩, ⟨4, 0, []⟩, ⟨4, 0, []⟩, ⟨4, 0, []⟩, ⟨12, 0, []⟩, ⟨5, 0, []⟩, ⟨30, 0, []⟩] [] 100 [] = some (0, [], 93, [⟨⟨0, abc⟩, wrap64 (v + bits .xor .i64 v v)⟩]) := by kernel_rfl
theorem mrun7 (v : Int) : mrun etwo eone 7 abc v 40 [⟨1, 1, []⟩, ⟨29, 0, [⟨1, 0, []⟩, ⟨4, 0, []⟩, ⟨30, 0, []⟩]⟩] [] 100 [] = some (0, [], 95, [⟨⟨0, abc⟩, v⟩]) := by kernel_rfl
theorem mrun9 (v : Int) : mrun etwo eone 7 abc v 40 [⟨1, 0, []⟩, ⟨4, 0, []⟩, ⟨1, 0, []⟩, ⟨8, 0, []⟩, ⟨30, 0, []⟩] [] 100 [] = some (0, [], 95, [⟨⟨0, abc⟩, 0⟩]) := by kernel_rfl
theorem mrun10 (v : Int) : mrun etwo eone 7 abc v 40 [⟨1, 1, []⟩, ⟨1, 0, []⟩, ⟨26, 0, []⟩, ⟨30, 0, []⟩] [] 100 [] = some (0, [], 96, [⟨⟨0, abc⟩, 1⟩]) := by kernel_rfl
theorem mrun11 (v : Int) : mrun etwo eone 7 abc v 40 [⟨1, 0, []⟩, ⟨4, 0, []⟩, ⟨1, 1, []⟩, ⟨1, 2, []⟩, ⟨27, 0, []⟩, ⟨27, 0, []⟩, ⟨30, 0, []⟩] [] 100 [] = some (0, [], 93, [⟨⟨0, abc⟩, v⟩]) := by kernel_rfl
theorem etwo_same (v : Int) : etwo 17 v v = some 1 := by simp [etwo, eval_two.f, eval_truth.f]
theorem etwo_less (v : Int) : etwo 16 v 0 = some (if v < 0 then 1 else 0) := by
  by_cases c : v < 0 <;> simp [etwo, eval_two.f, eval_truth.f, c]
theorem mrun6 (v : Int) : mrun etwo eone 7 abc v 40 [⟨1, 0, []⟩, ⟨4, 0, []⟩, ⟨25, 0, []⟩, ⟨17, 0, []⟩, ⟨30, 0, []⟩] [] 100 [] = some (0, [], 95, [⟨⟨0, abc⟩, 1⟩]) := by
  simp [mrun, mdo, pop1, push1, mvalue, rd, etwo_same, wrap64]
theorem mrun8 (v : Int) : mrun etwo eone 7 abc v 40 [⟨4, 0, []⟩, ⟨1, 0, []⟩, ⟨16, 0, []⟩, ⟨28, 0, [⟨1, 0, []⟩, ⟨1, 1, []⟩, ⟨30, 0, []⟩]⟩, ⟨4, 0, []⟩, ⟨1, 0, []⟩, ⟨16, 0, []⟩, ⟨18, 0, []⟩, ⟨28, 0, [⟨1, 0, []⟩, ⟨1, 2, []⟩, ⟨30, 0, []⟩]⟩] [] 100 [] = some (0, [], 88, [⟨⟨0, abc⟩, if v < 0 then 1 else 2⟩]) := by
  by_cases c : v < 0
  · simp [mrun, mdo, mrep, pop1, push1, mvalue, rd, etwo_less, eone, wrap64, c]
  · simp [mrun, mdo, mrep, pop1, push1, mvalue, rd, etwo_less, eone, wrap64, c]

def worksT : List ByteArray := [(⟨#[48, 32, 118, 32, 49, 32, 43, 32, 101, 109, 105, 116]⟩ : ByteArray), (⟨#[48, 32, 97, 32, 108, 101, 110, 32, 42, 32, 101, 109, 105, 116]⟩ : ByteArray), (⟨#[48, 32, 118, 32, 117, 56, 32, 101, 109, 105, 116]⟩ : ByteArray), (⟨#[48, 32, 118, 32, 115, 49, 54, 32, 101, 109, 105, 116]⟩ : ByteArray), (⟨#[48, 32, 118, 32, 51, 32, 62, 62, 62, 32, 101, 109, 105, 116]⟩ : ByteArray), (⟨#[48, 32, 118, 32, 118, 32, 118, 32, 94, 32, 43, 32, 101, 109, 105, 116]⟩ : ByteArray), (⟨#[48, 32, 118, 32, 100, 117, 112, 32, 61, 32, 101, 109, 105, 116]⟩ : ByteArray), (⟨#[49, 32, 114, 101, 112, 32, 91, 32, 48, 32, 118, 32, 101, 109, 105, 116, 32, 93]⟩ : ByteArray), (⟨#[118, 32, 48, 32, 60, 32, 105, 102, 32, 91, 32, 48, 32, 49, 32, 101, 109, 105, 116, 32, 93, 32, 118, 32, 48, 32, 60, 32, 110, 111, 116, 32, 105, 102, 32, 91, 32, 48, 32, 50, 32, 101, 109, 105, 116, 32, 93]⟩ : ByteArray), (⟨#[48, 32, 118, 32, 48, 32, 47, 32, 101, 109, 105, 116]⟩ : ByteArray), (⟨#[49, 32, 48, 32, 115, 119, 97, 112, 32, 101, 109, 105, 116]⟩ : ByteArray), (⟨#[48, 32, 118, 32, 49, 32, 50, 32, 112, 111, 112, 32, 112, 111, 112, 32, 101, 109, 105, 116]⟩ : ByteArray)]
def worksQ (v : Int) : List Int := [wrap64 (v + 1), 21, v % 256, wrap64 (IntKind.i16.wrap v), wrap64 ((IntKind.u64.wrap v) / 8), v, 1, v, (if v < 0 then 1 else 2), 0, 1, v]
theorem works_all {v : Int} (hv : I64 v) (i : Nat) (hi : i < 12) : Works (rdOf ByteArray.empty worksT (i : Int)) v (rd (worksQ v) (i : Int)) := by
  have x5 : wrap64 (v + bits .xor .i64 v v) = v := by
    rw [show bits .xor .i64 v v = 0 by unfold bits; simp; decide +kernel, Int.add_zero]
    unfold I64 at hv
    exact w64 hv.1 hv.2
  have x4 : wrap64 (shr .u64 (IntKind.u64.wrap v) (Int.tmod (IntKind.u64.wrap 3) 64)) = wrap64 ((IntKind.u64.wrap v) / 8) := by
    rw [show Int.tmod (IntKind.u64.wrap 3) 64 = 3 by decide +kernel, shr_of .u64 rfl (by decide) (by decide)]
    rfl
  rcases (show i = 0 ∨ i = 1 ∨ i = 2 ∨ i = 3 ∨ i = 4 ∨ i = 5 ∨ i = 6 ∨ i = 7 ∨ i = 8 ∨ i = 9 ∨ i = 10 ∨ i = 11 by omega) with rfl | rfl | rfl | rfl | rfl | rfl | rfl | rfl | rfl | rfl | rfl | rfl
  · exact Works.of (t := (⟨#[48, 32, 118, 32, 49, 32, 43, 32, 101, 109, 105, 116]⟩ : ByteArray)) (want := wrap64 (v + 1)) (l := [⟨1, 0, []⟩, ⟨4, 0, []⟩, ⟨1, 1, []⟩, ⟨5, 0, []⟩, ⟨30, 0, []⟩]) (by kernel_rfl) (by kernel_rfl) (mrun0 v)
  · exact Works.of (t := (⟨#[48, 32, 97, 32, 108, 101, 110, 32, 42, 32, 101, 109, 105, 116]⟩ : ByteArray)) (want := 21) (l := [⟨1, 0, []⟩, ⟨2, 0, []⟩, ⟨3, 0, []⟩, ⟨7, 0, []⟩, ⟨30, 0, []⟩]) (by kernel_rfl) (by kernel_rfl) (mrun1 v)
  · exact Works.of (t := (⟨#[48, 32, 118, 32, 117, 56, 32, 101, 109, 105, 116]⟩ : ByteArray)) (want := v % 256) (l := [⟨1, 0, []⟩, ⟨4, 0, []⟩, ⟨19, 0, []⟩, ⟨30, 0, []⟩]) (by kernel_rfl) (by kernel_rfl) (mrun2 v)
  · exact Works.of (t := (⟨#[48, 32, 118, 32, 115, 49, 54, 32, 101, 109, 105, 116]⟩ : ByteArray)) (want := wrap64 (IntKind.i16.wrap v)) (l := [⟨1, 0, []⟩, ⟨4, 0, []⟩, ⟨23, 0, []⟩, ⟨30, 0, []⟩]) (by kernel_rfl) (by kernel_rfl) (mrun3 v)
  · exact Works.of (t := (⟨#[48, 32, 118, 32, 51, 32, 62, 62, 62, 32, 101, 109, 105, 116]⟩ : ByteArray)) (want := wrap64 ((IntKind.u64.wrap v) / 8)) (l := [⟨1, 0, []⟩, ⟨4, 0, []⟩, ⟨1, 3, []⟩, ⟨15, 0, []⟩, ⟨30, 0, []⟩]) (by kernel_rfl) (by kernel_rfl) (by have h := mrun4 v; rw [x4] at h; exact h)
  · exact Works.of (t := (⟨#[48, 32, 118, 32, 118, 32, 118, 32, 94, 32, 43, 32, 101, 109, 105, 116]⟩ : ByteArray)) (want := v) (l := [⟨1, 0, []⟩, ⟨4, 0, []⟩, ⟨4, 0, []⟩, ⟨4, 0, []⟩, ⟨12, 0, []⟩, ⟨5, 0, []⟩, ⟨30, 0, []⟩]) (by kernel_rfl) (by kernel_rfl) (by have h := mrun5 v; rw [x5] at h; exact h)
  · exact Works.of (t := (⟨#[48, 32, 118, 32, 100, 117, 112, 32, 61, 32, 101, 109, 105, 116]⟩ : ByteArray)) (want := 1) (l := [⟨1, 0, []⟩, ⟨4, 0, []⟩, ⟨25, 0, []⟩, ⟨17, 0, []⟩, ⟨30, 0, []⟩]) (by kernel_rfl) (by kernel_rfl) (mrun6 v)
  · exact Works.of (t := (⟨#[49, 32, 114, 101, 112, 32, 91, 32, 48, 32, 118, 32, 101, 109, 105, 116, 32, 93]⟩ : ByteArray)) (want := v) (l := [⟨1, 1, []⟩, ⟨29, 0, [⟨1, 0, []⟩, ⟨4, 0, []⟩, ⟨30, 0, []⟩]⟩]) (by kernel_rfl) (by kernel_rfl) (mrun7 v)
  · exact Works.of (t := (⟨#[118, 32, 48, 32, 60, 32, 105, 102, 32, 91, 32, 48, 32, 49, 32, 101, 109, 105, 116, 32, 93, 32, 118, 32, 48, 32, 60, 32, 110, 111, 116, 32, 105, 102, 32, 91, 32, 48, 32, 50, 32, 101, 109, 105, 116, 32, 93]⟩ : ByteArray)) (want := (if v < 0 then 1 else 2)) (l := [⟨4, 0, []⟩, ⟨1, 0, []⟩, ⟨16, 0, []⟩, ⟨28, 0, [⟨1, 0, []⟩, ⟨1, 1, []⟩, ⟨30, 0, []⟩]⟩, ⟨4, 0, []⟩, ⟨1, 0, []⟩, ⟨16, 0, []⟩, ⟨18, 0, []⟩, ⟨28, 0, [⟨1, 0, []⟩, ⟨1, 2, []⟩, ⟨30, 0, []⟩]⟩]) (by kernel_rfl) (by kernel_rfl) (mrun8 v)
  · exact Works.of (t := (⟨#[48, 32, 118, 32, 48, 32, 47, 32, 101, 109, 105, 116]⟩ : ByteArray)) (want := 0) (l := [⟨1, 0, []⟩, ⟨4, 0, []⟩, ⟨1, 0, []⟩, ⟨8, 0, []⟩, ⟨30, 0, []⟩]) (by kernel_rfl) (by kernel_rfl) (mrun9 v)
  · exact Works.of (t := (⟨#[49, 32, 48, 32, 115, 119, 97, 112, 32, 101, 109, 105, 116]⟩ : ByteArray)) (want := 1) (l := [⟨1, 1, []⟩, ⟨1, 0, []⟩, ⟨26, 0, []⟩, ⟨30, 0, []⟩]) (by kernel_rfl) (by kernel_rfl) (mrun10 v)
  · exact Works.of (t := (⟨#[48, 32, 118, 32, 49, 32, 50, 32, 112, 111, 112, 32, 112, 111, 112, 32, 101, 109, 105, 116]⟩ : ByteArray)) (want := v) (l := [⟨1, 0, []⟩, ⟨4, 0, []⟩, ⟨1, 1, []⟩, ⟨1, 2, []⟩, ⟨27, 0, []⟩, ⟨27, 0, []⟩, ⟨30, 0, []⟩]) (by kernel_rfl) (by kernel_rfl) (mrun11 v)

section
variable (S : List ByteArray) (L : List S34) (R : List S50) (F : List Int)
theorem works_l1 (x3 : Int) (W : List ByteArray) (Q : List Int) (v : Int) (hW : W.length = 12) (hQ : Q.length = 12) (hw : ∀ i : Nat, i < 12 → Works (rdOf ByteArray.empty W (i : Int)) v (rd Q (i : Int))) (rest : Ev (fun k => thresherlaw8_EvalWorks.l0 k (wrap64 (x3 + 1)) S L R F) true) : ∀ (d i : Nat), i + d = 12 → Ev (fun k => thresherlaw8_EvalWorks.l1 k x3 W Q (i : Int) S L R F 7 abc v) true := by
  intro d
  induction d with
  | zero => intro i hi; exact Ev.step (fun k => by rw [thresherlaw8_EvalWorks.l1, if_neg (by omega)]) rest
  | succ d ih =>
    intro i hi
    have hi1 : wrap64 ((i : Int) + 1) = ((i + 1 : Nat) : Int) := by unfold wrap64; omega
    obtain ⟨l, left, h1, h2⟩ := hw i (by omega)
    have e : ∀ k, thresherlaw8_EvalWorks.l1 (k + 1) x3 W Q (i : Int) S L R F 7 abc v = _ := fun k => by rw [thresherlaw8_EvalWorks.l1, if_pos (by omega), if_pos (by omega), hi1]
    refine Ev.step e (Ev.bind h1 (Ev.bind h2 ?_))
    simp only [if_pos, thresherlaw8_num.f, Option.bind_some, if_pos (show (([⟨⟨0, abc⟩, rd Q (i : Int)⟩] : List S50).length : Int) = 1 from rfl), if_pos (show (0 : Int) < (([⟨⟨0, abc⟩, rd Q (i : Int)⟩] : List S50).length : Int) by simp), if_pos (show (i : Int) < (Q.length : Int) by omega)]
    have hab : (abc.toList == ([97, 98, 99] : List UInt8)) = true := by decide +kernel
    exact Ev.congr (f := fun n => thresherlaw8_EvalWorks.l1 n x3 W Q ((i + 1 : Nat) : Int) S L R F 7 abc v) (fun n => if_neg (by simp [rd_T50, hab])) (ih (i + 1) (by omega))
theorem works_l0 (hR : ∀ y ∈ R, Good50 y) : ∀ (d i : Nat), i + d = 8 → Ev (fun k => thresherlaw8_EvalWorks.l0 k (i : Int) S L R F) true := by
  have tail : ∀ i : Int, Ev (fun k => thresherlaw8_EvalWorks.j1 k i false S L R F) true := fun i => Ev.step (f := fun k => (thresherlaw8_wakes.f k).bind fun t => some t) (fun k => by rw [thresherlaw8_EvalWorks.j1, if_neg (by decide)]) (Ev.bind wakes8_ev (Ev.now _))
  intro d
  induction d with
  | zero =>
    intro i hi
    refine Ev.step (f := fun k => thresherlaw8_EvalWorks.j1 k (i : Int) false S L R F) (fun k => ?_) (tail _)
    rw [thresherlaw8_EvalWorks.l0, decide_eq_false (show ¬ (i : Int) < 8 by omega)]
    split <;> rfl
  | succ d ih =>
    intro i hi
    by_cases c1 : (i : Int) < (R.length : Int)
    case neg => exact Ev.step (f := fun k => thresherlaw8_EvalWorks.j1 k (i : Int) false S L R F) (fun k => by rw [thresherlaw8_EvalWorks.l0, if_neg c1]) (tail _)
    have hi1 : wrap64 ((i : Int) + 1) = ((i + 1 : Nat) : Int) := by unfold wrap64; omega
    refine Ev.step (f := fun k => thresherlaw8_EvalWorks.j1 k (i : Int) true S L R F) (fun k => by rw [thresherlaw8_EvalWorks.l0, if_pos c1, decide_eq_true (show (i : Int) < 8 by omega)]) ?_
    have hv : I64 (rd_T50 R (i : Int)).f1 := wfI64 (good50_rd hR (show (0 : Int) ≤ (i : Int) by omega) c1).2
    have hall := fun j hj => works_all hv j hj
    have e : ∀ k, thresherlaw8_EvalWorks.j1 (k + 1) (i : Int) true S L R F = thresherlaw8_EvalWorks.j2 k (i : Int) worksT (worksQ (rd_T50 R (i : Int)).f1) S L R F 7 abc (rd_T50 R (i : Int)).f1 := fun k => by
      rw [thresherlaw8_EvalWorks.j1, if_pos rfl, if_pos (show (0 : Int) ≤ (i : Int) by omega), if_pos c1]
      simp only [Option.bind_some]
      by_cases c : (rd_T50 R (i : Int)).f1 < 0
      · rw [if_pos c, if_pos (by simp)]
        unfold worksT worksQ
        rw [if_pos c]
        rfl
      · rw [if_neg c]
        unfold worksT worksQ
        rw [if_neg c]
    exact Ev.step e (Ev.step (fun k => by rw [thresherlaw8_EvalWorks.j2]; rfl) (works_l1 S L R F (i : Int) worksT _ _ rfl rfl hall (by rw [hi1]; exact ih (i + 1) (by omega)) 12 0 rfl))
end
end Go.Proofs.Ytchgjkfnmifgkaa.QE
namespace Go.Proofs.Ytchgjkfnmifgkaa.QE.Pure
open Go.RowKit Go.Proofs.YtchgjkfnmifgkaaW.PrintWords Go.Proofs.YtchgjkfnmifgkaaW.PrintLast Go.Proofs.YtchgjkfnmifgkaaW.PrintMore
theorem EvalWorks : EvalWorksPure := by
  intro S L R F hS hL hR hF
  exact Ev.rounds (g := fun k => thresherlaw8_EvalWorks.f k S L R F) (Ev.congr (f := fun k => thresherlaw8_EvalWorks.l0 k ((0 : Nat) : Int) S L R F) (fun k => rfl) (works_l0 S L R F hR.2.2 8 0 rfl))
end Go.Proofs.Ytchgjkfnmifgkaa.QE.Pure
