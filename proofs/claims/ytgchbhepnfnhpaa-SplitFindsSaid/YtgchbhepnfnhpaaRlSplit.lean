/- Records and lists of them, in plain Lean: what the program's functions and the page's come to, the same on both sides; what is written is taken back. -/
import Derived.Test.YtgchbhepnfnhpaaTyQSplit
import Derived.Test.YtgchbhepnfnhpaaRgSplit
import Derived.Test.YtgchbhepnfnhpaaQSplitx5
import Derived.Test.YtgchbhepnfnhpaaQSplitx3
namespace Go.Proofs.Ytgchbhepnfnhpaa.QSplit
open Go.RowKit Go.Proofs.Ytgchbhepnfnhpaa Go.Proofs.YtgchbhepnfnhpaaW.PrintWords Go.Proofs.YtgchbhepnfnhpaaW.PrintLast Go.Proofs.YtgchbhepnfnhpaaW.PrintMore Go.Proofs.Ytgchbhepnfnhpaa.Math
set_option linter.unusedVariables false
set_option linter.unusedSimpArgs false

/-! ### one record -/
/-! ### heavy -/
/-! ### all records of a text -/
def recall : Nat → ByteArray → List S32 → List S32 × Int
  | 0, _, acc => (acc, 0)
  | d + 1, s, acc => if s.size = 0 then (acc, 0) else if acc.length = 64 then ([], 2) else
    if (rectake s).2.2.2.2 = 0 then recall d (s.extract (rectake s).2.2.2.1.toNat s.size) (acc ++ [⟨⟨(rectake s).1, (rectake s).2.1⟩, (rectake s).2.2.1⟩]) else ([], (rectake s).2.2.2.2)
def allrecs (s : ByteArray) : List S32 × Int := if 8192 < s.size then ([], 2) else recall 66 s []
theorem nil_iff (s : ByteArray) : s.toList = ([] : List UInt8) ↔ s.size = 0 := by
  rw [Lib.toList_data, ← data_length s, List.length_eq_zero_iff]
theorem recall_ev : ∀ (d : Nat) (s : ByteArray) (acc : List S32), s.size ≤ 8192 → acc.length + d = 66 → acc.length ≤ 64 → Ev (fun k => rec_All.l0 k s acc) (recall d s acc) := by
  intro d
  induction d with
  | zero => intro s acc hs hl h64; omega
  | succ d ih =>
    intro s acc hs hl h64
    by_cases h0 : s.size = 0
    · refine Ev.step (f := fun _ => some (acc, 0)) (fun k => ?_) (by simp only [recall]; rw [if_pos h0]; exact Ev.now _)
      simp only [rec_All.l0]
      rw [if_pos ((nil_iff s).2 h0)]
    · have hne : ¬ s.toList = ([] : List UInt8) := fun h => h0 ((nil_iff s).1 h)
      by_cases h1 : acc.length = 64
      · refine Ev.step (f := fun _ => some ([], 2)) (fun k => ?_) (by simp only [recall]; rw [if_neg h0, if_pos h1]; exact Ev.now _)
        simp only [rec_All.l0]
        rw [if_neg hne, if_pos (by omega)]
      · refine Ev.step (f := fun k => (rec_Take.f k s).bind fun b => (if b.2.2.2.2 = 0 then (if acc.length < 4398046511104 then (if 0 ≤ b.2.2.2.1 then (if b.2.2.2.1 ≤ (s.size : Int) then (rec_All.l0 k (s.extract (b.2.2.2.1 : Int).toNat s.size) (acc ++ [(⟨(⟨b.1, b.2.1⟩ : S30), b.2.2.1⟩ : S32)])) else (none)) else (none)) else (none)) else (some (([] : List (S32)), b.2.2.2.2)))) (fun k => ?_) ?_
        · simp only [rec_All.l0]
          rw [if_neg hne, if_neg (by omega)]
        · refine Ev.bind (f := fun k (b : Int × ByteArray × Int × Int × Int) => (if b.2.2.2.2 = 0 then (if acc.length < 4398046511104 then (if 0 ≤ b.2.2.2.1 then (if b.2.2.2.1 ≤ (s.size : Int) then (rec_All.l0 k (s.extract (b.2.2.2.1 : Int).toNat s.size) (acc ++ [(⟨(⟨b.1, b.2.1⟩ : S30), b.2.2.1⟩ : S32)])) else (none)) else (none)) else (none)) else (some (([] : List (S32)), b.2.2.2.2)))) (rec_take_ev s (by omega)) ?_
          simp only [recall]
          rw [if_neg h0, if_neg h1]
          by_cases h2 : (rectake s).2.2.2.2 = 0
          · obtain ⟨g1, g2⟩ := rectake_in h2
            rw [if_pos h2]
            refine evPos h2 (evPos (by omega) (evPos (by omega) (evPos g2 ?_)))
            refine ih _ _ ?_ (by simp; omega) (by simp; omega)
            have := ext_size (s := s) (n := (rectake s).2.2.2.1) (by omega) g2
            omega
          · rw [if_neg h2]
            exact evNeg h2 (Ev.now _)
theorem refrecall_ev : ∀ (d : Nat) (s : ByteArray) (acc : List S32), s.size ≤ 8192 → acc.length + d = 66 → acc.length ≤ 64 → Ev (fun k => thresherref3_All.l0 k s acc) (recall d s acc) := by
  intro d
  induction d with
  | zero => intro s acc hs hl h64; omega
  | succ d ih =>
    intro s acc hs hl h64
    by_cases h0 : s.size = 0
    · refine Ev.step (f := fun _ => some (acc, 0)) (fun k => ?_) (by simp only [recall]; rw [if_pos h0]; exact Ev.now _)
      simp only [thresherref3_All.l0]
      rw [if_neg (by omega)]
    · by_cases h1 : acc.length = 64
      · refine Ev.step (f := fun _ => some ([], 2)) (fun k => ?_) (by simp only [recall]; rw [if_neg h0, if_pos h1]; exact Ev.now _)
        simp only [thresherref3_All.l0]
        rw [if_pos (by omega), if_pos (by omega)]
      · refine Ev.step (f := fun k => (thresherref3_TakeRec.f k s).bind fun b => (if b.2.2.2.2 = 0 then (if acc.length < 4398046511104 then (if 0 ≤ b.2.2.2.1 then (if b.2.2.2.1 ≤ (s.size : Int) then (thresherref3_All.l0 k (s.extract (b.2.2.2.1 : Int).toNat s.size) (acc ++ [(⟨(⟨b.1, b.2.1⟩ : S30), b.2.2.1⟩ : S32)])) else (none)) else (none)) else (none)) else (some (([] : List (S32)), b.2.2.2.2)))) (fun k => ?_) ?_
        · simp only [thresherref3_All.l0]
          rw [if_pos (by omega), if_neg (by omega)]
        · refine Ev.bind (f := fun k (b : Int × ByteArray × Int × Int × Int) => (if b.2.2.2.2 = 0 then (if acc.length < 4398046511104 then (if 0 ≤ b.2.2.2.1 then (if b.2.2.2.1 ≤ (s.size : Int) then (thresherref3_All.l0 k (s.extract (b.2.2.2.1 : Int).toNat s.size) (acc ++ [(⟨(⟨b.1, b.2.1⟩ : S30), b.2.2.1⟩ : S32)])) else (none)) else (none)) else (none)) else (some (([] : List (S32)), b.2.2.2.2)))) (refrec_take_ev s (by omega)) ?_
          simp only [recall]
          rw [if_neg h0, if_neg h1]
          by_cases h2 : (rectake s).2.2.2.2 = 0
          · obtain ⟨g1, g2⟩ := rectake_in h2
            rw [if_pos h2]
            refine evPos h2 (evPos (by omega) (evPos (by omega) (evPos g2 ?_)))
            refine ih _ _ ?_ (by simp; omega) (by simp; omega)
            have := ext_size (s := s) (n := (rectake s).2.2.2.1) (by omega) g2
            omega
          · rw [if_neg h2]
            exact evNeg h2 (Ev.now _)
theorem all_ev (s : ByteArray) : Ev (fun k => rec_All.f k s) (allrecs s) := by
  unfold rec_All.f allrecs
  by_cases h : 8192 < s.size
  · rw [if_pos h]
    exact evPos (by omega) (Ev.now _)
  · rw [if_neg h]
    exact evNeg (by omega) (recall_ev 66 s [] (by omega) rfl (by simp))
theorem refall_ev (s : ByteArray) : Ev (fun k => thresherref3_All.f k s) (allrecs s) := by
  unfold thresherref3_All.f allrecs
  by_cases h : 8192 < s.size
  · rw [if_pos h]
    exact evPos (by omega) (Ev.now _)
  · rw [if_neg h]
    exact evNeg (by omega) (refrecall_ev 66 s [] (by omega) rfl (by simp))

end Go.Proofs.Ytgchbhepnfnhpaa.QSplit
