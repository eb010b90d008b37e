/- The law NumBytes, in plain numbers: the bytes of any number, and which one any bytes begin with, are the page's, or the error is. -/
import Derived.Test.YtnjdehldlcmojaaPrNumBytes
import Derived.Test.YtnjdehldlcmojaaGlNumBytes
import Derived.Test.YtnjdehldlcmojaaRfNumBytes
namespace Go.Proofs.Ytnjdehldlcmojaa.QNumBytes.Pure
open Go.RowKit Go.Proofs.Ytnjdehldlcmojaa Go.Proofs.YtnjdehldlcmojaaW.PrintWords Go.Proofs.YtnjdehldlcmojaaW.PrintLast Go.Proofs.YtnjdehldlcmojaaW.PrintMore Go.Proofs.Ytnjdehldlcmojaa.Math Go.Proofs.Ytnjdehldlcmojaa.QNumBytes
set_option linter.unusedVariables false
set_option linter.unusedSimpArgs false

theorem good_rd {l : List S25} (h : ∀ y ∈ l, Good25 y) {i : Int} (h0 : 0 ≤ i) (h1 : i < l.length) : Good25 (rd_T25 l i) := by
  unfold rd_T25
  have hl : i.toNat < l.length := by omega
  rw [List.getD_eq_getElem?_getD, List.getElem?_eq_getElem hl]
  exact h _ (List.getElem_mem hl)

theorem bytes_l0 (l : List S25) (hl : ∀ y ∈ l, Good25 y) : ∀ (d : Nat) (i : Int), 0 ≤ i → i ≤ 15 → 15 - i ≤ d → Ev (fun k => thresherlaw1_NumBytes.l0 k l i) true := by
  have hend : ∀ i, Ev (fun k => thresherlaw1_NumBytes.j1 k l i false) true := by
    intro i
    refine Ev.step (f := fun k => (thresherlaw1_wakes.f k).bind fun t => some t) (fun k => ?_) ?_
    · simp only [thresherlaw1_NumBytes.j1]
      rw [if_neg (by decide)]
    · exact Ev.bind (f := fun _ t => some t) wakes_ev (Ev.now _)
  intro d
  induction d with
  | zero =>
    intro i h0 h1 hd
    refine Ev.step (f := fun k => thresherlaw1_NumBytes.j1 k l i false) (fun k => ?_) (hend i)
    simp only [thresherlaw1_NumBytes.l0]
    rw [show decide (i < 15) = false by simp; omega]
    split <;> rfl
  | succ d ih =>
    intro i h0 h1 hd
    by_cases hc : i < l.length ∧ i < 15
    · refine Ev.step (f := fun k => thresherlaw1_NumBytes.j1 k l i true) (fun k => ?_) ?_
      · simp only [thresherlaw1_NumBytes.l0]
        rw [if_pos hc.1, show decide (i < 15) = true by simp; omega]
      · obtain ⟨hg, _⟩ := good_rd hl h0 hc.1
        have hx := wf_i64 hg
        generalize hX : (rd_T25 l i).f3 = X
        generalize hN : (rd_T25 l i).f0 = n at *
        have next : Ev (fun k => thresherlaw1_NumBytes.l0 k l (wrap64 (i + 1))) true := by
          rw [w64 (by omega) (by omega)]
          exact ih (i + 1) (by omega) (by omega) (by omega)
        by_cases hv : X.size ≤ 3000
        · refine Ev.step (f := fun k => (thresherlaw1_num1.f k X).bind fun a => (thresherref1_Take.f k X).bind fun b => (num_Bytes.f k n).bind fun s => (thresherref1_Bytes.f k n).bind fun t =>
            if s.toList = t.toList then (if a.1 = b.1 then (if a.2.1 = b.2.1 then (if a.2.2 = b.2.2 then thresherlaw1_NumBytes.l0 k l (wrap64 (i + 1)) else some false) else some false) else some false) else some false) (fun k => ?_) ?_
          · simp only [thresherlaw1_NumBytes.j1, if_true, thresherlaw1_heavy.f]
            rw [if_pos h0, if_pos hc.1, hX, hN]
            simp only [Option.bind_some]
            rw [if_neg (by simp; omega)]
          · refine Ev.bind (f := fun k (a : Int × Int × Int) => (thresherref1_Take.f k X).bind fun b => (num_Bytes.f k n).bind fun s => (thresherref1_Bytes.f k n).bind fun t =>
              if s.toList = t.toList then (if a.1 = b.1 then (if a.2.1 = b.2.1 then (if a.2.2 = b.2.2 then thresherlaw1_NumBytes.l0 k l (wrap64 (i + 1)) else some false) else some false) else some false) else some false) (num1_ev X) ?_
            refine Ev.bind (f := fun k (b : Int × Int × Int) => (num_Bytes.f k n).bind fun s => (thresherref1_Bytes.f k n).bind fun t =>
              if s.toList = t.toList then (if (took X).1 = b.1 then (if (took X).2.1 = b.2.1 then (if (took X).2.2 = b.2.2 then thresherlaw1_NumBytes.l0 k l (wrap64 (i + 1)) else some false) else some false) else some false) else some false) (reftake_ev X) ?_
            refine Ev.bind (f := fun k (s : ByteArray) => (thresherref1_Bytes.f k n).bind fun t =>
              if s.toList = t.toList then (if (took X).1 = (took X).1 then (if (took X).2.1 = (took X).2.1 then (if (took X).2.2 = (took X).2.2 then thresherlaw1_NumBytes.l0 k l (wrap64 (i + 1)) else some false) else some false) else some false) else some false) (bytes_ev hx.1 hx.2) ?_
            refine Ev.bind (f := fun k (t : ByteArray) =>
              if (strOfNums (nbytes n)).toList = t.toList then (if (took X).1 = (took X).1 then (if (took X).2.1 = (took X).2.1 then (if (took X).2.2 = (took X).2.2 then thresherlaw1_NumBytes.l0 k l (wrap64 (i + 1)) else some false) else some false) else some false) else some false) (refbytes_ev hx.1 hx.2) ?_
            simp only [if_true]
            exact next
        · refine Ev.step (f := fun k => some true) (fun k => ?_) (Ev.now _)
          simp only [thresherlaw1_NumBytes.j1, if_true, thresherlaw1_heavy.f]
          rw [if_pos h0, if_pos hc.1, hX]
          simp only [Option.bind_some]
          rw [if_pos (by simp; omega)]
    · refine Ev.step (f := fun k => thresherlaw1_NumBytes.j1 k l i false) (fun k => ?_) (hend i)
      simp only [thresherlaw1_NumBytes.l0]
      by_cases h : i < (l.length : Int)
      · rw [if_pos h, show decide (i < 15) = false by simp; omega]
      · rw [if_neg h]

theorem NumBytes : NumBytesPure := by
  intro l hl
  exact (bytes_l0 l hl.2.2 15 0 (by omega) (by omega) (by omega)).rounds
end Go.Proofs.Ytnjdehldlcmojaa.QNumBytes.Pure
