/- The law RecBytes, in plain Lean: the bytes of any record, and which one any bytes begin with, are the page's, or the error is. -/
import Derived.Test.YtgchbhepnfnhpaaPrRecBytes
import Derived.Test.YtgchbhepnfnhpaaRlRec
namespace Go.Proofs.Ytgchbhepnfnhpaa.QRec.Pure
open Go.RowKit Go.Proofs.Ytgchbhepnfnhpaa Go.Proofs.YtgchbhepnfnhpaaW.PrintWords Go.Proofs.YtgchbhepnfnhpaaW.PrintLast Go.Proofs.YtgchbhepnfnhpaaW.PrintMore Go.Proofs.Ytgchbhepnfnhpaa.Math Go.Proofs.Ytgchbhepnfnhpaa.QRec
set_option linter.unusedVariables false
set_option linter.unusedSimpArgs false

theorem bytes_end (l : List S32) (x : ByteArray) (hx : x.size ≤ 20000) (i : Int) : Ev (fun k => thresherlaw4_RecBytes.j1 k i false l x) true := by
  refine Ev.step (f := fun k => (rec_Take.f k x).bind fun a => ((thresherref3_TakeRec.f k x).bind fun b => (if ((a.1 == b.1 && (a.2.1.toList == b.2.1.toList)) && (a.2.2.1 == b.2.2.1)) = true then (if a.2.2.2.1 = b.2.2.2.1 then (if a.2.2.2.2 = b.2.2.2.2 then ((thresherlaw4_wakes.f k).bind fun t => (some t)) else (some false)) else (some false)) else (some false)))) (fun k => ?_) ?_
  · simp only [thresherlaw4_RecBytes.j1, thresherlaw4_num.f, Option.bind_some]
    rw [if_neg (by decide)]
  · refine Ev.bind (f := fun k (a : Int × ByteArray × Int × Int × Int) => ((thresherref3_TakeRec.f k x).bind fun b => (if ((a.1 == b.1 && (a.2.1.toList == b.2.1.toList)) && (a.2.2.1 == b.2.2.1)) = true then (if a.2.2.2.1 = b.2.2.2.1 then (if a.2.2.2.2 = b.2.2.2.2 then ((thresherlaw4_wakes.f k).bind fun t => (some t)) else (some false)) else (some false)) else (some false)))) (rec_take_ev x (by omega)) ?_
    refine Ev.bind (f := fun k (b : Int × ByteArray × Int × Int × Int) => (if (((rectake x).1 == b.1 && ((rectake x).2.1.toList == b.2.1.toList)) && ((rectake x).2.2.1 == b.2.2.1)) = true then (if (rectake x).2.2.2.1 = b.2.2.2.1 then (if (rectake x).2.2.2.2 = b.2.2.2.2 then ((thresherlaw4_wakes.f k).bind fun t => (some t)) else (some false)) else (some false)) else (some false))) (refrec_take_ev x (by omega)) ?_
    refine evPos (by simp) (evPos rfl (evPos rfl ?_))
    exact Ev.bind (f := fun _ t => some t) wakes_ev (Ev.now _)

theorem bytes_l0 (l : List S32) (hl : ∀ y ∈ l, Good32 y) (x : ByteArray) (hx : x.size ≤ 20000) : ∀ (d : Nat) (i : Int), 0 ≤ i → i ≤ 15 → 15 - i ≤ d → Ev (fun k => thresherlaw4_RecBytes.l0 k i l x) true := by
  intro d
  induction d with
  | zero =>
    intro i h0 h1 hd
    refine Ev.step (f := fun k => thresherlaw4_RecBytes.j1 k i false l x) (fun k => ?_) (bytes_end l x hx i)
    simp only [thresherlaw4_RecBytes.l0]
    rw [show decide (i < 15) = false by simp; omega]
    split <;> rfl
  | succ d ih =>
    intro i h0 h1 hd
    by_cases hc : i < l.length ∧ i < 15
    · refine Ev.step (f := fun k => thresherlaw4_RecBytes.j1 k i true l x) (fun k => ?_) ?_
      · simp only [thresherlaw4_RecBytes.l0]
        rw [if_pos hc.1, show decide (i < 15) = true by simp; omega]
      · have next : Ev (fun k => thresherlaw4_RecBytes.l0 k (wrap64 (i + 1)) l x) true := by
          rw [w64 (by omega) (by omega)]
          exact ih (i + 1) (by omega) (by omega) (by omega)
        have hg := good_rd hl h0 hc.1
        obtain ⟨⟨a0, a1⟩, hb, v0, v1⟩ := good_i hg
        generalize hr : rd_T32 l i = r at *
        by_cases h : r.f0.f1.size ≤ 64
        · have hs := (rb_size hg).1
          refine Ev.step (f := fun k => (rec_Bytes.f k r.f0.f0 r.f0.f1 r.f1).bind fun a => (thresherref3_Rec.f k r.f0.f0 r.f0.f1 r.f1).bind fun b => thresherlaw4_RecBytes.j2 k i a.1 a.2 0 b l x) (fun k => ?_) ?_
          · simp only [thresherlaw4_RecBytes.j1, if_true, thresherref3_Key.f, Option.bind_some]
            rw [if_pos h0, if_pos hc.1, hr]
            congr 1
            funext a
            rw [if_pos (by simp; omega)]
          · refine Ev.bind (f := fun k (a : ByteArray × Int) => (thresherref3_Rec.f k r.f0.f0 r.f0.f1 r.f1).bind fun b => thresherlaw4_RecBytes.j2 k i a.1 a.2 0 b l x) (rec_bytes_ev a0 a1 v0 v1 hb) ?_
            simp only [if_pos h]
            refine Ev.bind (f := fun k b => thresherlaw4_RecBytes.j2 k i (recbytes r.f0.f0 r.f0.f1 r.f1) 0 0 b l x) (refrec_ev a0 a1 v0 v1 hb) ?_
            refine Ev.step (f := fun k => thresherlaw4_RecBytes.j3 k i (rb r) 0 false l x) (fun k => ?_) ?_
            · simp only [thresherlaw4_RecBytes.j2, thresherlaw4_num.f, Option.bind_some, if_true, bne_self_eq_false]
              rfl
            · refine Ev.step (f := fun k => (rec_Take.f k (rb r ++ x)).bind fun b => (if b.2.2.2.2 = 0 then (if ((!(b.1 == r.f0.f0) || (!(b.2.1.toList == (r.f0.f1).toList))) || (!(b.2.2.1 == r.f1))) = true then (some false) else (if b.2.2.2.1 = ((rb r).size : Int) then (thresherlaw4_RecBytes.l0 k (wrap64 (i + 1)) l x) else (some false))) else (some false))) (fun k => ?_) ?_
              · simp only [thresherlaw4_RecBytes.j3, thresherlaw4_num.f, Option.bind_some]
                rw [if_neg (by decide), if_pos (by omega)]
                simp only [if_true, if_pos h0, if_pos hc.1, hr]
              · refine Ev.bind (f := fun k (b : Int × ByteArray × Int × Int × Int) => (if b.2.2.2.2 = 0 then (if ((!(b.1 == r.f0.f0) || (!(b.2.1.toList == (r.f0.f1).toList))) || (!(b.2.2.1 == r.f1))) = true then (some false) else (if b.2.2.2.1 = ((rb r).size : Int) then (thresherlaw4_RecBytes.l0 k (wrap64 (i + 1)) l x) else (some false))) else (some false))) (rec_take_ev (rb r ++ x) (by rw [ByteArray.size_append]; omega)) ?_
                have ht : rectake (rb r ++ x) = (r.f0.f0, r.f0.f1, r.f1, ((rb r).size : Int), 0) := rectake_bytes a0 a1 v0 v1 h x
                rw [ht]
                exact evPos rfl (evNeg (by simp) (evPos rfl next))
        · refine Ev.step (f := fun k => (rec_Bytes.f k r.f0.f0 r.f0.f1 r.f1).bind fun a => thresherlaw4_RecBytes.j2 k i a.1 a.2 1 nobytes l x) (fun k => ?_) ?_
          · simp only [thresherlaw4_RecBytes.j1, if_true, thresherref3_Key.f, Option.bind_some]
            rw [if_pos h0, if_pos hc.1, hr]
            congr 1
            funext a
            rw [if_neg (by simp; omega)]
          · refine Ev.bind (f := fun k (a : ByteArray × Int) => thresherlaw4_RecBytes.j2 k i a.1 a.2 1 nobytes l x) (rec_bytes_ev a0 a1 v0 v1 hb) ?_
            simp only [if_neg h]
            refine Ev.step (f := fun k => thresherlaw4_RecBytes.j3 k i nobytes 1 false l x) (fun k => ?_) ?_
            · simp only [thresherlaw4_RecBytes.j2, thresherlaw4_num.f, Option.bind_some, if_true, bne_self_eq_false]
            · refine Ev.step (f := fun k => (rec_Take.f k (nobytes ++ x)).bind fun b => (thresherlaw4_RecBytes.l0 k (wrap64 (i + 1)) l x)) (fun k => ?_) ?_
              · simp only [thresherlaw4_RecBytes.j3]
                rw [if_neg (by decide), if_pos (by show 0 + x.size ≤ _; omega)]
                congr 1
              · exact Ev.bind (f := fun k (b : Int × ByteArray × Int × Int × Int) => (thresherlaw4_RecBytes.l0 k (wrap64 (i + 1)) l x)) (rec_take_ev (nobytes ++ x) (by rw [ByteArray.size_append]; show 0 + x.size ≤ _; omega)) next
    · refine Ev.step (f := fun k => thresherlaw4_RecBytes.j1 k i false l x) (fun k => ?_) (bytes_end l x hx i)
      simp only [thresherlaw4_RecBytes.l0]
      by_cases h : i < (l.length : Int)
      · rw [if_pos h, show decide (i < 15) = false by simp; omega]
      · rw [if_neg h]

theorem RecBytes : RecBytesPure := by
  intro l x hl hx
  have hlen : l.length ≤ 4398046510976 := by have := hl.2.1; omega
  obtain ⟨b, hb, hb'⟩ := heavy_ev l hl.2.2 hlen x
  refine Ev.rounds (g := fun k => thresherlaw4_RecBytes.f k l x) ?_
  unfold thresherlaw4_RecBytes.f
  refine Ev.bind (f := fun k (t : Bool) => (if t = true then (some true) else (thresherlaw4_RecBytes.l0 k 0 l x))) hb ?_
  cases b with
  | true => exact evPos rfl (Ev.now _)
  | false =>
    refine evNeg (by decide) ?_
    exact bytes_l0 l hl.2.2 x (hb' rfl) 15 0 (by omega) (by omega) (by omega)
end Go.Proofs.Ytgchbhepnfnhpaa.QRec.Pure
