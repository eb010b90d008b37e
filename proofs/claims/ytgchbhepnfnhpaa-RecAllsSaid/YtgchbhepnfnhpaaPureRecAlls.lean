/- The law RecAlls, in plain Lean: which records any bytes are, and the bytes of any records, are the page's, or the error is. -/
import Derived.Test.YtgchbhepnfnhpaaPrRecAlls
import Derived.Test.YtgchbhepnfnhpaaRlRec
namespace Go.Proofs.Ytgchbhepnfnhpaa.QRec.Pure
open Go.RowKit Go.Proofs.Ytgchbhepnfnhpaa Go.Proofs.YtgchbhepnfnhpaaW.PrintWords Go.Proofs.YtgchbhepnfnhpaaW.PrintLast Go.Proofs.YtgchbhepnfnhpaaW.PrintMore Go.Proofs.Ytgchbhepnfnhpaa.Math Go.Proofs.Ytgchbhepnfnhpaa.QRec
set_option linter.unusedVariables false
set_option linter.unusedSimpArgs false

theorem alls_l0 (all : List ByteArray) (h4 : all.length = 4) : ∀ (d : Nat) (i : Int), 0 ≤ i → i ≤ 4 → 4 - i = d → Ev (fun k => thresherlaw4_RecAlls.l0 k all i) true := by
  intro d
  induction d with
  | zero =>
    intro i h0 h1 hd
    refine Ev.step (f := fun k => (thresherlaw4_wakes.f k).bind fun t => some t) (fun k => ?_) (Ev.bind (f := fun _ t => some t) wakes_ev (Ev.now _))
    simp only [thresherlaw4_RecAlls.l0]
    rw [if_neg (by omega)]
  | succ d ih =>
    intro i h0 h1 hd
    generalize hs : rdOf ByteArray.empty all i = s
    refine Ev.step (f := fun k => (rec_All.f k s).bind fun a => (thresherref3_All.f k s).bind fun b => (if a.2 = b.2 then ((thresherref0_EqRecs.f k a.1 b.1).bind fun t => (if t = true then ((thresherlaw0_Recs.f k a.1).bind fun _ => (thresherlaw4_RecAlls.l0 k all (wrap64 (i + 1)))) else (some false))) else (some false))) (fun k => ?_) ?_
    · simp only [thresherlaw4_RecAlls.l0, thresherlaw4_num.f, Option.bind_some]
      rw [if_pos (by omega), if_pos h0, hs]
    · refine Ev.bind (f := fun k (a : List S32 × Int) => (thresherref3_All.f k s).bind fun b => (if a.2 = b.2 then ((thresherref0_EqRecs.f k a.1 b.1).bind fun t => (if t = true then ((thresherlaw0_Recs.f k a.1).bind fun _ => (thresherlaw4_RecAlls.l0 k all (wrap64 (i + 1)))) else (some false))) else (some false))) (all_ev s) ?_
      refine Ev.bind (f := fun k (b : List S32 × Int) => (if (allrecs s).2 = b.2 then ((thresherref0_EqRecs.f k (allrecs s).1 b.1).bind fun t => (if t = true then ((thresherlaw0_Recs.f k (allrecs s).1).bind fun _ => (thresherlaw4_RecAlls.l0 k all (wrap64 (i + 1)))) else (some false))) else (some false))) (refall_ev s) ?_
      refine evPos rfl ?_
      have hlen : (allrecs s).1.length ≤ 9223372036854775806 := by
        have := allrecs_length s
        omega
      refine Ev.bind (f := fun k (t : Bool) => (if t = true then ((thresherlaw0_Recs.f k (allrecs s).1).bind fun _ => (thresherlaw4_RecAlls.l0 k all (wrap64 (i + 1)))) else (some false))) (eqrecs_ev _ hlen) ?_
      refine evPos rfl ?_
      obtain ⟨r, hr⟩ := spoil_ev (allrecs s).1 hlen
      refine Ev.bind (f := fun k _ => (thresherlaw4_RecAlls.l0 k all (wrap64 (i + 1)))) hr ?_
      rw [w64 (by omega) (by omega)]
      exact ih (i + 1) (by omega) (by omega) (by omega)

theorem RecAlls : RecAllsPure := by
  intro l x hl hx
  have hlen : l.length ≤ 4398046510976 := by have := hl.2.1; omega
  obtain ⟨b, hb, hb'⟩ := heavy_ev l hl.2.2 hlen x
  refine Ev.rounds (g := fun k => thresherlaw4_RecAlls.f k l x) ?_
  unfold thresherlaw4_RecAlls.f
  refine Ev.bind (f := fun k (t : Bool) => (if t = true then (some true) else ((thresherref0_CopyRecs.f k l).bind fun c => ((rec_Text.f k c).bind fun a => ((thresherref3_Text.f k l).bind fun b => ((thresherlaw4_num.f a.2).bind fun e => (if e = b.2 then (thresherlaw4_RecAlls.j0 k b.1 (a.1.toList != b.1.toList) l x) else (thresherlaw4_RecAlls.j0 k b.1 true l x)))))))) hb ?_
  cases b with
  | true => exact evPos rfl (Ev.now _)
  | false =>
    have hx2 := hb' rfl
    refine evNeg (by decide) ?_
    refine Ev.bind (f := fun k (c : List S32) => ((rec_Text.f k c).bind fun a => ((thresherref3_Text.f k l).bind fun b => ((thresherlaw4_num.f a.2).bind fun e => (if e = b.2 then (thresherlaw4_RecAlls.j0 k b.1 (a.1.toList != b.1.toList) l x) else (thresherlaw4_RecAlls.j0 k b.1 true l x)))))) (copy_ev l hlen) ?_
    refine Ev.bind (f := fun k (a : ByteArray × Int) => ((thresherref3_Text.f k l).bind fun b => ((thresherlaw4_num.f a.2).bind fun e => (if e = b.2 then (thresherlaw4_RecAlls.j0 k b.1 (a.1.toList != b.1.toList) l x) else (thresherlaw4_RecAlls.j0 k b.1 true l x))))) (text_ev l hl.2.2) ?_
    refine Ev.bind (f := fun k (b : ByteArray × Int) => ((thresherlaw4_num.f (textof l).2).bind fun e => (if e = b.2 then (thresherlaw4_RecAlls.j0 k b.1 ((textof l).1.toList != b.1.toList) l x) else (thresherlaw4_RecAlls.j0 k b.1 true l x)))) (reftext_ev l hl.2.2) ?_
    simp only [thresherlaw4_num.f, Option.bind_some, if_true, bne_self_eq_false]
    have ht := textof_size l
    refine Ev.step (f := fun k => thresherlaw4_RecAlls.l0 k ([x, (textof l).1, (textof l).1 ++ x, x ++ x] : List ByteArray) 0) (fun k => ?_) (alls_l0 _ rfl 4 0 (by omega) (by omega) (by omega))
    simp only [thresherlaw4_RecAlls.j0]
    rw [if_neg (by decide), if_pos (by omega), if_pos (by omega)]
end Go.Proofs.Ytgchbhepnfnhpaa.QRec.Pure
