/- The law RecBack, in plain Lean: a text of records is those records; one more record than may be is refused. -/
import Derived.Test.YtgchbhepnfnhpaaPrRecBack
import Derived.Test.YtgchbhepnfnhpaaRlRec
namespace Go.Proofs.Ytgchbhepnfnhpaa.QRec.Pure
open Go.RowKit Go.Proofs.Ytgchbhepnfnhpaa Go.Proofs.YtgchbhepnfnhpaaW.PrintWords Go.Proofs.YtgchbhepnfnhpaaW.PrintLast Go.Proofs.YtgchbhepnfnhpaaW.PrintMore Go.Proofs.Ytgchbhepnfnhpaa.Math Go.Proofs.Ytgchbhepnfnhpaa.QRec
set_option linter.unusedVariables false
set_option linter.unusedSimpArgs false

def plain (j : Nat) : S32 := ⟨⟨0, nobytes⟩, (j : Int)⟩
def many (i : Nat) : List S32 := (List.range i).map plain
theorem many_succ (i : Nat) : many (i + 1) = many i ++ [plain i] := by
  unfold many
  rw [List.range_succ, List.map_append]
  rfl
theorem many_length (i : Nat) : (many i).length = i := by simp [many]
theorem plain_good {j : Nat} (h : j ≤ 100) : Good32 (plain j) := by
  refine ⟨⟨rfl, by show (0 : Nat) ≤ _; omega⟩, ?_⟩
  show (Lit.int .i64 (j : Int)).wf = true
  simp [Lit.wf, IntKind.min, IntKind.max, IntKind.bits, IntKind.signed]
  omega
theorem many_good {i : Nat} (h : i ≤ 100) : ∀ y ∈ many i, Good32 y := by
  intro y hy
  obtain ⟨j, hj, rfl⟩ := List.mem_map.1 hy
  have := List.mem_range.1 hj
  exact plain_good (by omega)
theorem text_many : ∀ (l : List S32) (acc : ByteArray), (∀ y ∈ l, Good32 y) → (∀ y ∈ l, y.f0.f1 = nobytes) → acc.size + 30 * l.length ≤ 8192 → (text l acc).2 = 0
  | [], acc, hg, hn, h => by
    simp only [text]
    rw [if_neg (by simp at h; omega)]
  | r :: rs, acc, hg, hn, h => by
    have e := hn r List.mem_cons_self
    have e' : r.f0.f1.size = 0 := by rw [e]; rfl
    have hs := (rb_size (hg r List.mem_cons_self)).1
    simp only [List.length_cons] at h
    simp only [text]
    rw [if_pos (by omega)]
    exact text_many rs _ (fun y hy => hg y (List.mem_cons_of_mem _ hy)) (fun y hy => hn y (List.mem_cons_of_mem _ hy)) (by rw [ByteArray.size_append]; omega)
theorem textof_many {i : Nat} (h : i ≤ 64) : (textof (many i)).2 = 0 := by
  unfold textof
  rw [if_neg (by rw [many_length]; omega)]
  refine text_many _ _ (many_good (by omega)) (fun y hy => ?_) (by rw [many_length]; show 0 + 30 * i ≤ 8192; omega)
  obtain ⟨j, _, rfl⟩ := List.mem_map.1 hy
  rfl
theorem textof_too : (textof (many 65)).2 = 2 := by
  unfold textof
  rw [if_pos (by rw [many_length]; omega)]

theorem back_l0 : ∀ (d i : Nat), i + d = 65 → Ev (fun k => thresherlaw4_RecBack.l0 k (many i) (i : Int)) true := by
  intro d
  induction d with
  | zero =>
    intro i hd
    obtain rfl : i = 65 := by omega
    refine Ev.step (f := fun k => (rec_Text.f k (many 65)).bind fun a => (if a.2 = 2 then ((thresherlaw4_wakes.f k).bind fun t => (some t)) else (some false))) (fun k => ?_) ?_
    · simp only [thresherlaw4_RecBack.l0, thresherlaw4_num.f, Option.bind_some]
      rw [if_neg (by omega)]
    · refine Ev.bind (f := fun k (a : ByteArray × Int) => (if a.2 = 2 then ((thresherlaw4_wakes.f k).bind fun t => (some t)) else (some false))) (text_ev _ (many_good (by omega))) ?_
      exact evPos textof_too (Ev.bind (f := fun _ t => some t) wakes_ev (Ev.now _))
  | succ d ih =>
    intro i hd
    refine Ev.step (f := fun k => (rec_Text.f k (many i)).bind fun a => ((rec_All.f k a.1).bind fun b => (if a.2 = 0 then (if b.2 = 0 then (if (b.1.length : Int) = i then (thresherlaw4_RecBack.l0 k (many i ++ [plain i]) (wrap64 ((i : Int) + 1))) else (some false)) else (some false)) else (some false)))) (fun k => ?_) ?_
    · simp only [thresherlaw4_RecBack.l0, thresherlaw4_num.f, Option.bind_some]
      rw [if_pos (by omega), if_pos (by rw [many_length]; omega)]
      rfl
    · refine Ev.bind (f := fun k (a : ByteArray × Int) => ((rec_All.f k a.1).bind fun b => (if a.2 = 0 then (if b.2 = 0 then (if (b.1.length : Int) = i then (thresherlaw4_RecBack.l0 k (many i ++ [plain i]) (wrap64 ((i : Int) + 1))) else (some false)) else (some false)) else (some false)))) (text_ev _ (many_good (by omega))) ?_
      have ht := textof_many (i := i) (by omega)
      refine Ev.bind (f := fun k (b : List S32 × Int) => (if (textof (many i)).2 = 0 then (if b.2 = 0 then (if (b.1.length : Int) = i then (thresherlaw4_RecBack.l0 k (many i ++ [plain i]) (wrap64 ((i : Int) + 1))) else (some false)) else (some false)) else (some false))) (all_ev _) ?_
      rw [all_text (many_good (by omega)) ht]
      refine evPos ht (evPos rfl (evPos (by rw [many_length]) ?_))
      rw [w64 (by omega) (by omega), ← many_succ]
      exact ih (i + 1) (by omega)
theorem back_j0 : Ev (fun k => thresherlaw4_RecBack.j0 k) true := by
  refine Ev.step (f := fun k => thresherlaw4_RecBack.l0 k (many 0) ((0 : Nat) : Int)) (fun k => ?_) (back_l0 65 0 (by omega))
  simp only [thresherlaw4_RecBack.j0]
  rfl

theorem RecBack : RecBackPure := by
  intro l x hl hx
  have hlen : l.length ≤ 4398046510976 := by have := hl.2.1; omega
  obtain ⟨b, hb, hb'⟩ := heavy_ev l hl.2.2 hlen x
  refine Ev.rounds (g := fun k => thresherlaw4_RecBack.f k l x) ?_
  unfold thresherlaw4_RecBack.f
  refine Ev.bind (f := fun k (t : Bool) => (if t = true then (some true) else ((rec_Text.f k l).bind fun a => ((thresherlaw4_num.f a.2).bind fun e => (if e = 0 then ((rec_All.f k a.1).bind fun b => ((thresherlaw4_num.f b.2).bind fun g => (if g = 0 then ((thresherref0_EqRecs.f k b.1 l).bind fun z => (if z = true then (thresherlaw4_RecBack.j0 k) else (some false))) else (some false)))) else (thresherlaw4_RecBack.j0 k)))))) hb ?_
  cases b with
  | true => exact evPos rfl (Ev.now _)
  | false =>
    refine evNeg (by decide) ?_
    refine Ev.bind (f := fun k (a : ByteArray × Int) => ((thresherlaw4_num.f a.2).bind fun e => (if e = 0 then ((rec_All.f k a.1).bind fun b => ((thresherlaw4_num.f b.2).bind fun g => (if g = 0 then ((thresherref0_EqRecs.f k b.1 l).bind fun z => (if z = true then (thresherlaw4_RecBack.j0 k) else (some false))) else (some false)))) else (thresherlaw4_RecBack.j0 k)))) (text_ev l hl.2.2) ?_
    simp only [thresherlaw4_num.f, Option.bind_some]
    by_cases ht : (textof l).2 = 0
    · refine evPos ht ?_
      refine Ev.bind (f := fun k (b : List S32 × Int) => (if b.2 = 0 then ((thresherref0_EqRecs.f k b.1 l).bind fun z => (if z = true then (thresherlaw4_RecBack.j0 k) else (some false))) else (some false))) (all_ev _) ?_
      rw [all_text hl.2.2 ht]
      refine evPos rfl ?_
      refine Ev.bind (f := fun k (z : Bool) => (if z = true then (thresherlaw4_RecBack.j0 k) else (some false))) (eqrecs_ev l (by omega)) ?_
      exact evPos rfl back_j0
    · exact evNeg ht back_j0
end Go.Proofs.Ytgchbhepnfnhpaa.QRec.Pure
