/- Configurations and their splits, in plain Lean: what the program's functions and the page's come to. -/
import Derived.Test.YtgchbhepnfnhpaaTyQSplit
import Derived.Test.YtgchbhepnfnhpaaRlSplit
import Derived.Test.YtgchbhepnfnhpaaQSplitx4
import Derived.Test.YtgchbhepnfnhpaaQSplitx8
namespace Go.Proofs.Ytgchbhepnfnhpaa.QSplit
open Go.RowKit Go.Proofs.Ytgchbhepnfnhpaa Go.Proofs.YtgchbhepnfnhpaaW.PrintWords Go.Proofs.YtgchbhepnfnhpaaW.PrintLast Go.Proofs.YtgchbhepnfnhpaaW.PrintMore Go.Proofs.Ytgchbhepnfnhpaa.Math
set_option linter.unusedVariables false
set_option linter.unusedSimpArgs false

theorem good61_rd {l : List S61} (h : ∀ y ∈ l, Good61 y) {i : Int} (h0 : 0 ≤ i) (h1 : i < l.length) : Good61 (rd_T61 l i) := by
 unfold rd_T61
 have hl : i.toNat < l.length := by omega
 rw [List.getD_eq_getElem?_getD, List.getElem?_eq_getElem hl]
 exact h _ (List.getElem_mem hl)
theorem drop61_rd {l : List S61} {i : Int} (h0 : 0 ≤ i) (h1 : i < l.length) : l.drop i.toNat = rd_T61 l i :: l.drop (i + 1).toNat := by
 have hl : i.toNat < l.length := by omega
 rw [List.drop_eq_getElem_cons hl, show (i + 1).toNat = i.toNat + 1 by omega]
 congr 1
 unfold rd_T61
 rw [List.getD_eq_getElem?_getD, List.getElem?_eq_getElem hl]
 rfl
theorem rd_ids {l : List S61} {i : Int} (h0 : 0 ≤ i) (h1 : i < l.length) : rd (l.map (·.f0)) i = (rd_T61 l i).f0 := by
 have hl : i.toNat < l.length := by omega
 unfold rd rd_T61
 rw [List.getD_eq_getElem?_getD, List.getD_eq_getElem?_getD, List.getElem?_map, List.getElem?_eq_getElem hl]
 rfl

/-! ### rising numbers -/
def risb (l : List Int) (lo hi : Int) : Nat → Int → Bool
 | 0, _ => true
 | d + 1, i => if rd l i < lo then false else if hi < rd l i then false else if 0 < i ∧ rd l (i - 1) ≥ rd l i then false else risb l lo hi d (i + 1)
def ris (l : List Int) (lo hi : Int) : Bool := risb l lo hi l.length 0
theorem rising_l0 (l : List Int) (hi : Int) (hlen : l.length ≤ 9223372036854775806) : ∀ (d : Nat) (i : Int), 0 ≤ i → i ≤ l.length → l.length - i = d → Ev (fun k => split_Rising.l0 k l hi l (l.length : Int) i) (risb l 1 hi d i) := by
 intro d
 induction d with
 | zero =>
  intro i h0 h1 hd
  refine Ev.step (f := fun _ => some true) (fun k => ?_) (Ev.now _)
  simp only [split_Rising.l0]
  rw [if_neg (by omega)]
 | succ d ih =>
  intro i h0 h1 hd
  have hn := ih (i + 1) (by omega) (by omega) (by omega)
  simp only [risb]
  by_cases c1 : rd l i < 1
  ·
   rw [if_pos c1]
   refine Ev.step (f := fun _ => some false) (fun k => ?_) (Ev.now _)
   simp only [split_Rising.l0]
   rw [if_pos (by omega), if_pos h0, if_pos (by omega), if_pos c1]
  ·
   rw [if_neg c1]
   by_cases c2 : hi < rd l i
   ·
    rw [if_pos c2]
    refine Ev.step (f := fun _ => some false) (fun k => ?_) (Ev.now _)
    simp only [split_Rising.l0]
    rw [if_pos (by omega), if_pos h0, if_pos (by omega), if_neg c1, if_pos c2]
   ·
    rw [if_neg c2]
    by_cases c3 : 0 < i ∧ rd l (i - 1) ≥ rd l i
    ·
     rw [if_pos c3]
     refine Ev.step (f := fun _ => some false) (fun k => ?_) (Ev.now _)
     simp only [split_Rising.l0]
     rw [if_pos (by omega), if_pos h0, if_pos (by omega), if_neg c1, if_neg (by omega), if_pos c3.1, w64 (n := i - 1) (by omega) (by omega), if_pos (by omega), if_pos (by omega), if_pos c3.2]
    ·
     rw [if_neg c3]
     refine Ev.step (f := fun k => split_Rising.l0 k l hi l (l.length : Int) (i + 1)) (fun k => ?_) hn
     simp only [split_Rising.l0]
     rw [if_pos (by omega), if_pos h0, if_pos (by omega), if_neg c1, if_neg (by omega), w64 (n := i + 1) (by omega) (by omega)]
     by_cases c4 : i > 0
     ·
      rw [if_pos c4, w64 (n := i - 1) (by omega) (by omega), if_pos (by omega), if_pos (by omega), if_neg (fun h => c3 ⟨c4, h⟩)]
     ·
      rw [if_neg c4]
theorem rising_ev (l : List Int) (hi : Int) (hlen : l.length ≤ 9223372036854775806) : Ev (fun k => split_Rising.f k l hi) (ris l 1 hi) :=
 Ev.congr (f := fun k => split_Rising.l0 k l hi l (l.length : Int) 0) (fun _ => rfl) (rising_l0 l hi hlen l.length 0 (by omega) (by omega) (by omega))
theorem refrising_l0 (l : List Int) (lo hi : Int) (hlen : l.length ≤ 9223372036854775806) : ∀ (d : Nat) (i : Int), 0 ≤ i → i ≤ l.length → l.length - i = d → Ev (fun k => thresherref0_Rising.l0 k l lo hi i) (risb l lo hi d i) := by
 intro d
 induction d with
 | zero =>
  intro i h0 h1 hd
  refine Ev.step (f := fun _ => some true) (fun k => ?_) (Ev.now _)
  simp only [thresherref0_Rising.l0]
  rw [if_neg (by omega)]
 | succ d ih =>
  intro i h0 h1 hd
  have hn := ih (i + 1) (by omega) (by omega) (by omega)
  simp only [risb]
  by_cases c1 : rd l i < lo
  ·
   rw [if_pos c1]
   refine Ev.step (f := fun _ => some false) (fun k => ?_) (Ev.now _)
   simp only [thresherref0_Rising.l0]
   rw [if_pos (by omega), if_pos h0, if_pos c1]
  ·
   rw [if_neg c1]
   by_cases c2 : hi < rd l i
   ·
    rw [if_pos c2]
    refine Ev.step (f := fun _ => some false) (fun k => ?_) (Ev.now _)
    simp only [thresherref0_Rising.l0]
    rw [if_pos (by omega), if_pos h0, if_neg c1, if_pos c2]
   ·
    rw [if_neg c2]
    by_cases c3 : 0 < i ∧ rd l (i - 1) ≥ rd l i
    ·
     rw [if_pos c3]
     refine Ev.step (f := fun _ => some false) (fun k => ?_) (Ev.now _)
     simp only [thresherref0_Rising.l0]
     rw [if_pos (by omega), if_pos h0, if_neg c1, if_neg (by omega), if_pos c3.1, w64 (n := i - 1) (by omega) (by omega), if_pos (by omega), if_pos (by omega), if_pos c3.2]
    ·
     rw [if_neg c3]
     refine Ev.step (f := fun k => thresherref0_Rising.l0 k l lo hi (i + 1)) (fun k => ?_) hn
     simp only [thresherref0_Rising.l0]
     rw [if_pos (by omega), if_pos h0, if_neg c1, if_neg (by omega), w64 (n := i + 1) (by omega) (by omega)]
     by_cases c4 : i > 0
     ·
      rw [if_pos c4, w64 (n := i - 1) (by omega) (by omega), if_pos (by omega), if_pos (by omega), if_neg (fun h => c3 ⟨c4, h⟩)]
     ·
      rw [if_neg c4]
theorem refrising_ev (l : List Int) (lo hi : Int) (hlen : l.length ≤ 9223372036854775806) : Ev (fun k => thresherref0_Rising.f k l lo hi) (ris l lo hi) :=
 Ev.congr (f := fun k => thresherref0_Rising.l0 k l lo hi 0) (fun _ => rfl) (refrising_l0 l lo hi hlen l.length 0 (by omega) (by omega) (by omega))

/-! ### a configuration -/
def mayb (sites : Int) (s : S61) : Bool := decide ((allrecs s.f1).2 = 0) && decide (0 < s.f2.length) && ris s.f2 1 sites
def hdb (sites : Int) (n : Nat) (again over : Int) : Bool := decide (1 ≤ sites ∧ sites ≤ 3 ∧ n ≤ 6 ∧ 1 ≤ again ∧ again ≤ 16 ∧ 16 ≤ over ∧ over ≤ 64 ∧ 2 * again ≤ over)
def cfgb (sites : Int) (l : List S61) (again over : Int) : Bool := hdb sites l.length again over && (l.all (mayb sites) && ris (l.map (·.f0)) 1 1048576)
theorem len61 {s : S61} (h : Good61 s) : s.f2.length ≤ 17592186044416 := by
 have := h.2.2.2.1
 omega
theorem may_ev (s : S61) (h : Good61 s) (sites : Int) : Ev (fun k => split_may.f k s.f0 s.f1 s.f2 sites) (mayb sites s) := by
 have hl := len61 h
 unfold split_may.f
 refine Ev.bind (f := fun k (a : List S32 × Int) => (if a.2 = 0 then (if (s.f2.length : Int) > 0 then ((split_Rising.f k s.f2 sites).bind fun t => (some t)) else (some false)) else (some false))) (all_ev s.f1) ?_
 unfold mayb
 by_cases h1 : (allrecs s.f1).2 = 0
 ·
  refine evPos h1 ?_
  by_cases h2 : (s.f2.length : Int) > 0
  ·
   refine evPos h2 ?_
   rw [show decide ((allrecs s.f1).2 = 0) = true by simpa using h1, show decide (0 < s.f2.length) = true from decide_eq_true (by omega), Bool.true_and, Bool.true_and]
   exact Ev.bind (f := fun _ t => some t) (rising_ev _ _ (by omega)) (Ev.now _)
  ·
   rw [show decide (0 < s.f2.length) = false from decide_eq_false (by omega), Bool.and_false, Bool.false_and]
   exact evNeg h2 (Ev.now _)
 ·
  rw [show decide ((allrecs s.f1).2 = 0) = false by simpa using h1, Bool.false_and, Bool.false_and]
  exact evNeg h1 (Ev.now _)

/-! ### the program's check -/
theorem check_l0 (l : List S61) (hl : ∀ y ∈ l, Good61 y) (h6 : l.length ≤ 6) (sites again over : Int) : ∀ (d : Nat) (i : Int), 0 ≤ i → i ≤ l.length → l.length - i = d →
  Ev (fun k => split_Check.l0 k ((l.take i.toNat).map (·.f0) ++ List.replicate d 0) l (l.length : Int) i sites l again over) (if ((l.drop i.toNat).all (mayb sites) && ris (l.map (·.f0)) 1 1048576) = true then 0 else 1) := by
 intro d
 induction d with
 | zero =>
  intro i h0 h1 hd
  have e : i.toNat = l.length := by omega
  rw [e, List.take_length, List.drop_length, List.replicate_zero, List.append_nil, List.all_nil, Bool.true_and]
  refine Ev.step (f := fun k => (split_Rising.f k (l.map (·.f0)) 1048576).bind fun t => (if t = true then (some 0) else (some 1))) (fun k => ?_) ?_
  ·
   simp only [split_Check.l0]
   rw [if_neg (by omega)]
  ·
   refine Ev.bind (f := fun k t => (if t = true then (some 0) else (some 1))) (rising_ev _ _ (by simp; omega)) ?_
   by_cases h : ris (l.map (·.f0)) 1 1048576 = true
   ·
    simp only [if_pos h]
    exact Ev.now _
   ·
    simp only [if_neg h]
    exact Ev.now _
 | succ d ih =>
  intro i h0 h1 hd
  have hi : i < l.length := by omega
  have hg := good61_rd hl h0 hi
  generalize hA : (l.take i.toNat).map (·.f0) ++ List.replicate (d + 1) 0 = A
  have hAl : A.length = l.length := by
   rw [← hA, List.length_append, List.length_map, List.length_take, List.length_replicate]
   omega
  have hset : A.set i.toNat (rd_T61 l i).f0 = (l.take (i + 1).toNat).map (·.f0) ++ List.replicate d 0 := by
   have ht : ((l.take i.toNat).map (·.f0)).length = i.toNat := by rw [List.length_map, List.length_take]; omega
   rw [← hA, List.replicate_succ, List.set_append_right _ _ (by omega), ht, Nat.sub_self, List.set_cons_zero, show (i + 1).toNat = i.toNat + 1 by omega, List.take_succ_eq_append_getElem (by omega), List.map_append, List.append_assoc]
   congr 1
   unfold rd_T61
   rw [List.getD_eq_getElem?_getD, List.getElem?_eq_getElem (show i.toNat < l.length by omega)]
   rfl
  rw [drop61_rd h0 hi, List.all_cons]
  refine Ev.step (f := fun k => (split_may.f k (rd_T61 l i).f0 (rd_T61 l i).f1 (rd_T61 l i).f2 sites).bind fun t => (if t = true then (split_Check.l0 k (A.set i.toNat (rd_T61 l i).f0) l (l.length : Int) (wrap64 (i + 1)) sites l again over) else (some 1))) (fun k => ?_) ?_
  ·
   simp only [split_Check.l0]
   rw [if_pos (by omega), if_pos h0, if_pos (by omega), if_pos (by omega)]
  ·
   refine Ev.bind (f := fun k t => (if t = true then (split_Check.l0 k (A.set i.toNat (rd_T61 l i).f0) l (l.length : Int) (wrap64 (i + 1)) sites l again over) else (some 1))) (may_ev _ hg sites) ?_
   cases hm : mayb sites (rd_T61 l i) with
   | true =>
    rw [hset, w64 (by omega) (by omega), Bool.true_and]
    exact evPos rfl (ih (i + 1) (by omega) (by omega) (by omega))
   | false =>
    rw [Bool.false_and, Bool.false_and]
    exact evNeg (by decide) (Ev.now _)
theorem check_ev (l : List S61) (hl : ∀ y ∈ l, Good61 y) (sites again over : Int) (hag : -9223372036854775808 ≤ again ∧ again ≤ 9223372036854775807) : Ev (fun k => split_Check.f k sites l again over) (if cfgb sites l again over = true then 0 else 1) := by
 have hno : Ev (fun k => split_Check.j1 k false sites l again over) 1 := by
  refine Ev.step (f := fun _ => some 1) (fun k => ?_) (Ev.now _)
  simp only [split_Check.j1]
  rw [if_neg (by decide)]
 have hno0 : Ev (fun k => split_Check.j0 k false sites l again over) 1 := by
  refine Ev.step (f := fun k => split_Check.j1 k false sites l again over) (fun k => ?_) hno
  simp only [split_Check.j0]
  rw [if_neg (by decide)]
 unfold split_Check.f cfgb
 by_cases hd : hdb sites l.length again over = true
 ·
  have hh : 1 ≤ sites ∧ sites ≤ 3 ∧ l.length ≤ 6 ∧ 1 ≤ again ∧ again ≤ 16 ∧ 16 ≤ over ∧ over ≤ 64 ∧ 2 * again ≤ over := by simpa [hdb] using hd
  rw [hd, Bool.true_and]
  refine evPos (by omega) (evPos (by omega) ?_)
  rw [show decide ((l.length : Int) ≤ 6) = true from decide_eq_true (by omega)]
  refine Ev.step (f := fun k => split_Check.j1 k true sites l again over) (fun k => ?_) ?_
  ·
   simp only [split_Check.j0, if_true]
   rw [if_pos (by omega), if_pos (by omega), if_pos (by omega), if_pos (by omega), w64 (by omega) (by omega), show decide (over ≥ 2 * again) = true from decide_eq_true (by omega)]
  ·
   refine Ev.step (f := fun k => split_Check.l0 k (List.replicate l.length 0) l (l.length : Int) 0 sites l again over) (fun k => ?_) ?_
   ·
    simp only [split_Check.j1, if_true]
    rw [if_pos (by omega), if_pos (by omega), Int.toNat_natCast]
   ·
    have := check_l0 l hl (by omega) sites again over l.length 0 (by omega) (by omega) (by omega)
    simpa using this
 ·
  rw [if_neg (by simp [hd])]
  have hh : ¬ (1 ≤ sites ∧ sites ≤ 3 ∧ l.length ≤ 6 ∧ 1 ≤ again ∧ again ≤ 16 ∧ 16 ≤ over ∧ over ≤ 64 ∧ 2 * again ≤ over) := by simpa [hdb] using hd
  by_cases c1 : sites ≥ 1
  ·
   by_cases c2 : sites ≤ 3
   ·
    refine evPos c1 (evPos c2 ?_)
    by_cases c3 : (l.length : Int) ≤ 6
    ·
     rw [show decide ((l.length : Int) ≤ 6) = true by simpa using c3]
     refine Ev.step (f := fun k => split_Check.j1 k false sites l again over) (fun k => ?_) hno
     simp only [split_Check.j0, if_true]
     by_cases c4 : again ≥ 1
     ·
      by_cases c5 : again ≤ 16
      ·
       by_cases c6 : over ≥ 16
       ·
        by_cases c7 : over ≤ 64
        ·
         rw [if_pos c4, if_pos c5, if_pos c6, if_pos c7, w64 (by omega) (by omega), show decide (over ≥ 2 * again) = false from decide_eq_false (by omega)]
        ·
         rw [if_pos c4, if_pos c5, if_pos c6, if_neg c7]
       ·
        rw [if_pos c4, if_pos c5, if_neg c6]
      ·
       rw [if_pos c4, if_neg c5]
     ·
      rw [if_neg c4]
    ·
     rw [show decide ((l.length : Int) ≤ 6) = false by simpa using c3]
     exact hno0
   ·
    exact evPos c1 (evNeg c2 hno0)
  ·
   exact evNeg c1 hno0

/-! ### the page's -/
def refb (l : List S61) (sites : Int) : Nat → Int → Bool
 | 0, _ => true
 | d + 1, i => decide (1 ≤ (rd_T61 l i).f0 ∧ (rd_T61 l i).f0 ≤ 1048576) && (!decide (0 < i ∧ (rd_T61 l (i - 1)).f0 ≥ (rd_T61 l i).f0) && (mayb sites (rd_T61 l i) && refb l sites d (i + 1)))
theorem refb_eq (l : List S61) (sites : Int) : ∀ (d : Nat) (i : Int), 0 ≤ i → i ≤ l.length → l.length - i = d → refb l sites d i = ((l.drop i.toNat).all (mayb sites) && risb (l.map (·.f0)) 1 1048576 d i) := by
 intro d
 induction d with
 | zero =>
  intro i h0 h1 hd
  rw [List.drop_eq_nil_of_le (by omega)]
  rfl
 | succ d ih =>
  intro i h0 h1 hd
  have hi : i < l.length := by omega
  rw [drop61_rd h0 hi, List.all_cons]
  simp only [refb, risb]
  rw [ih (i + 1) (by omega) (by omega) (by omega), rd_ids h0 hi]
  have hp : (0 < i ∧ rd (l.map (·.f0)) (i - 1) ≥ (rd_T61 l i).f0) ↔ (0 < i ∧ (rd_T61 l (i - 1)).f0 ≥ (rd_T61 l i).f0) := by
   constructor
   ·
    rintro ⟨a, b⟩
    rw [rd_ids (by omega) (by omega)] at b
    exact ⟨a, b⟩
   ·
    rintro ⟨a, b⟩
    rw [rd_ids (by omega) (by omega)]
    exact ⟨a, b⟩
  simp only [hp]
  by_cases c1 : (rd_T61 l i).f0 < 1
  ·
   rw [if_pos c1, show decide (1 ≤ (rd_T61 l i).f0 ∧ (rd_T61 l i).f0 ≤ 1048576) = false from decide_eq_false (by omega)]
   simp
  ·
   rw [if_neg c1]
   by_cases c2 : 1048576 < (rd_T61 l i).f0
   ·
    rw [if_pos c2, show decide (1 ≤ (rd_T61 l i).f0 ∧ (rd_T61 l i).f0 ≤ 1048576) = false from decide_eq_false (by omega)]
    simp
   ·
    rw [if_neg c2, show decide (1 ≤ (rd_T61 l i).f0 ∧ (rd_T61 l i).f0 ≤ 1048576) = true from decide_eq_true (by omega)]
    by_cases c3 : 0 < i ∧ (rd_T61 l (i - 1)).f0 ≥ (rd_T61 l i).f0
    ·
     rw [if_pos c3, decide_eq_true c3]
     simp
    ·
     rw [if_neg c3, decide_eq_false c3]
     simp [Bool.and_assoc]
theorem config_l0 (l : List S61) (hl : ∀ y ∈ l, Good61 y) (h6 : l.length ≤ 6) (sites again over : Int) : ∀ (d : Nat) (i : Int), 0 ≤ i → i ≤ l.length → l.length - i = d → Ev (fun k => thresherref11_Config.l0 k i sites l again over) (refb l sites d i) := by
 intro d
 induction d with
 | zero =>
  intro i h0 h1 hd
  refine Ev.step (f := fun _ => some true) (fun k => ?_) (Ev.now _)
  simp only [thresherref11_Config.l0]
  rw [if_neg (by omega)]
 | succ d ih =>
  intro i h0 h1 hd
  have hi : i < l.length := by omega
  have hg := good61_rd hl h0 hi
  have hn := ih (i + 1) (by omega) (by omega) (by omega)
  have hlen := len61 hg
  generalize hs : rd_T61 l i = s at *
  -- what stands behind the places of IDs
  have tail : Ev (fun k => if (allrecs s.f1).2 = 0 then (if (s.f2.length : Int) = 0 then (some false) else ((thresherref0_Rising.f k s.f2 1 sites).bind fun t => (if t = true then (thresherref11_Config.l0 k (wrap64 (i + 1)) sites l again over) else (some false)))) else (some false)) (mayb sites s && refb l sites d (i + 1)) := by
   unfold mayb
   by_cases c1 : (allrecs s.f1).2 = 0
   ·
    refine evPos c1 ?_
    rw [decide_eq_true c1, Bool.true_and]
    by_cases c2 : (s.f2.length : Int) = 0
    ·
     rw [show decide (0 < s.f2.length) = false from decide_eq_false (by omega), Bool.false_and, Bool.false_and]
     exact evPos c2 (Ev.now _)
    ·
     rw [show decide (0 < s.f2.length) = true from decide_eq_true (by omega), Bool.true_and]
     refine evNeg c2 ?_
     refine Ev.bind (f := fun k t => (if t = true then (thresherref11_Config.l0 k (wrap64 (i + 1)) sites l again over) else (some false))) (refrising_ev s.f2 1 sites (by omega)) ?_
     cases ris s.f2 1 sites with
     | true =>
      rw [w64 (by omega) (by omega), Bool.true_and]
      exact evPos rfl hn
     | false => exact evNeg (by decide) (Ev.now _)
   ·
    rw [decide_eq_false c1, Bool.false_and, Bool.false_and, Bool.false_and]
    exact evNeg c1 (Ev.now _)
  refine Ev.step (f := fun k => (thresherref3_All.f k s.f1).bind fun a => (if (decide (1 ≤ s.f0 ∧ s.f0 ≤ 1048576)) = true then (if (decide (0 < i ∧ (rd_T61 l (i - 1)).f0 ≥ s.f0)) = true then some false else if a.2 = 0 then (if (s.f2.length : Int) = 0 then (some false) else ((thresherref0_Rising.f k s.f2 1 sites).bind fun t => (if t = true then (thresherref11_Config.l0 k (wrap64 (i + 1)) sites l again over) else (some false)))) else (some false)) else (some false))) (fun k => ?_) ?_
  ·
   simp only [thresherref11_Config.l0]
   rw [if_pos hi, if_pos h0, hs]
   congr 1
   funext a
   have hid : thresherref0_ID.f s.f0 = some (decide (1 ≤ s.f0 ∧ s.f0 ≤ 1048576)) := by
    unfold thresherref0_ID.f
    by_cases c : s.f0 ≥ 1
    ·
     rw [if_pos c]
     congr 1
     rw [decide_eq_decide]
     omega
    ·
     rw [if_neg c]
     congr 1
     rw [eq_comm, decide_eq_false_iff_not]
     omega
   rw [hid]
   simp only [Option.bind_some]
   by_cases c0 : (decide (1 ≤ s.f0 ∧ s.f0 ≤ 1048576)) = true
   ·
    rw [if_pos c0, if_pos c0]
    by_cases c1 : i > 0
    ·
     rw [if_pos c1, w64 (n := i - 1) (by omega) (by omega), if_pos (by omega), if_pos (by omega)]
     by_cases c2 : (rd_T61 l (i - 1)).f0 ≥ s.f0
     ·
      rw [if_pos c2, if_pos (decide_eq_true ⟨c1, c2⟩)]
     ·
      rw [if_neg c2, decide_eq_false (fun h => c2 h.2)]
      simp only [Bool.false_eq_true, if_false]
    ·
     rw [if_neg c1, decide_eq_false (fun h => c1 h.1)]
     simp only [Bool.false_eq_true, if_false]
   ·
    rw [if_neg c0, if_neg c0]
  ·
   refine Ev.bind (f := fun k (a : List S32 × Int) => (if (decide (1 ≤ s.f0 ∧ s.f0 ≤ 1048576)) = true then (if (decide (0 < i ∧ (rd_T61 l (i - 1)).f0 ≥ s.f0)) = true then some false else if a.2 = 0 then (if (s.f2.length : Int) = 0 then (some false) else ((thresherref0_Rising.f k s.f2 1 sites).bind fun t => (if t = true then (thresherref11_Config.l0 k (wrap64 (i + 1)) sites l again over) else (some false)))) else (some false)) else (some false))) (refall_ev s.f1) ?_
   simp only [refb]
   rw [hs]
   cases decide (1 ≤ s.f0 ∧ s.f0 ≤ 1048576) with
   | false => exact evNeg (by decide) (Ev.now _)
   | true =>
    rw [Bool.true_and]
    refine evPos rfl ?_
    cases decide (0 < i ∧ (rd_T61 l (i - 1)).f0 ≥ s.f0) with
    | true => exact evPos rfl (Ev.now _)
    | false =>
     rw [Bool.not_false, Bool.true_and]
     exact evNeg (by decide) tail
theorem config_ev (l : List S61) (hl : ∀ y ∈ l, Good61 y) (sites again over : Int) (hag : -9223372036854775808 ≤ again ∧ again ≤ 9223372036854775807) : Ev (fun k => thresherref11_Config.f k sites l again over) (cfgb sites l again over) := by
 have hno : Ev (fun k => thresherref11_Config.j0 k true sites l again over) false := by
  refine Ev.step (f := fun _ => some false) (fun k => ?_) (Ev.now _)
  simp only [thresherref11_Config.j0, if_true]
 unfold thresherref11_Config.f cfgb
 by_cases c1 : sites < 1
 ·
  rw [show hdb sites l.length again over = false by simp [hdb]; omega, Bool.false_and]
  exact evPos c1 hno
 ·
  refine evNeg c1 ?_
  by_cases c2 : sites > 3
  ·
   rw [show hdb sites l.length again over = false by simp [hdb]; omega, Bool.false_and]
   exact evPos c2 hno
  ·
   refine evNeg c2 ?_
   by_cases c3 : (l.length : Int) > 6
   ·
    rw [show hdb sites l.length again over = false by simp [hdb]; omega, Bool.false_and]
    exact evPos c3 hno
   ·
    refine evNeg c3 ?_
    by_cases c4 : again < 1
    ·
     rw [show hdb sites l.length again over = false by simp [hdb]; omega, Bool.false_and]
     exact evPos c4 hno
    ·
     refine evNeg c4 ?_
     by_cases c5 : again > 16
     ·
      rw [show hdb sites l.length again over = false by simp [hdb]; omega, Bool.false_and]
      exact evPos c5 hno
     ·
      refine evNeg c5 ?_
      by_cases c6 : over < 16
      ·
       rw [show hdb sites l.length again over = false by simp [hdb]; omega, Bool.false_and]
       exact evPos c6 hno
      ·
       refine evNeg c6 ?_
       by_cases c7 : over > 64
       ·
        rw [show hdb sites l.length again over = false by simp [hdb]; omega, Bool.false_and]
        exact evPos c7 hno
       ·
        refine evNeg c7 ?_
        rw [w64 (by omega) (by omega)]
        by_cases c8 : over < 2 * again
        ·
         rw [show hdb sites l.length again over = false by simp [hdb]; omega, Bool.false_and, decide_eq_true c8]
         exact hno
        ·
         rw [show hdb sites l.length again over = true by simp [hdb]; omega, Bool.true_and, decide_eq_false c8]
         refine Ev.step (f := fun k => thresherref11_Config.l0 k 0 sites l again over) (fun k => ?_) ?_
         ·
          simp only [thresherref11_Config.j0]
          rw [if_neg (by decide)]
         ·
          have h := config_l0 l hl (by omega) sites again over l.length 0 (by omega) (by omega) (by omega)
          rw [refb_eq l sites l.length 0 (by omega) (by omega) (by omega)] at h
          have e : risb (l.map (·.f0)) 1 1048576 l.length 0 = ris (l.map (·.f0)) 1 1048576 := by unfold ris; rw [List.length_map]
          rw [e] at h
          simpa using h

/-! ### a split is found; who has it next -/
theorem clone_f (l : List Int) (h : l.length ≤ 17592186043904) : slices_Clone_int_int.f l = some l := by
 unfold slices_Clone_int_int.f
 simp only [Option.bind_some]
 rw [if_pos (by simp; omega)]
 rfl
theorem len61' {s : S61} (h : Good61 s) : s.f2.length ≤ 17592186043904 := by
 have := h.2.2.2.1
 omega
def ofv : Option S61 → Int × ByteArray × List Int × Bool
 | some s => (s.f0, s.f1, s.f2, true)
 | none => (0, nobytes, [], false)
def found (l : List S61) (id : Int) : Option S61 := l.find? (fun s => decide (s.f0 = id))
theorem of_l0 (l : List S61) (hl : ∀ y ∈ l, Good61 y) (hlen : l.length ≤ 9223372036854775806) (id : Int) : ∀ (d : Nat) (i : Int), 0 ≤ i → i ≤ l.length → l.length - i = d → Ev (fun k => split_Of.l0 k id l (l.length : Int) i) (ofv (found (l.drop i.toNat) id)) := by
 intro d
 induction d with
 | zero =>
  intro i h0 h1 hd
  rw [List.drop_eq_nil_of_le (by omega)]
  refine Ev.step (f := fun _ => some (0, nobytes, [], false)) (fun k => ?_) (Ev.now _)
  simp only [split_Of.l0]
  rw [if_neg (by omega)]
 | succ d ih =>
  intro i h0 h1 hd
  have hi : i < l.length := by omega
  have hg := good61_rd hl h0 hi
  have hc := clone_f _ (len61' hg)
  rw [drop61_rd h0 hi]
  generalize hs : rd_T61 l i = s at *
  unfold found
  rw [List.find?_cons]
  by_cases c : s.f0 = id
  ·
   rw [decide_eq_true c]
   refine Ev.step (f := fun _ => some (s.f0, s.f1, s.f2, true)) (fun k => ?_) (Ev.now _)
   simp only [split_Of.l0]
   rw [if_pos hi, if_pos h0, if_pos hi, hs, if_pos c]
   unfold split_Own.f
   rw [hc]
   rfl
  ·
   rw [decide_eq_false c]
   refine Ev.step (f := fun k => split_Of.l0 k id l (l.length : Int) (i + 1)) (fun k => ?_) (ih (i + 1) (by omega) (by omega) (by omega))
   simp only [split_Of.l0]
   rw [if_pos hi, if_pos h0, if_pos hi, hs, if_neg c, w64 (by omega) (by omega)]
theorem of_ev (l : List S61) (hl : ∀ y ∈ l, Good61 y) (hlen : l.length ≤ 9223372036854775806) (sites again over id : Int) : Ev (fun k => split_Of.f k sites l again over id) (ofv (found l id)) :=
 Ev.congr (f := fun k => split_Of.l0 k id l (l.length : Int) 0) (fun _ => rfl) (of_l0 l hl hlen id l.length 0 (by omega) (by omega) (by omega))
def findv (ok : Bool) (o : Option S61) : Int × ByteArray × List Int × Int :=
 if ok = true then (match o with | some s => (s.f0, s.f1, s.f2, 0) | none => (0, nobytes, [], 3)) else (0, nobytes, [], 1)
theorem find_ev (l : List S61) (hl : ∀ y ∈ l, Good61 y) (hlen : l.length ≤ 9223372036854775806) (sites again over id : Int) (hag : -9223372036854775808 ≤ again ∧ again ≤ 9223372036854775807) :
  Ev (fun k => split_Find.f k sites l again over id) (findv (cfgb sites l again over) (found l id)) := by
 unfold split_Find.f
 refine Ev.bind (f := fun k t => (if t = 0 then ((split_Of.f k sites l again over id).bind fun b => (if b.2.2.2 = true then (some (b.1, b.2.1, b.2.2.1, 0)) else (some (0, (⟨#[]⟩ : ByteArray), ([] : List Int), 3)))) else (some (0, (⟨#[]⟩ : ByteArray), ([] : List Int), 1)))) (check_ev l hl sites again over hag) ?_
 unfold findv
 by_cases h : cfgb sites l again over = true
 ·
  simp only [if_pos h, if_true]
  refine Ev.bind (f := fun k (b : Int × ByteArray × List Int × Bool) => (if b.2.2.2 = true then (some (b.1, b.2.1, b.2.2.1, 0)) else (some (0, (⟨#[]⟩ : ByteArray), ([] : List Int), 3)))) (of_ev l hl hlen sites again over id) ?_
  cases found l id with
  | some s => exact Ev.now _
  | none => exact Ev.now _
 ·
  simp only [if_neg h]
  exact evNeg (by decide) (Ev.now _)
def behindb (l : List Int) (site : Int) : Nat → Int → Int
 | 0, _ => rd l 0
 | d + 1, i => if rd l i > site then rd l i else behindb l site d (i + 1)
def behind (l : List Int) (site : Int) : Int := behindb l site l.length 0
theorem behind_l0 (l : List Int) (hlen : l.length ≤ 9223372036854775806) (hne : 0 < l.length) (site a : Int) (b : ByteArray) : ∀ (d : Nat) (i : Int), 0 ≤ i → i ≤ l.length → l.length - i = d → Ev (fun k => split_Behind.l0 k site l (l.length : Int) i a b l) (behindb l site d i) := by
 intro d
 induction d with
 | zero =>
  intro i h0 h1 hd
  refine Ev.step (f := fun _ => some (rd l 0)) (fun k => ?_) (Ev.now _)
  simp only [split_Behind.l0]
  rw [if_neg (by omega), if_pos (by omega)]
 | succ d ih =>
  intro i h0 h1 hd
  simp only [behindb]
  by_cases c : rd l i > site
  ·
   rw [if_pos c]
   refine Ev.step (f := fun _ => some (rd l i)) (fun k => ?_) (Ev.now _)
   simp only [split_Behind.l0]
   rw [if_pos (by omega), if_pos h0, if_pos (by omega), if_pos c]
  ·
   rw [if_neg c]
   refine Ev.step (f := fun k => split_Behind.l0 k site l (l.length : Int) (i + 1) a b l) (fun k => ?_) (ih (i + 1) (by omega) (by omega) (by omega))
   simp only [split_Behind.l0]
   rw [if_pos (by omega), if_pos h0, if_pos (by omega), if_neg c, w64 (by omega) (by omega)]
theorem behind_ev (l : List Int) (hlen : l.length ≤ 9223372036854775806) (hne : 0 < l.length) (site a : Int) (b : ByteArray) : Ev (fun k => split_Behind.f k a b l site) (behind l site) :=
 Ev.congr (f := fun k => split_Behind.l0 k site l (l.length : Int) 0 a b l) (fun _ => rfl) (behind_l0 l hlen hne site a b l.length 0 (by omega) (by omega) (by omega))
theorem found_may {sites again over : Int} {l : List S61} (h : cfgb sites l again over = true) {id : Int} {s : S61} (hs : found l id = some s) : s ∈ l ∧ s.f0 = id ∧ mayb sites s = true := by
 have hm := List.mem_of_find?_eq_some hs
 have hp := List.find?_some hs
 refine ⟨hm, by simpa using hp, ?_⟩
 unfold cfgb at h
 simp only [Bool.and_eq_true] at h
 exact List.all_eq_true.1 h.2.1 s hm
theorem may_ne {sites : Int} {s : S61} (h : mayb sites s = true) : 0 < s.f2.length := by
 unfold mayb at h
 simp only [Bool.and_eq_true, decide_eq_true_eq] at h
 exact h.1.2
def nextv (ok : Bool) (o : Option S61) (sites site : Int) : Int × Int :=
 if ok = true ∧ 0 ≤ site ∧ site ≤ sites then (match o with | some s => (behind s.f2 site, 0) | none => (0, 3)) else (0, 1)
theorem next_ev (l : List S61) (hl : ∀ y ∈ l, Good61 y) (hlen : l.length ≤ 9223372036854775806) (sites again over id site : Int) (hag : -9223372036854775808 ≤ again ∧ again ≤ 9223372036854775807) :
  Ev (fun k => split_Next.f k sites l again over id site) (nextv (cfgb sites l again over) (found l id) sites site) := by
 have hno : ∀ e a b c, Ev (fun k => split_Next.j0 k site e true a b c) (0, 1) := by
  intro e a b c
  refine Ev.step (f := fun _ => some (0, 1)) (fun k => ?_) (Ev.now _)
  simp only [split_Next.j0, if_true]
 unfold split_Next.f
 refine Ev.bind (f := fun k (b : Int × ByteArray × List Int × Int) => (if b.2.2.2 = 1 then (split_Next.j0 k site b.2.2.2 true b.1 b.2.1 b.2.2.1) else (if site < 0 then (split_Next.j0 k site b.2.2.2 true b.1 b.2.1 b.2.2.1) else (split_Next.j0 k site b.2.2.2 (decide (site > sites)) b.1 b.2.1 b.2.2.1)))) (find_ev l hl hlen sites again over id hag) ?_
 unfold nextv
 by_cases h : cfgb sites l again over = true
 ·
  by_cases c1 : site < 0
  ·
   rw [if_neg (by omega)]
   by_cases c0 : (findv (cfgb sites l again over) (found l id)).2.2.2 = 1
   ·
    exact evPos c0 (hno _ _ _ _)
   ·
    exact evNeg c0 (evPos c1 (hno _ _ _ _))
  ·
   have c0 : ¬ (findv (cfgb sites l again over) (found l id)).2.2.2 = 1 := by
    unfold findv
    rw [if_pos h]
    cases found l id <;> simp
   refine evNeg c0 (evNeg c1 ?_)
   by_cases c2 : site > sites
   ·
    rw [if_neg (by omega), decide_eq_true c2]
    exact hno _ _ _ _
   ·
    rw [if_pos ⟨h, by omega, by omega⟩, decide_eq_false c2]
    unfold findv
    rw [if_pos h]
    cases hf : found l id with
    | none =>
     refine Ev.step (f := fun _ => some (0, 3)) (fun k => ?_) (Ev.now _)
     simp only [split_Next.j0]
     rw [if_neg (by decide), if_neg (by decide)]
    | some s =>
     obtain ⟨hm, _, hp⟩ := found_may h hf
     have hne := may_ne hp
     have hlen2 := len61' (hl s hm)
     refine Ev.step (f := fun k => (split_Behind.f k s.f0 s.f1 s.f2 site).bind fun t => (some (t, 0))) (fun k => ?_) ?_
     ·
      simp only [split_Next.j0, if_true]
      rw [if_neg (by decide)]
     ·
      exact Ev.bind (f := fun _ t => (some (t, 0))) (behind_ev s.f2 (by omega) hne site s.f0 s.f1) (Ev.now _)
 ·
  rw [if_neg (fun hh => h hh.1)]
  have c0 : (findv (cfgb sites l again over) (found l id)).2.2.2 = 1 := by
   unfold findv
   rw [if_neg h]
  exact evPos c0 (hno _ _ _ _)

/-! ### how much it is -/
theorem cweight_l0 (l : List S61) (hl : ∀ y ∈ l, Good61 y) (hlen : l.length ≤ 2932031007317) (a b c : Int) : ∀ (d : Nat) (i n : Int), 0 ≤ i → i ≤ l.length → l.length - i = d → 0 ≤ n → n ≤ 4611686018427387904 → ∃ r, Ev (fun k => thresherlaw0_ConfigWeight.l0 k n i a l b c) r := by
 intro d
 induction d with
 | zero =>
  intro i n h0 h1 hd n0 n1
  refine ⟨n, Ev.step (f := fun _ => some n) (fun k => ?_) (Ev.now _)⟩
  simp only [thresherlaw0_ConfigWeight.l0]
  rw [if_neg (by omega)]
 | succ d ih =>
  intro i n h0 h1 hd n0 n1
  by_cases hn : n < 1048576
  ·
   have hg := good61_rd hl h0 (by omega)
   have g1 := hg.2.1
   have g2 := len61' hg
   obtain ⟨r, hr⟩ := ih (i + 1) (n + ((rd_T61 l i).f1).size + ((rd_T61 l i).f2).length) (by omega) (by omega) (by omega) (by omega) (by omega)
   refine ⟨r, Ev.step (f := fun k => thresherlaw0_ConfigWeight.l0 k (n + ((rd_T61 l i).f1).size + ((rd_T61 l i).f2).length) (i + 1) a l b c) (fun k => ?_) hr⟩
   simp only [thresherlaw0_ConfigWeight.l0]
   rw [if_pos (by omega), if_pos hn, if_pos h0, w64 (n := n + ((rd_T61 l i).f1).size) (by omega) (by omega), w64 (by omega) (by omega), w64 (by omega) (by omega)]
  ·
   refine ⟨n, Ev.step (f := fun _ => some n) (fun k => ?_) (Ev.now _)⟩
   simp only [thresherlaw0_ConfigWeight.l0]
   rw [if_pos (by omega), if_neg hn]
theorem heavy_ev (l : List S61) (hl : ∀ y ∈ l, Good61 y) (hlen : l.length ≤ 2932031007317) (a b c : Int) (ids : List Int) : ∃ h, Ev (fun k => thresherlaw12_Heavy.f k a l b c ids) h ∧ (h = false → ids.length ≤ 300) := by
 obtain ⟨r, hr⟩ := cweight_l0 l hl hlen a b c l.length 0 (1 + l.length) (by omega) (by omega) (by omega) (by omega) (by omega)
 have hw : Ev (fun k => thresherlaw0_ConfigWeight.f k a l b c) r := by
  refine Ev.congr (f := fun k => thresherlaw0_ConfigWeight.l0 k (1 + l.length) 0 a l b c) (fun k => ?_) hr
  unfold thresherlaw0_ConfigWeight.f
  rw [w64 (by omega) (by omega)]
 by_cases h : r > 20000
 ·
  refine ⟨true, ?_, by simp⟩
  unfold thresherlaw12_Heavy.f
  refine Ev.bind (f := fun k (t : Int) => (if t > 20000 then (some true) else (some (decide ((ids.length : Int) > 300))))) hw ?_
  simp only [if_pos h]
  exact Ev.now _
 ·
  refine ⟨decide ((ids.length : Int) > 300), ?_, by simp; omega⟩
  unfold thresherlaw12_Heavy.f
  refine Ev.bind (f := fun k (t : Int) => (if t > 20000 then (some true) else (some (decide ((ids.length : Int) > 300))))) hw ?_
  simp only [if_neg h]
  exact Ev.now _
theorem wakes_ev : Ev (fun k => thresherlaw12_wakes.f k) true := Ev.of thresherlaw12_wakes.mono (k := 40) (by decide +kernel)
end Go.Proofs.Ytgchbhepnfnhpaa.QSplit
