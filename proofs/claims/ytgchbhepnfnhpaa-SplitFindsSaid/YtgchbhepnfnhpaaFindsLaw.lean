/- What SplitFinds comes to, in plain Lean: each answer of the program's is the page's. -/
import Derived.Test.YtgchbhepnfnhpaaSlSplit
import Derived.Test.YtgchbhepnfnhpaaQFindsd
namespace Go.Proofs.Ytgchbhepnfnhpaa.QSplit
open Go.RowKit Go.Proofs.Ytgchbhepnfnhpaa Go.Proofs.YtgchbhepnfnhpaaW.PrintWords Go.Proofs.YtgchbhepnfnhpaaW.PrintLast Go.Proofs.YtgchbhepnfnhpaaW.PrintMore Go.Proofs.Ytgchbhepnfnhpaa.Math
set_option linter.unusedVariables false
set_option linter.unusedSimpArgs false

theorem w1 {i : Nat} (h : i < 4611686018427387904) : wrap64 ((i : Int) + 1) = ((i + 1 : Nat) : Int) := by unfold wrap64; omega
theorem drop61n {l : List S61} {i : Nat} (h : i < l.length) : l.drop i = rd_T61 l (i : Int) :: l.drop (i + 1) := by
  have := drop61_rd (l := l) (i := (i : Int)) (by omega) (by omega)
  simpa [show ((i : Int) + 1).toNat = i + 1 by omega] using this

/-! ### the page's Find, Next; what is equal to itself; numbers written -/
theorem refind_l0 (l : List S61) (hl : l.length < 4611686018427387904) (sites again over id : Int) : ∀ (d i : Nat), i + d = l.length → ∃ x, Ev (fun k => thresherref11_Find.l0 k id (i : Int) sites l again over) x ∧ ((x = -1 ∧ found (l.drop i) id = none) ∨ (0 ≤ x ∧ x < l.length ∧ found (l.drop i) id = some (rd_T61 l x))) := by
  intro d
  induction d with
  | zero =>
    intro i hi
    refine ⟨-1, Ev.step (f := fun _ => some (-1)) (fun k => by rw [thresherref11_Find.l0, if_neg (by omega)]) (Ev.now _), .inl ⟨rfl, ?_⟩⟩
    rw [List.drop_of_length_le (by omega)]
    rfl
  | succ d ih =>
    intro i hi
    rw [drop61n (by omega)]
    by_cases c : (rd_T61 l (i : Int)).f0 = id
    · refine ⟨(i : Int), Ev.step (f := fun _ => some (i : Int)) (fun k => by rw [thresherref11_Find.l0, if_pos (by omega), if_pos (by omega), if_pos c]) (Ev.now _), .inr ⟨by omega, by omega, ?_⟩⟩
      unfold found
      rw [List.find?_cons, decide_eq_true c]
    · obtain ⟨x, h1, h2⟩ := ih (i + 1) (by omega)
      refine ⟨x, Ev.step (fun k => by rw [thresherref11_Find.l0, if_pos (by omega), if_pos (by omega), if_neg c, w1 (by omega)]) h1, ?_⟩
      have e : found (rd_T61 l (i : Int) :: l.drop (i + 1)) id = found (l.drop (i + 1)) id := by
        unfold found
        rw [List.find?_cons, decide_eq_false c]
      rw [e]
      exact h2
theorem refind_ev (l : List S61) (hl : l.length < 4611686018427387904) (sites again over id : Int) : ∃ x, Ev (fun k => thresherref11_Find.f k sites l again over id) x ∧ ((x = -1 ∧ found l id = none) ∨ (0 ≤ x ∧ x < l.length ∧ found l id = some (rd_T61 l x))) := by
  obtain ⟨x, h1, h2⟩ := refind_l0 l hl sites again over id l.length 0 (by omega)
  exact ⟨x, h1, by simpa using h2⟩

theorem eqnum_refl (l : List Int) (hl : l.length < 4611686018427387904) : Ev (fun k => thresherref0_EqNumbers.f k l l) true := by
  have h : ∀ (d i : Nat), i + d = l.length → Ev (fun k => thresherref0_EqNumbers.l0 k l l (i : Int)) true := by
    intro d
    induction d with
    | zero => intro i hi; exact Ev.step (f := fun _ => some true) (fun k => by rw [thresherref0_EqNumbers.l0, if_neg (by omega)]) (Ev.now _)
    | succ d ih => intro i hi; exact Ev.step (fun k => by rw [thresherref0_EqNumbers.l0, if_pos (by omega), if_pos (by omega), if_pos (by omega), if_pos rfl, w1 (by omega)]) (ih (i + 1) (by omega))
  exact Ev.congr (f := fun k => thresherref0_EqNumbers.l0 k l l ((0 : Nat) : Int)) (fun k => by rw [thresherref0_EqNumbers.f, if_pos rfl]; rfl) (h l.length 0 (by omega))
theorem eqsplit_refl (a : Int) (b : ByteArray) (l : List Int) (hl : l.length < 4611686018427387904) : Ev (fun k => thresherref0_EqSplit.f k a b l a b l) true :=
  Ev.congr (f := fun k => (thresherref0_EqNumbers.f k l l).bind fun t => some t) (fun k => by rw [thresherref0_EqSplit.f, if_pos rfl, if_pos rfl]) (Ev.bind (eqnum_refl l hl) (Ev.now _))
theorem eqrec_refl (l : List S32) (hl : l.length < 4611686018427387904) : Ev (fun k => thresherref0_EqRecs.f k l l) true := by
  have h : ∀ (d i : Nat), i + d = l.length → Ev (fun k => thresherref0_EqRecs.l0 k l l (i : Int)) true := by
    intro d
    induction d with
    | zero => intro i hi; exact Ev.step (f := fun _ => some true) (fun k => by rw [thresherref0_EqRecs.l0, if_neg (by omega)]) (Ev.now _)
    | succ d ih => intro i hi; exact Ev.step (fun k => by rw [thresherref0_EqRecs.l0, if_pos (by omega), if_pos (by omega), if_pos (by omega), if_neg (by simp), w1 (by omega)]) (ih (i + 1) (by omega))
  exact Ev.congr (f := fun k => thresherref0_EqRecs.l0 k l l ((0 : Nat) : Int)) (fun k => by rw [thresherref0_EqRecs.f, if_pos rfl]; rfl) (h l.length 0 (by omega))
theorem numbers_ev (l : List Int) (hl : l.length < 17592186044416) : Ev (fun k => thresherlaw0_Numbers.f k l) () := by
  have h : ∀ (d i : Nat) (x : List Int), x.length = l.length → i + d = l.length → Ev (fun k => thresherlaw0_Numbers.l0 k x (i : Int)) () := by
    intro d
    induction d with
    | zero => intro i x hx hi; exact Ev.step (f := fun _ => some ()) (fun k => by rw [thresherlaw0_Numbers.l0, if_neg (by omega), if_pos (by omega)]) (Ev.now _)
    | succ d ih => intro i x hx hi; exact Ev.step (fun k => by rw [thresherlaw0_Numbers.l0, if_pos (by omega), if_pos (by omega), w1 (by omega)]) (ih (i + 1) (x.set (i : Int).toNat (-99)) (by simpa using hx) (by omega))
  exact h l.length 0 l rfl (by omega)
theorem refnext_ev (l : List Int) (hl : l.length < 4611686018427387904) (hne : 0 < l.length) (site a : Int) (b : ByteArray) : Ev (fun k => thresherref11_Next.f k a b l site) (behind l site) := by
  have h : ∀ (d i : Nat), i + d = l.length → Ev (fun k => thresherref11_Next.l0 k site (i : Int) a b l) (behindb l site d (i : Int)) := by
    intro d
    induction d with
    | zero => intro i hi; exact Ev.step (f := fun _ => some (rd l 0)) (fun k => by rw [thresherref11_Next.l0, if_neg (by omega), if_pos (by omega)]) (Ev.now _)
    | succ d ih =>
      intro i hi
      simp only [behindb]
      by_cases c : rd l (i : Int) > site
      · rw [if_pos c]
        exact Ev.step (f := fun _ => some (rd l (i : Int))) (fun k => by rw [thresherref11_Next.l0, if_pos (by omega), if_pos (by omega), if_pos c]) (Ev.now _)
      · rw [if_neg c]
        exact Ev.step (fun k => by rw [thresherref11_Next.l0, if_pos (by omega), if_pos (by omega), if_neg c, w1 (by omega)]) (by simpa using ih (i + 1) (by omega))
  exact h l.length 0 (by omega)

theorem chk_same (c : Bool) : (((if c = true then (0 : Int) else 1) == 0) != c) = false := by cases c <;> decide

/-! ### records of IDs -/
def recsv (l : List S61) : List Int → List S32 → List S32 × Int
  | [], acc => (acc, 0)
  | id :: ids, acc => match found l id with
    | none => ([], 3)
    | some s => recsv l ids (acc ++ (allrecs s.f1).1)
theorem recall_len : ∀ (d : Nat) (s : ByteArray) (acc : List S32), acc.length ≤ 64 → (recall d s acc).1.length ≤ 64
  | 0, s, acc, h => by rw [recall]; exact h
  | d + 1, s, acc, h => by
    rw [recall]
    split
    · exact h
    · split
      · simp
      · split
        · exact recall_len d _ _ (by simp; omega)
        · simp
theorem allrecs_len (s : ByteArray) : (allrecs s).1.length ≤ 64 := by
  unfold allrecs
  split
  · simp
  · exact recall_len _ _ _ (by simp)
theorem recsv_len (l : List S61) : ∀ (ids : List Int) (acc : List S32), (recsv l ids acc).1.length ≤ acc.length + 64 * ids.length
  | [], acc => by simp [recsv]
  | id :: ids, acc => by
    rw [recsv]
    split
    · simp
    · rename_i s _
      have h1 := recsv_len l ids (acc ++ (allrecs s.f1).1)
      have h2 := allrecs_len s.f1
      simp only [List.length_append, List.length_cons] at h1 ⊢
      omega
theorem rd_drop {l : List Int} {i : Nat} (h : i < l.length) : l.drop i = rd l (i : Int) :: l.drop (i + 1) := by
  rw [List.drop_eq_getElem_cons h]
  congr 1
  unfold rd
  rw [List.getD_eq_getElem?_getD]
  simp [h]

theorem finds_j6 (sites : Int) (l : List S61) (again over : Int) (hl : ∀ y ∈ l, Good61 y) (ha : -9223372036854775808 ≤ again ∧ again ≤ 9223372036854775807) (ids : List Int) (i : Nat) (o : List S32) (e : Int) (ho : o.length ≤ 100000) (rest : Ev (fun k => thresherlaw12_SplitFinds.l0 k (cfgb sites l again over) (wrap64 ((i : Int) + 1)) sites l again over ids) true) : Ev (fun k => thresherlaw12_SplitFinds.j6 k (cfgb sites l again over) (i : Int) o e e o sites l again over ids) true := by
  have e1 : ∀ k, thresherlaw12_SplitFinds.j6 (k + 1) (cfgb sites l again over) (i : Int) o e e o sites l again over ids = _ := fun k => by rw [thresherlaw12_SplitFinds.j6, thresherlaw12_num.f, Option.bind_some, if_pos rfl]
  refine Ev.step e1 (Ev.bind (eqrec_refl o (by omega)) ?_)
  simp only [if_pos]
  refine Ev.bind (check_ev l hl sites again over ha) ?_
  simp only [thresherlaw12_num.f, Option.bind_some]
  exact Ev.congr (fun n => if_neg (by rw [chk_same]; decide)) rest

/-- What is asked of each ID: which split it is, who has it next, the records. -/
theorem finds_j4 (sites : Int) (l : List S61) (again over : Int) (ids : List Int) (x3 : Bool) (i : Nat) (x5 x10 x11 x12 x13 x14 : Int) (b : Bool) (h : (b = true ∧ ((0 ≤ x5 ∧ x5 < l.length ∧ 0 < (rd_T61 l x5).f2.length ∧ (rd_T61 l x5).f2.length < 4611686018427387904 ∧ x12 = 0 ∧ x11 = behind (rd_T61 l x5).f2 x10) ∨ (x5 = -1 ∧ x12 = 3 ∧ x11 = x14))) ∨ (b = false ∧ x12 = x13 ∧ x11 = x14)) (rest : Ev (fun k => thresherlaw12_SplitFinds.l1 k x3 (i : Int) x5 (wrap64 (x10 + 1)) sites l again over ids) true) : Ev (fun k => thresherlaw12_SplitFinds.j4 k x3 (i : Int) x5 x10 x11 x12 x13 x14 b sites l again over ids) true := by
  rcases h with ⟨rfl, ⟨h0, h1, h2, h3, rfl, rfl⟩ | ⟨rfl, rfl, rfl⟩⟩ | ⟨rfl, rfl, rfl⟩
  · have e : ∀ k, thresherlaw12_SplitFinds.j4 (k + 1) x3 (i : Int) x5 x10 (behind (rd_T61 l x5).f2 x10) 0 x13 x14 true sites l again over ids = _ := fun k => by rw [thresherlaw12_SplitFinds.j4, if_pos rfl, if_pos (show x5 ≥ 0 from h0), if_pos h0, if_pos h1]
    refine Ev.step e (Ev.bind (refnext_ev (rd_T61 l x5).f2 h3 h2 x10 _ _) ?_)
    simp only [thresherlaw12_num.f, Option.bind_some, if_pos]
    exact rest
  · exact Ev.step (fun k => by rw [thresherlaw12_SplitFinds.j4, if_pos rfl, if_neg (by decide), thresherlaw12_num.f, Option.bind_some, if_pos rfl, if_pos rfl]) rest
  · exact Ev.step (fun k => by rw [thresherlaw12_SplitFinds.j4, if_neg (by decide), thresherlaw12_num.f, Option.bind_some, if_pos rfl, if_pos rfl]) rest

section
variable (sites : Int) (l : List S61) (again over : Int) (hl : ∀ y ∈ l, Good61 y) (hlen : l.length ≤ 2932031007317) (ha : -9223372036854775808 ≤ again ∧ again ≤ 9223372036854775807)
include hl hlen ha
theorem recs_l0 (hc : cfgb sites l again over = true) (ids : List Int) (hid : ids.length ≤ 300) : ∀ (d i : Nat) (acc : List S32), i + d = ids.length → acc.length ≤ 64 * i → Ev (fun k => split_Recs.l0 k acc ids (ids.length : Int) (i : Int) sites l again over) (recsv l (ids.drop i) acc) := by
  intro d
  induction d with
  | zero =>
    intro i acc hi hacc
    rw [List.drop_of_length_le (by omega)]
    exact Ev.step (f := fun _ => some (acc, 0)) (fun k => by rw [split_Recs.l0, if_neg (by omega)]) (Ev.now _)
  | succ d ih =>
    intro i acc hi hacc
    rw [rd_drop (by omega), recsv]
    have e : ∀ k, split_Recs.l0 (k + 1) acc ids (ids.length : Int) (i : Int) sites l again over = _ := fun k => by rw [split_Recs.l0, if_pos (by omega), if_pos (by omega), if_pos (by omega), w1 (by omega)]
    refine Ev.step e (Ev.bind (find_ev l hl (by omega) sites again over (rd ids (i : Int)) ha) ?_)
    rw [hc]
    cases hf : found l (rd ids (i : Int)) with
    | none => simpa [findv] using Ev.now _
    | some s =>
      simp only [findv, if_pos]
      have h1 := allrecs_len s.f1
      refine Ev.bind (all_ev s.f1) ?_
      simp only [if_pos (show acc.length + (allrecs s.f1).1.length < 4398046511104 by omega)]
      exact ih (i + 1) _ (by omega) (by simp; omega)
theorem recs_ev (ids : List Int) (hid : ids.length ≤ 300) : Ev (fun k => split_Recs.f k sites l again over ids) (if cfgb sites l again over = true then recsv l ids [] else ([], 1)) := by
  refine Ev.congr (f := fun k => (split_Check.f k sites l again over).bind fun t => if t = 0 then split_Recs.l0 k [] ids (ids.length : Int) ((0 : Nat) : Int) sites l again over else some ([], 1)) (fun k => rfl) (Ev.bind (check_ev l hl sites again over ha) ?_)
  by_cases hc : cfgb sites l again over = true
  · simp only [if_pos hc, if_pos]
    simpa using recs_l0 sites l again over hl hlen ha hc ids hid ids.length 0 [] (by omega) (by simp)
  · simp only [if_neg hc, if_neg (show ¬ ((1 : Int) = 0) by decide)]
    exact Ev.now _

variable (ids : List Int) (hid : ids.length ≤ 300)
include hid
theorem finds_l2 (hc : cfgb sites l again over = true) (i : Nat) (hi : i < ids.length) (o : List S32) (e : Int) (ho : o.length ≤ 100000) (rest : Ev (fun k => thresherlaw12_SplitFinds.l0 k true (wrap64 ((i : Int) + 1)) sites l again over ids) true) : ∀ (d j : Nat) (acc : List S32), j + d = i + 1 → acc.length ≤ 64 * j → recsv l ((ids.take (i + 1)).drop j) acc = (o, e) → Ev (fun k => thresherlaw12_SplitFinds.l2 k true (i : Int) o e 0 acc (j : Int) sites l again over ids) true := by
  have j6 := finds_j6 sites l again over hl ha ids i o e ho (by rw [hc]; exact rest)
  rw [hc] at j6
  intro d
  induction d with
  | zero =>
    intro j acc hj hacc hr
    rw [List.drop_of_length_le (by simp; omega), recsv] at hr
    simp only [Prod.mk.injEq] at hr
    obtain ⟨rfl, rfl⟩ := hr
    exact Ev.step (fun k => by rw [thresherlaw12_SplitFinds.l2, if_neg (by omega), if_pos rfl]) j6
  | succ d ih =>
    intro j acc hj hacc hr
    have hj2 : j < (ids.take (i + 1)).length := by simp; omega
    rw [rd_drop hj2, recsv, show rd (ids.take (i + 1)) (j : Int) = rd ids (j : Int) by unfold rd; rw [List.getD_eq_getElem?_getD, List.getD_eq_getElem?_getD, List.getElem?_take, if_pos (by omega)]] at hr
    obtain ⟨x, h1, h2⟩ := refind_ev l (by omega) sites again over (rd ids (j : Int))
    have e1 : ∀ k, thresherlaw12_SplitFinds.l2 (k + 1) true (i : Int) o e 0 acc (j : Int) sites l again over ids = _ := fun k => by rw [thresherlaw12_SplitFinds.l2, if_pos (by omega), if_pos (by omega), if_pos (by omega), w1 (by omega)]
    refine Ev.step e1 (Ev.bind h1 ?_)
    rcases h2 with ⟨rfl, h2⟩ | ⟨h0, hx, h2⟩
    · rw [h2] at hr
      simp only [Prod.mk.injEq] at hr
      obtain ⟨rfl, rfl⟩ := hr
      simp only [if_pos (show (-1 : Int) < 0 by decide), if_neg (show ¬ ((3 : Int) = 0) by decide)]
      exact j6
    · rw [h2] at hr
      dsimp only at hr
      have hl1 := allrecs_len (rd_T61 l x).f1
      simp only [if_neg (show ¬ x < 0 by omega), if_pos h0, if_pos hx]
      refine Ev.bind (g := fun k => thresherref11_Recs.f k (rd_T61 l x).f0 (rd_T61 l x).f1 (rd_T61 l x).f2) (Ev.congr (f := fun k => (thresherref3_All.f k (rd_T61 l x).f1).bind fun b => some b.1) (fun k => rfl) (Ev.bind (refall_ev (rd_T61 l x).f1) (Ev.now _))) ?_
      simp only [if_pos (show acc.length + (allrecs (rd_T61 l x).f1).1.length < 4398046511104 by omega)]
      exact ih (j + 1) _ (by omega) (by simp; omega) hr

theorem finds_tail (i : Nat) (hi : i < ids.length) (x5 : Int) (rest : Ev (fun k => thresherlaw12_SplitFinds.l0 k (cfgb sites l again over) (wrap64 ((i : Int) + 1)) sites l again over ids) true) : Ev (fun k => thresherlaw12_SplitFinds.l1 k (cfgb sites l again over) (i : Int) x5 5 sites l again over ids) true := by
  have e : ∀ k, thresherlaw12_SplitFinds.l1 (k + 1) (cfgb sites l again over) (i : Int) x5 5 sites l again over ids = _ := fun k => by rw [thresherlaw12_SplitFinds.l1, if_neg (by decide), w1 (by omega), if_pos (by omega), if_pos (by omega)]
  refine Ev.step e (Ev.bind (recs_ev sites l again over hl hlen ha (ids.take ((i + 1 : Nat) : Int).toNat) (by simp; omega)) ?_)
  by_cases hc : cfgb sites l again over = true
  · simp only [if_pos hc]
    have hlen2 := recsv_len l (ids.take ((i + 1 : Nat) : Int).toNat) []
    rw [hc] at rest ⊢
    refine finds_l2 sites l again over hl hlen ha ids hid hc i hi _ _ ?_ rest (i + 1) 0 [] (by omega) (by simp) (by simp)
    simp only [List.length_nil, List.length_take] at hlen2
    omega
  · simp only [if_neg hc]
    exact finds_j6 sites l again over hl ha ids i [] 1 (by simp) rest

theorem finds_l1 (i : Nat) (hi : i < ids.length) (x5 : Int) (hx : (x5 = -1 ∧ found l (rd ids (i : Int)) = none) ∨ (0 ≤ x5 ∧ x5 < l.length ∧ found l (rd ids (i : Int)) = some (rd_T61 l x5))) (rest : Ev (fun k => thresherlaw12_SplitFinds.l0 k (cfgb sites l again over) (wrap64 ((i : Int) + 1)) sites l again over ids) true) : ∀ (d : Nat) (x10 : Int), x10 + d = 5 → -1 ≤ x10 → Ev (fun k => thresherlaw12_SplitFinds.l1 k (cfgb sites l again over) (i : Int) x5 x10 sites l again over ids) true := by
  intro d
  induction d with
  | zero =>
    intro x10 h5 h1
    rw [show x10 = 5 by omega]
    exact finds_tail sites l again over hl hlen ha ids hid i hi x5 rest
  | succ d ih =>
    intro x10 h5 h1
    have next := ih (x10 + 1) (by omega) (by omega)
    have hw : wrap64 (x10 + 1) = x10 + 1 := by unfold wrap64; omega
    have e : ∀ k, thresherlaw12_SplitFinds.l1 (k + 1) (cfgb sites l again over) (i : Int) x5 x10 sites l again over ids = _ := fun k => by rw [thresherlaw12_SplitFinds.l1, if_pos (show x10 ≤ 4 by omega), if_pos (by omega), if_pos (by omega)]
    refine Ev.step e (Ev.bind (next_ev l hl (by omega) sites again over (rd ids (i : Int)) x10 ha) ?_)
    by_cases hc : cfgb sites l again over = true
    · simp only [if_pos hc]
      have hnum : thresherref0_Num.f x10 sites = some (decide (0 ≤ x10 ∧ x10 ≤ sites)) := by
        unfold thresherref0_Num.f
        by_cases c : x10 ≥ 0
        · rw [if_pos c]
          congr 1
          rw [decide_eq_decide]
          exact ⟨fun h => ⟨c, h⟩, fun h => h.2⟩
        · rw [if_neg c, decide_eq_false (fun h => c h.1)]
      simp only [hnum, Option.bind_some]
      refine finds_j4 sites l again over ids _ i x5 x10 _ _ 1 0 _ ?_ (by rw [hw]; exact next)
      by_cases c : 0 ≤ x10 ∧ x10 ≤ sites
      · refine .inl ⟨decide_eq_true c, ?_⟩
        rcases hx with ⟨rfl, hf⟩ | ⟨h0, h2, hf⟩
        · refine .inr ⟨rfl, ?_⟩
          unfold nextv
          rw [if_pos ⟨hc, c.1, c.2⟩, hf]
          exact ⟨rfl, rfl⟩
        · refine .inl ⟨h0, h2, may_ne (found_may hc hf).2.2, by have := len61 (good61_rd hl h0 h2); omega, ?_⟩
          unfold nextv
          rw [if_pos ⟨hc, c.1, c.2⟩, hf]
          exact ⟨rfl, rfl⟩
      · refine .inr ⟨decide_eq_false c, ?_⟩
        unfold nextv
        rw [if_neg (fun h => c ⟨h.2.1, h.2.2⟩)]
        exact ⟨rfl, rfl⟩
    · simp only [if_neg hc]
      refine finds_j4 sites l again over ids _ i x5 x10 _ _ 1 0 false (.inr ⟨rfl, ?_⟩) (by rw [hw]; exact next)
      unfold nextv
      rw [if_neg (fun h => hc h.1)]
      exact ⟨rfl, rfl⟩

theorem finds_jw (i : Nat) (hi : i < ids.length) (x5 : Int) (hx : (x5 = -1 ∧ found l (rd ids (i : Int)) = none) ∨ (0 ≤ x5 ∧ x5 < l.length ∧ found l (rd ids (i : Int)) = some (rd_T61 l x5))) (rest : Ev (fun k => thresherlaw12_SplitFinds.l0 k (cfgb sites l again over) (wrap64 ((i : Int) + 1)) sites l again over ids) true) (e y0 : Int) (y1 : ByteArray) (y2 : List Int) (hy : y2.length < 17592186044416) : Ev (fun k => thresherlaw12_SplitFinds.jw k (cfgb sites l again over) (i : Int) x5 e e sites l again over ids y0 y1 y2 y0 y1 y2) true := by
  have e1 : ∀ k, thresherlaw12_SplitFinds.jw (k + 1) (cfgb sites l again over) (i : Int) x5 e e sites l again over ids y0 y1 y2 y0 y1 y2 = _ := fun k => by rw [thresherlaw12_SplitFinds.jw, thresherlaw12_num.f, Option.bind_some, if_pos rfl]
  refine Ev.step e1 (Ev.bind (eqsplit_refl y0 y1 y2 (by omega)) ?_)
  have e2 : ∀ k, thresherlaw12_SplitFinds.j2 (k + 1) (cfgb sites l again over) (i : Int) x5 (!true) sites l again over ids y0 y1 y2 = _ := fun k => by rw [thresherlaw12_SplitFinds.j2, if_neg (by decide)]
  exact Ev.step e2 (Ev.bind (numbers_ev y2 hy) (finds_l1 sites l again over hl hlen ha ids hid i hi x5 hx rest 6 (-1) (by decide) (by decide)))

theorem finds_l0 : ∀ (d i : Nat), i + d = 12 → Ev (fun k => thresherlaw12_SplitFinds.l0 k (cfgb sites l again over) (i : Int) sites l again over ids) true := by
  have tail : ∀ i : Int, Ev (fun k => thresherlaw12_SplitFinds.j1 k (cfgb sites l again over) i false sites l again over ids) true := fun i => Ev.step (f := fun k => (thresherlaw12_wakes.f k).bind fun t => some t) (fun k => by rw [thresherlaw12_SplitFinds.j1, if_neg (by decide)]) (Ev.bind wakes_ev (Ev.now _))
  intro d
  induction d with
  | zero =>
    intro i hi
    refine Ev.step (f := fun k => thresherlaw12_SplitFinds.j1 k (cfgb sites l again over) (i : Int) false sites l again over ids) (fun k => ?_) (tail _)
    rw [thresherlaw12_SplitFinds.l0, decide_eq_false (show ¬ (i : Int) < 12 by omega)]
    split <;> rfl
  | succ d ih =>
    intro i hi
    by_cases c1 : (i : Int) < (ids.length : Int)
    case neg => exact Ev.step (f := fun k => thresherlaw12_SplitFinds.j1 k (cfgb sites l again over) (i : Int) false sites l again over ids) (fun k => by rw [thresherlaw12_SplitFinds.l0, if_neg c1]) (tail _)
    have rest : Ev (fun k => thresherlaw12_SplitFinds.l0 k (cfgb sites l again over) (wrap64 ((i : Int) + 1)) sites l again over ids) true := by rw [w1 (by omega)]; exact ih (i + 1) (by omega)
    obtain ⟨x5, h1, hx⟩ := refind_ev l (by omega) sites again over (rd ids (i : Int))
    refine Ev.step (f := fun k => thresherlaw12_SplitFinds.j1 k (cfgb sites l again over) (i : Int) true sites l again over ids) (fun k => by rw [thresherlaw12_SplitFinds.l0, if_pos c1, decide_eq_true (show (i : Int) < 12 by omega)]) ?_
    have e : ∀ k, thresherlaw12_SplitFinds.j1 (k + 1) (cfgb sites l again over) (i : Int) true sites l again over ids = _ := fun k => by rw [thresherlaw12_SplitFinds.j1, if_pos rfl, if_pos (by omega), if_pos c1]
    refine Ev.step e (Ev.bind h1 (Ev.bind (find_ev l hl (by omega) sites again over (rd ids (i : Int)) ha) ?_))
    have jw := fun e y0 y1 y2 hy => finds_jw sites l again over hl hlen ha ids hid i (by omega) x5 hx rest e y0 y1 y2 hy
    by_cases hc : cfgb sites l again over = true
    · simp only [if_pos hc]
      rcases hx with ⟨rfl, hf⟩ | ⟨h0, h2, hf⟩
      · simp only [if_neg (show ¬ ((-1 : Int) ≥ 0) by decide)]
        rw [hf]
        simp only [findv, if_pos hc]
        exact jw 3 0 nobytes [] (by simp)
      · simp only [if_pos (show x5 ≥ 0 from h0), if_pos h0, if_pos h2]
        rw [hf]
        simp only [findv, if_pos hc]
        exact jw 0 _ _ _ (by have := len61' (good61_rd hl h0 h2); omega)
    · simp only [if_neg hc, findv]
      exact jw 1 0 nobytes [] (by simp)
end
end Go.Proofs.Ytgchbhepnfnhpaa.QSplit
