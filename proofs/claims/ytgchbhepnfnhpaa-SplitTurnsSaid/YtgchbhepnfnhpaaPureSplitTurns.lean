/- The law SplitTurns, in plain Lean: by Next, again and again, each site that has a split comes once a turn, and no other does. -/
import Derived.Test.YtgchbhepnfnhpaaPrSplitTurns
import Derived.Test.YtgchbhepnfnhpaaSlSplit
namespace Go.Proofs.Ytgchbhepnfnhpaa.QSplit.Pure
open Go.RowKit Go.Proofs.Ytgchbhepnfnhpaa Go.Proofs.YtgchbhepnfnhpaaW.PrintWords Go.Proofs.YtgchbhepnfnhpaaW.PrintLast Go.Proofs.YtgchbhepnfnhpaaW.PrintMore Go.Proofs.Ytgchbhepnfnhpaa.Math Go.Proofs.Ytgchbhepnfnhpaa.QSplit
set_option linter.unusedVariables false
set_option linter.unusedSimpArgs false

theorem risb_all {l : List Int} {lo hi : Int} : ∀ (d : Nat) (i : Int), risb l lo hi d i = true → ∀ j, i ≤ j → j < i + d → lo ≤ rd l j ∧ rd l j ≤ hi ∧ (0 < j → rd l (j - 1) < rd l j) := by
  intro d
  induction d with
  | zero => intro i h j h0 h1; omega
  | succ d ih =>
    intro i h j h0 h1
    simp only [risb] at h
    by_cases c1 : rd l i < lo
    · rw [if_pos c1] at h
      simp at h
    · rw [if_neg c1] at h
      by_cases c2 : hi < rd l i
      · rw [if_pos c2] at h
        simp at h
      · rw [if_neg c2] at h
        by_cases c3 : 0 < i ∧ rd l (i - 1) ≥ rd l i
        · rw [if_pos c3] at h
          simp at h
        · rw [if_neg c3] at h
          by_cases hj : j = i
          · subst hj
            exact ⟨by omega, by omega, fun h => by
              rcases Int.lt_or_le (rd l (j - 1)) (rd l j) with g | g
              · exact g
              · exact absurd ⟨h, g⟩ c3⟩
          · exact ih (i + 1) h j (by omega) (by omega)
theorem ris_all {l : List Int} {lo hi : Int} (h : ris l lo hi = true) : ∀ j : Int, 0 ≤ j → j < l.length → lo ≤ rd l j ∧ rd l j ≤ hi ∧ (0 < j → rd l (j - 1) < rd l j) := by
  intro j h0 h1
  exact risb_all l.length 0 h j h0 (by omega)
theorem ris_mono {l : List Int} {lo hi : Int} (h : ris l lo hi = true) : ∀ (d : Nat) (i : Int), 0 ≤ i → i + (d : Int) < l.length → 0 < d → rd l i < rd l (i + d) := by
  intro d
  induction d with
  | zero => intro i h0 h1 hd; omega
  | succ d ih =>
    intro i h0 h1 _
    have hs := (ris_all h (i + (d + 1)) (by omega) (by omega)).2.2 (by omega)
    rw [show i + ((d : Int) + 1) - 1 = i + d by omega] at hs
    rw [show i + ((d + 1 : Nat) : Int) = i + ((d : Int) + 1) by omega]
    by_cases hz : d = 0
    · subst hz
      simpa using hs
    · have := ih i h0 (by omega) (by omega)
      omega
theorem ris_lt {l : List Int} {lo hi : Int} (h : ris l lo hi = true) {i j : Int} (h0 : 0 ≤ i) (hij : i < j) (hj : j < l.length) : rd l i < rd l j := by
  have := ris_mono h (j - i).toNat i h0 (by omega) (by omega)
  rw [show i + ((j - i).toNat : Int) = j by omega] at this
  exact this

/-! ### whoever comes behind -/
theorem behindb_skip {l : List Int} {site : Int} : ∀ (m d : Nat) (i : Int), (∀ x, i ≤ x → x < i + m → rd l x ≤ site) → behindb l site (m + d) i = behindb l site d (i + m) := by
  intro m
  induction m with
  | zero => intro d i h; simp
  | succ m ih =>
    intro d i h
    rw [show m + 1 + d = (m + d) + 1 by omega]
    simp only [behindb]
    rw [if_neg (by have := h i (by omega) (by omega); omega), ih d (i + 1) (fun x h0 h1 => h x (by omega) (by omega))]
    congr 1
    omega
theorem behind_first {l : List Int} {hi : Int} (h : ris l 1 hi = true) (hne : 0 < l.length) : behind l 0 = rd l 0 := by
  unfold behind
  obtain ⟨d, hd⟩ : ∃ d, l.length = d + 1 := ⟨l.length - 1, by omega⟩
  rw [hd]
  simp only [behindb]
  have := (ris_all h 0 (by omega) (by omega)).1
  rw [if_pos (by omega)]
theorem behind_next {l : List Int} {hi : Int} (h : ris l 1 hi = true) {j : Int} (h0 : 0 ≤ j) (hj : j + 1 < l.length) : behind l (rd l j) = rd l (j + 1) := by
  unfold behind
  obtain ⟨d, hd⟩ : ∃ d : Nat, l.length = (j + 1).toNat + (d + 1) := ⟨l.length - (j + 1).toNat - 1, by omega⟩
  rw [hd, behindb_skip (j + 1).toNat (d + 1) 0 (fun x hx0 hx1 => ?_)]
  · rw [show (0 : Int) + ((j + 1).toNat : Int) = j + 1 by omega]
    simp only [behindb]
    have := ris_lt h h0 (show j < j + 1 by omega) (by omega)
    rw [if_pos (by omega)]
  · by_cases hx : x = j
    · subst hx
      omega
    · have := ris_lt h hx0 (show x < j by omega) (by omega)
      omega
theorem behind_last {l : List Int} {hi : Int} (h : ris l 1 hi = true) (hne : 0 < l.length) : behind l (rd l ((l.length : Int) - 1)) = rd l 0 := by
  unfold behind
  have hs := behindb_skip (l := l) (site := rd l ((l.length : Int) - 1)) l.length 0 0 (fun x hx0 hx1 => by
    by_cases hx : x = (l.length : Int) - 1
    · subst hx
      omega
    · have := ris_lt h hx0 (show x < (l.length : Int) - 1 by omega) (by omega)
      omega)
  rw [Nat.add_zero] at hs
  rw [hs]
  rfl

/-- The split of an ID is the one that has it. -/
theorem found_at {l : List S61} (h : ris (l.map (·.f0)) 1 1048576 = true) {i : Int} (h0 : 0 ≤ i) (h1 : i < l.length) : found l (rd_T61 l i).f0 = some (rd_T61 l i) := by
  have hl : i.toNat < l.length := by omega
  have hri : rd_T61 l i = l[i.toNat] := by
    unfold rd_T61
    rw [List.getD_eq_getElem?_getD, List.getElem?_eq_getElem hl]
    rfl
  cases hf : found l (rd_T61 l i).f0 with
  | none =>
    have := List.find?_eq_none.1 hf (rd_T61 l i) (by rw [hri]; exact List.getElem_mem hl)
    simp at this
  | some s =>
    have hm := List.mem_of_find?_eq_some hf
    have hp : s.f0 = (rd_T61 l i).f0 := by simpa using List.find?_some hf
    obtain ⟨j, hj, rfl⟩ := List.getElem_of_mem hm
    have hrj : rd_T61 l (j : Int) = l[j] := by
      unfold rd_T61
      rw [Int.toNat_natCast, List.getD_eq_getElem?_getD, List.getElem?_eq_getElem hj]
      rfl
    have e1 := rd_ids (l := l) (i := i) h0 h1
    have e2 := rd_ids (l := l) (i := (j : Int)) (by omega) (by omega)
    have hij : (j : Int) = i := by
      rcases Int.lt_trichotomy (j : Int) i with g | g | g
      · have := ris_lt h (by omega) g (by rw [List.length_map]; omega)
        rw [e1, e2, hrj] at this
        omega
      · exact g
      · have := ris_lt h h0 g (by rw [List.length_map]; omega)
        rw [e1, e2, hrj] at this
        omega
    rw [← hij, hrj]

/-- Who came last, ahead of place k of a turn. -/
def last (l : List Int) (turn k : Int) : Int := if k = 0 then (if turn = 0 then 0 else rd l ((l.length : Int) - 1)) else rd l (k - 1)
theorem behind_turn {l : List Int} {hi : Int} (h : ris l 1 hi = true) {turn k : Int} (hk0 : 0 ≤ k) (hk : k < l.length) : behind l (last l turn k) = rd l k := by
  unfold last
  by_cases c : k = 0
  · subst c
    rw [if_pos rfl]
    by_cases c2 : turn = 0
    · rw [if_pos c2]
      exact behind_first h (by omega)
    · rw [if_neg c2]
      exact behind_last h (by omega)
  · rw [if_neg c, behind_next h (j := k - 1) (by omega) (by omega), show k - 1 + 1 = k by omega]
theorem last_in {l : List Int} {hi : Int} (h : ris l 1 hi = true) (h3 : 0 ≤ hi) {turn k : Int} (hk0 : 0 ≤ k) (hk : k < l.length) : 0 ≤ last l turn k ∧ last l turn k ≤ hi := by
  unfold last
  by_cases c : k = 0
  · subst c
    rw [if_pos rfl]
    by_cases c2 : turn = 0
    · rw [if_pos c2]
      omega
    · rw [if_neg c2]
      have := ris_all h ((l.length : Int) - 1) (by omega) (by omega)
      omega
  · rw [if_neg c]
    have := ris_all h (k - 1) (by omega) (by omega)
    omega

section
variable (l : List S61) (hl : ∀ y ∈ l, Good61 y) (sites again over : Int) (ids : List Int)

theorem turns_l2 (hl : ∀ y ∈ l, Good61 y) (hc : cfgb sites l again over = true) (i turn : Int) (hi0 : 0 ≤ i) (hi : i < l.length) (ht : 0 ≤ turn) (a : Int) (b : ByteArray)
    (rest : Ev (fun k => thresherlaw12_SplitTurns.l1 k i (last (rd_T61 l i).f2 (turn + 1) 0) (wrap64 (turn + 1)) sites l again over ids (rd_T61 l i).f0 (rd_T61 l i).f1 (rd_T61 l i).f2) true) :
    ∀ (d : Nat) (k : Int), 0 ≤ k → k ≤ ((rd_T61 l i).f2).length → ((rd_T61 l i).f2).length - k = d →
      Ev (fun n => thresherlaw12_SplitTurns.l2 n i (if k = ((rd_T61 l i).f2).length then rd (rd_T61 l i).f2 (((rd_T61 l i).f2).length - 1) else last (rd_T61 l i).f2 turn k) turn k sites l again over ids (rd_T61 l i).f0 (rd_T61 l i).f1 (rd_T61 l i).f2) true := by
  have hh : 1 ≤ sites ∧ sites ≤ 3 ∧ l.length ≤ 6 ∧ 1 ≤ again ∧ again ≤ 16 ∧ 16 ≤ over ∧ over ≤ 64 ∧ 2 * again ≤ over := by
    unfold cfgb at hc
    simp only [Bool.and_eq_true] at hc
    simpa [hdb] using hc.1
  have hids : ris (l.map (·.f0)) 1 1048576 = true := by
    unfold cfgb at hc
    simp only [Bool.and_eq_true] at hc
    exact hc.2.2
  have hf := found_at hids hi0 hi
  obtain ⟨_, _, hm⟩ := found_may hc hf
  have hne := may_ne hm
  have hr : ris (rd_T61 l i).f2 1 sites = true := by
    unfold mayb at hm
    simp only [Bool.and_eq_true] at hm
    exact hm.2
  have hlen := len61' (good61_rd hl hi0 hi)
  intro d
  induction d with
  | zero =>
    intro k hk0 hk1 hd
    rw [if_pos (by omega)]
    have e : last (rd_T61 l i).f2 (turn + 1) 0 = rd (rd_T61 l i).f2 (((rd_T61 l i).f2).length - 1) := by
      unfold last
      rw [if_pos rfl, if_neg (by omega)]
    rw [e] at rest
    refine Ev.step (f := fun n => thresherlaw12_SplitTurns.l1 n i (rd (rd_T61 l i).f2 (((rd_T61 l i).f2).length - 1)) (wrap64 (turn + 1)) sites l again over ids (rd_T61 l i).f0 (rd_T61 l i).f1 (rd_T61 l i).f2) (fun n => ?_) rest
    simp only [thresherlaw12_SplitTurns.l2]
    rw [if_neg (by omega)]
  | succ d ih =>
    intro k hk0 hk1 hd
    rw [if_neg (by omega)]
    have hin := last_in (turn := turn) hr (by omega) hk0 (show k < ((rd_T61 l i).f2).length by omega)
    have hb := behind_turn (turn := turn) hr hk0 (show k < ((rd_T61 l i).f2).length by omega)
    generalize hS : last (rd_T61 l i).f2 turn k = site at *
    refine Ev.step (f := fun n => (split_Next.f n sites l again over (rd_T61 l i).f0 site).bind fun b => (if b.2 = 0 then (if b.1 = (rd (rd_T61 l i).f2 k) then (thresherlaw12_SplitTurns.l2 n i b.1 turn (wrap64 (k + 1)) sites l again over ids (rd_T61 l i).f0 (rd_T61 l i).f1 (rd_T61 l i).f2) else (some false)) else (some false))) (fun n => ?_) ?_
    · simp only [thresherlaw12_SplitTurns.l2, thresherlaw12_num.f, Option.bind_some]
      rw [if_pos (by omega)]
      simp only [if_pos hk0]
    · refine Ev.bind (f := fun n (b : Int × Int) => (if b.2 = 0 then (if b.1 = (rd (rd_T61 l i).f2 k) then (thresherlaw12_SplitTurns.l2 n i b.1 turn (wrap64 (k + 1)) sites l again over ids (rd_T61 l i).f0 (rd_T61 l i).f1 (rd_T61 l i).f2) else (some false)) else (some false))) (next_ev l hl (by omega) sites again over _ site (by omega)) ?_
      rw [hf]
      unfold nextv
      rw [if_pos ⟨hc, hin⟩]
      refine evPos rfl (evPos hb ?_)
      have hn := ih (k + 1) (by omega) (by omega) (by omega)
      rw [w64 (by omega) (by omega)]
      have e : (if k + 1 = ((rd_T61 l i).f2).length then rd (rd_T61 l i).f2 (((rd_T61 l i).f2).length - 1) else last (rd_T61 l i).f2 turn (k + 1)) = behind (rd_T61 l i).f2 site := by
        rw [hb]
        by_cases c : k + 1 = ((rd_T61 l i).f2).length
        · rw [if_pos c]
          congr 1
          omega
        · rw [if_neg c]
          unfold last
          rw [if_neg (by omega), show k + 1 - 1 = k by omega]
      rw [e] at hn
      exact hn
theorem turns_l1 (hl : ∀ y ∈ l, Good61 y) (hc : cfgb sites l again over = true) (i : Int) (hi0 : 0 ≤ i) (hi : i < l.length)
    (rest : Ev (fun k => thresherlaw12_SplitTurns.l0 k (wrap64 (i + 1)) sites l again over ids) true) :
    ∀ (d : Nat) (turn : Int), 0 ≤ turn → turn ≤ 3 → 3 - turn = d → Ev (fun k => thresherlaw12_SplitTurns.l1 k i (last (rd_T61 l i).f2 turn 0) turn sites l again over ids (rd_T61 l i).f0 (rd_T61 l i).f1 (rd_T61 l i).f2) true := by
  intro d
  induction d with
  | zero =>
    intro turn h0 h1 hd
    refine Ev.step (f := fun k => thresherlaw12_SplitTurns.l0 k (wrap64 (i + 1)) sites l again over ids) (fun k => ?_) rest
    simp only [thresherlaw12_SplitTurns.l1]
    rw [if_neg (by omega)]
  | succ d ih =>
    intro turn h0 h1 hd
    have hids : ris (l.map (·.f0)) 1 1048576 = true := by
      unfold cfgb at hc
      simp only [Bool.and_eq_true] at hc
      exact hc.2.2
    obtain ⟨_, _, hm⟩ := found_may hc (found_at hids hi0 hi)
    have hne := may_ne hm
    refine Ev.step (f := fun k => thresherlaw12_SplitTurns.l2 k i (last (rd_T61 l i).f2 turn 0) turn 0 sites l again over ids (rd_T61 l i).f0 (rd_T61 l i).f1 (rd_T61 l i).f2) (fun k => ?_) ?_
    · simp only [thresherlaw12_SplitTurns.l1]
      rw [if_pos (by omega)]
    · have h := turns_l2 l sites again over ids hl hc i turn hi0 hi h0 0 nobytes (by rw [w64 (by omega) (by omega)]; exact ih (turn + 1) (by omega) (by omega) (by omega)) ((rd_T61 l i).f2).length 0 (by omega) (by omega) (by omega)
      rw [if_neg (by omega)] at h
      exact h
theorem turns_l0 (hl : ∀ y ∈ l, Good61 y) (hc : cfgb sites l again over = true) (h6 : l.length ≤ 6) : ∀ (d : Nat) (i : Int), 0 ≤ i → i ≤ l.length → l.length - i = d → Ev (fun k => thresherlaw12_SplitTurns.l0 k i sites l again over ids) true := by
  intro d
  induction d with
  | zero =>
    intro i h0 h1 hd
    refine Ev.step (f := fun k => (thresherlaw12_wakes.f k).bind fun t => some t) (fun k => ?_) (Ev.bind (f := fun _ t => some t) wakes_ev (Ev.now _))
    simp only [thresherlaw12_SplitTurns.l0]
    rw [if_neg (by omega)]
  | succ d ih =>
    intro i h0 h1 hd
    refine Ev.step (f := fun k => thresherlaw12_SplitTurns.l1 k i 0 0 sites l again over ids (rd_T61 l i).f0 (rd_T61 l i).f1 (rd_T61 l i).f2) (fun k => ?_) ?_
    · simp only [thresherlaw12_SplitTurns.l0]
      rw [if_pos (by omega), if_pos h0]
    · have h := turns_l1 l sites again over ids hl hc i h0 (by omega) (by rw [w64 (by omega) (by omega)]; exact ih (i + 1) (by omega) (by omega) (by omega)) 3 0 (by omega) (by omega) (by omega)
      exact h
end

theorem SplitTurns : SplitTurnsPure := by
  intro sites l again over ids hsi hl hag hov hid
  have ha := wf_i64 hag
  obtain ⟨b, hb, hb'⟩ := heavy_ev l hl.2.2 (by have := hl.2.1; omega) sites again over ids
  refine Ev.rounds (g := fun k => thresherlaw12_SplitTurns.f k sites l again over ids) ?_
  have hyes : Ev (fun k => thresherlaw12_SplitTurns.j0 k true sites l again over ids) true := by
    refine Ev.step (f := fun _ => some true) (fun k => ?_) (Ev.now _)
    simp only [thresherlaw12_SplitTurns.j0, if_true]
  unfold thresherlaw12_SplitTurns.f
  refine Ev.bind (f := fun k (t : Bool) => (if t = true then (thresherlaw12_SplitTurns.j0 k true sites l again over ids) else ((thresherref11_Config.f k sites l again over).bind fun c => (thresherlaw12_SplitTurns.j0 k (!c) sites l again over ids)))) hb ?_
  cases b with
  | true => exact evPos rfl hyes
  | false =>
    refine evNeg (by decide) ?_
    refine Ev.bind (f := fun k (c : Bool) => (thresherlaw12_SplitTurns.j0 k (!c) sites l again over ids)) (config_ev l hl.2.2 sites again over ha) ?_
    cases hc : cfgb sites l again over with
    | false => exact hyes
    | true =>
      have h6 : l.length ≤ 6 := by
        unfold cfgb at hc
        simp only [Bool.and_eq_true] at hc
        have hh : 1 ≤ sites ∧ sites ≤ 3 ∧ l.length ≤ 6 ∧ 1 ≤ again ∧ again ≤ 16 ∧ 16 ≤ over ∧ over ≤ 64 ∧ 2 * again ≤ over := by simpa [hdb] using hc.1
        exact hh.2.2.1
      refine Ev.step (f := fun k => thresherlaw12_SplitTurns.l0 k 0 sites l again over ids) (fun k => ?_) (turns_l0 l sites again over ids hl.2.2 hc h6 l.length 0 (by omega) (by omega) (by omega))
      simp only [thresherlaw12_SplitTurns.j0]
      rw [if_neg (by decide)]
end Go.Proofs.Ytgchbhepnfnhpaa.QSplit.Pure
