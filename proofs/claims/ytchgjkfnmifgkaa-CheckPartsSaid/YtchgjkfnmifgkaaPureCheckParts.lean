/- Two programs, one behind the other: what comes of them is told by what each takes and leaves. -/
import Derived.Test.YtchgjkfnmifgkaaPartsLaw
import Derived.Test.YtchgjkfnmifgkaaPrCheckParts
namespace Go.Proofs.Ytchgjkfnmifgkaa.QE
open Go.RowKit Go.Proofs.YtchgjkfnmifgkaaW.PrintWords Go.Proofs.YtchgjkfnmifgkaaW.PrintLast Go.Proofs.YtchgjkfnmifgkaaW.PrintMore
set_option linter.unusedVariables false
set_option linter.unusedSimpArgs false

/-- What check.Need answers of ops that may be. -/
theorem need_ev {l : List S34} (hf : Fits l) (ht : Tr l) (hl : l.length < 140737488355328) : ∃ e n m, Ev (fun k => check_block.f k 0 0 0 l) (e, n, m) ∧ ((e = 0 ∧ 0 ≤ n ∧ n ≤ m ∧ m ≤ 16) ∨ e = 9) ∧ Ev (fun k => check_Need.f k l) (if e = 0 then (n, m, 0) else (0, 0, 9)) := by
  obtain ⟨c, hc, h | h⟩ := lang_check_ev ht hl
  · obtain ⟨rfl, _⟩ := h
    obtain ⟨s, hs, hs2⟩ := hf
    obtain ⟨e, n, m, hev, hp, _⟩ := cb_runs hs ht hl 0 0 0 (by omega) (by omega) (by omega) (by omega)
    refine ⟨e, n, m, hev, ?_, ?_⟩
    · rcases hp with ⟨rfl, h1, h2, h3, h4⟩ | h
      · exact .inl ⟨rfl, by omega, by omega, by omega⟩
      · exact .inr h
    · refine Ev.congr (f := fun k => (lang_Check.f k l).bind fun e => if e = 0 then (check_block.f k 0 0 0 l).bind fun r => (if r.1 = 0 then some (r.2.1, r.2.2, 0) else some (0, 0, r.1)) else some (0, 0, e)) (fun k => rfl) (Ev.bind (a := 0) hc ?_)
      refine Ev.bind (a := (e, n, m)) hev ?_
      rcases hp with ⟨rfl, h1, h2, h3, h4⟩ | rfl
      · simpa using Ev.now _
      · simpa using Ev.now _
  · exact absurd hf h.2

theorem parts_ev {xs ys : List S34} (hf : Fits (xs ++ ys)) (htx : Tr xs) (hty : Tr ys) (ht : Tr (xs ++ ys)) (hl : (xs ++ ys).length < 140737488355328) {a m b n : Int} (h1 : Ev (fun k => check_Need.f k xs) (a, m, 0)) (h2 : Ev (fun k => check_Need.f k ys) (b, n, 0)) :
    (0 ≤ a ∧ a ≤ m ∧ m ≤ 16 ∧ 0 ≤ b ∧ b ≤ n ∧ n ≤ 16) ∧ Ev (fun k => check_Need.f k (xs ++ ys)) (if a + n ≤ 16 then (a + b, mx m (n + a), 0) else (0, 0, 9)) := by
  have hlx : xs.length < 140737488355328 := by simp at hl; omega
  have hly : ys.length < 140737488355328 := by simp at hl; omega
  obtain ⟨e1, a', m', hb1, hp1, hn1⟩ := need_ev hf.left htx hlx
  have q1 := Ev.same h1 hn1
  obtain ⟨e2, b', n', hb2, hp2, hn2⟩ := need_ev hf.right hty hly
  have q2 := Ev.same h2 hn2
  obtain ⟨e3, c, o, hb3, hp3, hn3⟩ := need_ev hf ht hl
  rcases hp1 with ⟨rfl, x1, x2, x3⟩ | rfl
  case inr => simp at q1
  rcases hp2 with ⟨rfl, y1, y2, y3⟩ | rfl
  case inr => simp at q2
  simp only [if_pos, Prod.mk.injEq, and_true] at q1 q2
  obtain ⟨rfl, rfl⟩ := q1
  obtain ⟨rfl, rfl⟩ := q2
  obtain ⟨s, hs, _⟩ := hf.right
  obtain ⟨e4, b4, n4, hb4, hp4, hsh⟩ := cb_runs hs hty hly 0 0 0 (by omega) (by omega) (by omega) (by omega)
  have q4 := Ev.same hb2 hb4
  simp only [Prod.mk.injEq] at q4
  obtain ⟨rfl, rfl, rfl⟩ := q4
  have sh := hsh rfl a 0 m (by omega) (by omega) (by omega) (by omega) (by omega)
  have hmx := mx_eq m (0 + a)
  have hmm : mx m (0 + a) = m := by omega
  rw [hmm, show (0 : Int) + a = a by omega] at sh
  refine ⟨⟨by omega, by omega, by omega, by omega, by omega, by omega⟩, ?_⟩
  by_cases c16 : a + n ≤ 16
  · rw [if_pos c16]
    obtain ⟨j, hj⟩ := Ev.rounds (sh.1 (by omega))
    obtain ⟨k, hk⟩ := Ev.rounds hb1
    obtain ⟨K, hK⟩ := cb_app ys _ j k xs 0 0 0 0 a m hl hk (fun _ => hj)
    rw [if_pos rfl] at hK
    have := Ev.same hb3 (Ev.of (g := fun k => check_block.f k 0 0 0 (xs ++ ys)) (fun k => check_block.mono_l k 0 0 0 _) hK)
    simp only [Prod.mk.injEq] at this
    obtain ⟨rfl, rfl, rfl⟩ := this
    rw [if_pos rfl, Int.add_comm b a] at hn3
    exact hn3
  · rw [if_neg c16]
    obtain ⟨p, q, hpq⟩ := sh.2 (by omega)
    obtain ⟨j, hj⟩ := Ev.rounds hpq
    obtain ⟨k, hk⟩ := Ev.rounds hb1
    obtain ⟨K, hK⟩ := cb_app ys _ j k xs 0 0 0 0 a m hl hk (fun _ => hj)
    rw [if_pos rfl] at hK
    have := Ev.same hb3 (Ev.of (g := fun k => check_block.f k 0 0 0 (xs ++ ys)) (fun k => check_block.mono_l k 0 0 0 _) hK)
    simp only [Prod.mk.injEq] at this
    obtain ⟨rfl, rfl, rfl⟩ := this
    rw [if_neg (by decide)] at hn3
    exact hn3

theorem tw_ev : ∀ (xs S : List ByteArray) (i : Nat) (acc : Int), S.drop i = xs → S.length < 140737488355328 → ∃ c, Ev (fun k => thresherlaw0_TextWeight.l0 k S acc (i : Int)) c
  | [], S, i, acc, h, hl => by
    have hi : S.length ≤ i := by simpa using List.drop_eq_nil_iff.mp h
    exact ⟨acc, Ev.step (f := fun _ => some acc) (fun k => by rw [thresherlaw0_TextWeight.l0, if_neg (by omega)]) (Ev.now _)⟩
  | x :: xs, S, i, acc, h, hl => by
    have hi : i < S.length := by
      rcases Nat.lt_or_ge i S.length with h1 | h1
      · exact h1
      · rw [List.drop_eq_nil_of_le h1] at h; simp at h
    have h2 : S.drop (i + 1) = xs := by
      rw [List.drop_eq_getElem_cons hi] at h
      simp only [List.cons.injEq] at h
      exact h.2
    have hi1 : wrap64 ((i : Int) + 1) = ((i + 1 : Nat) : Int) := by unfold wrap64; omega
    by_cases c : acc < 1048576
    · obtain ⟨r, hr⟩ := tw_ev xs S (i + 1) (wrap64 (acc + ((rdOf ByteArray.empty S (i : Int)).size : Int))) h2 hl
      exact ⟨r, Ev.step (fun k => by rw [thresherlaw0_TextWeight.l0, if_pos (by omega), if_pos c, if_pos (by omega), hi1]) hr⟩
    · exact ⟨acc, Ev.step (f := fun _ => some acc) (fun k => by rw [thresherlaw0_TextWeight.l0, if_pos (by omega), if_neg c]) (Ev.now _)⟩

theorem ow_ev {xs : List S34} (h : Tr xs) : ∀ (L : List S34) (i : Nat) (a acc : Int), L.drop i = xs → L.length < 140737488355328 → ∃ c, Ev (fun k => thresherlaw0_OpsWeight.l0 k L a acc (i : Int)) c := by
  induction h with
  | nil =>
    intro L i a acc h hl
    have hi : L.length ≤ i := by simpa using List.drop_eq_nil_iff.mp h
    exact ⟨acc, Ev.step (f := fun _ => some acc) (fun k => by rw [thresherlaw0_OpsWeight.l0, if_neg (by omega)]) (Ev.now _)⟩
  | @cons x xs hl2 hb hs ihb ihs =>
    intro L i a acc h hl
    have hi : i < L.length := by
      rcases Nat.lt_or_ge i L.length with h1 | h1
      · exact h1
      · rw [List.drop_eq_nil_of_le h1] at h; simp at h
    have hx : rd_T34 L (i : Int) = x := by
      unfold rd_T34
      rw [List.getD_eq_getElem?_getD]
      rw [List.drop_eq_getElem_cons hi] at h
      simp only [List.cons.injEq] at h
      simp [hi, h.1]
    have h2 : L.drop (i + 1) = xs := by
      rw [List.drop_eq_getElem_cons hi] at h
      simp only [List.cons.injEq] at h
      exact h.2
    have hi1 : wrap64 ((i : Int) + 1) = ((i + 1 : Nat) : Int) := by unfold wrap64; omega
    by_cases c : acc < 1048576
    · have hf : ∃ t, Ev (fun k => thresherlaw0_OpsWeight.f k x.f2 (wrap64 (a - 1))) t := by
        by_cases c0 : wrap64 (a - 1) = 0
        · exact ⟨1048576, Ev.step (f := fun _ => some 1048576) (fun k => by rw [thresherlaw0_OpsWeight.f, if_pos c0]) (Ev.now _)⟩
        · obtain ⟨t, ht⟩ := ihb x.f2 0 (wrap64 (a - 1)) (x.f2.length : Int) rfl hl2
          exact ⟨t, Ev.step (f := fun k => thresherlaw0_OpsWeight.l0 k x.f2 (wrap64 (a - 1)) (x.f2.length : Int) ((0 : Nat) : Int)) (fun k => by rw [thresherlaw0_OpsWeight.f, if_neg c0]; rfl) ht⟩
      obtain ⟨t, ht⟩ := hf
      obtain ⟨r, hr⟩ := ihs L (i + 1) a (wrap64 (acc + t)) h2 hl
      exact ⟨r, Ev.step (f := fun k => (thresherlaw0_OpsWeight.f k x.f2 (wrap64 (a - 1))).bind fun t => thresherlaw0_OpsWeight.l0 k L a (wrap64 (acc + t)) ((i + 1 : Nat) : Int)) (fun k => by rw [thresherlaw0_OpsWeight.l0, if_pos (by omega), if_pos c, if_pos (by omega), hx, hi1]) (Ev.bind (a := t) ht hr)⟩
    · exact ⟨acc, Ev.step (f := fun _ => some acc) (fun k => by rw [thresherlaw0_OpsWeight.l0, if_pos (by omega), if_neg c]) (Ev.now _)⟩

theorem heavy_ev {S : List ByteArray} {L : List S34} (ht : Tr L) (hl : L.length < 140737488355328) (hs : S.length < 140737488355328) : ∃ h, Ev (fun k => thresherlaw6_Heavy.f k S L) h := by
  obtain ⟨t, h1⟩ := tw_ev S S 0 (S.length : Int) rfl hs
  obtain ⟨o, h2⟩ := ow_ev ht L 0 12 (L.length : Int) rfl hl
  have h3 : Ev (fun k => thresherlaw0_OpsWeight.f k L 12) o := Ev.step (f := fun k => thresherlaw0_OpsWeight.l0 k L 12 (L.length : Int) ((0 : Nat) : Int)) (fun k => by rw [thresherlaw0_OpsWeight.f, if_neg (by decide)]; rfl) h2
  by_cases c : t > 6000
  · exact ⟨true, Ev.congr (f := fun k => (thresherlaw0_TextWeight.f k S).bind fun t => if t > 6000 then some true else (thresherlaw0_OpsWeight.f k L 12).bind fun o => some (decide (o > 1000))) (fun k => rfl) (Ev.bind (a := t) h1 (by simp only [if_pos c]; exact Ev.now _))⟩
  · exact ⟨decide (o > 1000), Ev.congr (f := fun k => (thresherlaw0_TextWeight.f k S).bind fun t => if t > 6000 then some true else (thresherlaw0_OpsWeight.f k L 12).bind fun o => some (decide (o > 1000))) (fun k => rfl) (Ev.bind (a := t) h1 (by simp only [if_neg c]; exact Ev.bind (a := o) h3 (Ev.now _)))⟩


theorem wrong_ev : Ev (fun k => thresherlaw7_CheckParts.l1 k (([(([(⟨5, 0, ([] : List (S34))⟩ : S34)] : List (S34))), (([(⟨4, 0, ([] : List (S34))⟩ : S34), (⟨28, 0, (([(⟨4, 0, ([] : List (S34))⟩ : S34)] : List (S34)))⟩ : S34)] : List (S34))), (([(⟨4, 0, ([] : List (S34))⟩ : S34), (⟨4, 0, ([] : List (S34))⟩ : S34), (⟨28, 0, (([(⟨27, 0, ([] : List (S34))⟩ : S34), (⟨4, 0, ([] : List (S34))⟩ : S34)] : List (S34)))⟩ : S34)] : List (S34))), (([(⟨26, 0, ([] : List (S34))⟩ : S34)] : List (S34))), (([(⟨4, 0, ([] : List (S34))⟩ : S34), (⟨30, 0, ([] : List (S34))⟩ : S34)] : List (S34)))] : List (List (S34)))) 0) true :=
  Ev.of (fun k => (thresherlaw7_CheckParts.mono_l k).2.2.2 _ _) (k := 60) (by decide +kernel)

theorem j1_end (fits : Bool) (i : Int) (S : List ByteArray) (L : List S34) : Ev (fun k => thresherlaw7_CheckParts.j1 k fits i false S L) true :=
  Ev.step (fun k => by rw [thresherlaw7_CheckParts.j1, if_neg (by decide)]) wrong_ev

theorem Tr.parts {ys : List S34} : ∀ {xs : List S34}, Tr (xs ++ ys) → Tr xs ∧ Tr ys
  | [], h => ⟨.nil, h⟩
  | x :: xs, h => by
    cases h with
    | cons hl hb hs => exact ⟨.cons hl hb (Tr.parts hs).1, (Tr.parts hs).2⟩

theorem l0_ev (S : List ByteArray) (L : List S34) (hf : Fits L) (ht : Tr L) (hl : L.length < 140737488355328) : ∀ (dd i : Nat), i + dd = 40 → Ev (fun k => thresherlaw7_CheckParts.l0 k true (i : Int) S L) true := by
  intro dd
  induction dd with
  | zero =>
    intro i hi
    refine Ev.step (f := fun k => thresherlaw7_CheckParts.j1 k true (i : Int) false S L) (fun k => ?_) (j1_end _ _ _ _)
    rw [thresherlaw7_CheckParts.l0, if_neg (show ¬ (i : Int) < 40 by omega)]
    split <;> rfl
  | succ dd ih =>
    intro i hi
    by_cases c1 : (i : Int) ≤ (L.length : Int)
    case neg =>
      exact Ev.step (f := fun k => thresherlaw7_CheckParts.j1 k true (i : Int) false S L) (fun k => by rw [thresherlaw7_CheckParts.l0, if_neg c1]) (j1_end _ _ _ _)
    have hn : Ev (fun k => thresherlaw7_CheckParts.l0 k true (wrap64 ((i : Int) + 1)) S L) true := by
      have h1 : wrap64 ((i : Int) + 1) = ((i + 1 : Nat) : Int) := by unfold wrap64; omega
      rw [h1]
      exact ih (i + 1) (by omega)
    have e0 : L.take i ++ L.drop i = L := List.take_append_drop i L
    have hf' : Fits (L.take i ++ L.drop i) := by rw [e0]; exact hf
    have ht' : Tr (L.take i ++ L.drop i) := by rw [e0]; exact ht
    have hl' : (L.take i ++ L.drop i).length < 140737488355328 := by rw [e0]; exact hl
    have hlx : (L.take i).length < 140737488355328 := by simp at hl' ⊢; omega
    have hly : (L.drop i).length < 140737488355328 := by simp at hl' ⊢; omega
    obtain ⟨e1, a, m, _, hp1, hn1⟩ := need_ev hf'.left ht'.parts.1 hlx
    obtain ⟨e2, b, n, _, hp2, hn2⟩ := need_ev hf'.right ht'.parts.2 hly
    have j2_true : ∀ p q r s, Ev (fun k => thresherlaw7_CheckParts.j2 k true (i : Int) p q r s true S L) true := fun p q r s =>
      Ev.step (fun k => by rw [thresherlaw7_CheckParts.j2, if_pos rfl]) hn
    refine Ev.step (f := fun k => thresherlaw7_CheckParts.j1 k true (i : Int) true S L) (fun k => by rw [thresherlaw7_CheckParts.l0, if_pos c1, if_pos (by omega)]) ?_
    refine Ev.step (f := fun k => (check_Need.f k (L.take i)).bind fun x => (check_Need.f k (L.drop i)).bind fun y => (thresherlaw7_num.f x.2.2).bind fun t => if t = 0 then ((thresherlaw7_num.f y.2.2).bind fun u => thresherlaw7_CheckParts.j2 k true (i : Int) x.1 x.2.1 y.1 y.2.1 (u != 0) S L) else thresherlaw7_CheckParts.j2 k true (i : Int) x.1 x.2.1 y.1 y.2.1 true S L) (fun k => by rw [thresherlaw7_CheckParts.j1, if_pos rfl, if_pos (by omega), if_pos c1, Int.toNat_natCast]) ?_
    refine Ev.bind hn1 (Ev.bind hn2 ?_)
    rcases hp1 with ⟨rfl, x1, x2, x3⟩ | rfl
    case inr => simpa [thresherlaw7_num.f] using j2_true _ _ _ _
    rcases hp2 with ⟨rfl, y1, y2, y3⟩ | rfl
    case inr => simpa [thresherlaw7_num.f] using j2_true _ _ _ _
    rw [if_pos rfl] at hn1 hn2
    obtain ⟨hb, hn3⟩ := parts_ev hf' ht'.parts.1 ht'.parts.2 ht' hl' hn1 hn2
    rw [e0] at hn3
    have main : Ev (fun k => thresherlaw7_CheckParts.j2 k true (i : Int) a m b n false S L) true := by
      have w1 : wrap64 (a + n) = a + n := by unfold wrap64; omega
      have w2 : wrap64 (a + b) = a + b := by unfold wrap64; omega
      refine Ev.step (f := fun k => (check_Need.f k L).bind fun z => if a + n > 16 then ((thresherlaw7_num.f z.2.2).bind fun t => if t = 9 then thresherlaw7_CheckParts.l0 k true (wrap64 ((i : Int) + 1)) S L else some false) else ((thresherlaw7_num.f z.2.2).bind fun t => if t = 0 then (if z.1 = a + b then (if z.2.1 = mx m (a + n) then (if a < 0 then some false else (if m < a then some false else thresherlaw7_CheckParts.l0 k true (wrap64 ((i : Int) + 1)) S L)) else some false) else some false) else some false)) (fun k => by rw [thresherlaw7_CheckParts.j2, if_neg (by decide)]; simp only [w1, w2]) ?_
      refine Ev.bind hn3 ?_
      by_cases c16 : a + n ≤ 16
      · have c17 : ¬ a + n > 16 := by omega
        have c18 : ¬ a < 0 := by omega
        have c19 : ¬ m < a := by omega
        simpa [thresherlaw7_num.f, c16, c17, c18, c19, Int.add_comm n a] using hn
      · have c17 : a + n > 16 := by omega
        simpa [thresherlaw7_num.f, c16, c17] using hn
    simpa [thresherlaw7_num.f] using main
end Go.Proofs.Ytchgjkfnmifgkaa.QE
namespace Go.Proofs.Ytchgjkfnmifgkaa.QE.Pure
open Go.RowKit Go.Proofs.YtchgjkfnmifgkaaW.PrintWords Go.Proofs.YtchgjkfnmifgkaaW.PrintLast Go.Proofs.YtchgjkfnmifgkaaW.PrintMore
theorem CheckParts : CheckPartsPure := by
  intro S L hS hL
  have ht := Tr.of_good hL.2.2
  have hl : L.length < 140737488355328 := by have := hL.2.1; omega
  have hs : S.length < 140737488355328 := by have := hS.2.1; omega
  obtain ⟨m, ok, h1, h2⟩ := ops_ev ht hl
  obtain ⟨hv, h3⟩ := heavy_ev (S := S) ht hl hs
  have h4 : hv = false → Ev (fun k => thresherlaw7_CheckParts.l0 k ok 0 S L) true := by
    intro _
    cases ok with
    | true => exact l0_ev S L (h2.mp rfl) ht hl 40 0 rfl
    | false =>
      refine Ev.step (f := fun k => thresherlaw7_CheckParts.j1 k false 0 false S L) (fun k => ?_) (j1_end _ _ _ _)
      rw [thresherlaw7_CheckParts.l0]
      split <;> rfl
  refine Ev.rounds (g := fun k => thresherlaw7_CheckParts.f k S L) ?_
  refine Ev.congr (f := fun k => (thresherref6_Ops.f k L).bind fun b => (thresherlaw6_Heavy.f k S L).bind fun t => if t = true then some true else thresherlaw7_CheckParts.l0 k b.2 0 S L) (fun k => rfl) (Ev.bind h1 (Ev.bind h3 ?_))
  cases hv with
  | true => simpa using Ev.now _
  | false => simpa using h4 rfl
end Go.Proofs.Ytchgjkfnmifgkaa.QE.Pure
