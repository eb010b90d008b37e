/- Whether what came in is too much to be played: it is told in the end. -/
import Derived.Test.YtchgjkfnmifgkaaEvLaws
namespace Go.Proofs.Ytchgjkfnmifgkaa.QE
open Go.RowKit Go.Proofs.YtchgjkfnmifgkaaW.PrintWords Go.Proofs.YtchgjkfnmifgkaaW.PrintLast Go.Proofs.YtchgjkfnmifgkaaW.PrintMore
set_option linter.unusedVariables false
set_option linter.unusedSimpArgs false

theorem tw_ev : ∀ (xs S : List ByteArray) (i : Nat) (acc : Int), S.drop i = xs → S.length < 140737488355328 → ∃ c, Ev (fun k => thresherlaw0_TextWeight.l0 k S acc (i : Int)) c
 | [], S, i, acc, h, hl => by
  have hi : S.length ≤ i := by simpa using List.drop_eq_nil_iff.mp h
  exact ⟨acc, Ev.step (f := fun _ => some acc) (fun k => by rw [thresherlaw0_TextWeight.l0, if_neg (by omega)]) (Ev.now _)⟩
 | x :: xs, S, i, acc, h, hl => by
  have hi : i < S.length := by
   rcases Nat.lt_or_ge i S.length with h1 | h1
   ·
    exact h1
   ·
    rw [List.drop_eq_nil_of_le h1] at h; simp at h
  have h2 : S.drop (i + 1) = xs := by
   rw [List.drop_eq_getElem_cons hi] at h
   simp only [List.cons.injEq] at h
   exact h.2
  have hi1 : wrap64 ((i : Int) + 1) = ((i + 1 : Nat) : Int) := by unfold wrap64; omega
  by_cases c : acc < 1048576
  ·
   obtain ⟨r, hr⟩ := tw_ev xs S (i + 1) (wrap64 (acc + ((rdOf ByteArray.empty S (i : Int)).size : Int))) h2 hl
   exact ⟨r, Ev.step (fun k => by rw [thresherlaw0_TextWeight.l0, if_pos (by omega), if_pos c, if_pos (by omega), hi1]) hr⟩
  ·
   exact ⟨acc, Ev.step (f := fun _ => some acc) (fun k => by rw [thresherlaw0_TextWeight.l0, if_pos (by omega), if_neg c]) (Ev.now _)⟩

theorem ow_ev {xs : List S34} (h : Tr xs) : ∀ (L : List S34) (i : Nat) (a acc : Int), L.drop i = xs → L.length < 140737488355328 → ∃ c, Ev (fun k => thresherlaw0_OpsWeight.l0 k L a acc (i : Int)) c := by
 induction h with
 | nil =>
  intro L i a acc h hl
  have hi : L.length ≤ i := by simpa using List.drop_eq_nil_iff.mp h
  exact ⟨acc, Ev.step (f := fun _ => some acc) (fun k => by rw [thresherlaw0_OpsWeight.l0, if_neg (by omega)]) (Ev.now _)⟩
 | @cons x xs hl2 hb hs ihb ihs =>
  intro L i a acc h hl
  have hi : i < L.length := by
   rcases Nat.lt_or_ge i L.length with h1 | h1
   ·
    exact h1
   ·
    rw [List.drop_eq_nil_of_le h1] at h; simp at h
  have hx : rd_T34 L (i : Int) = x := by
   unfold rd_T34
   rw [List.getD_eq_getElem?_getD]
   rw [List.drop_eq_getElem_cons hi] at h
   simp only [List.cons.injEq] at h
   simp [hi, h.1]
  have h2 : L.drop (i + 1) = xs := by
   rw [List.drop_eq_getElem_cons hi] at h
   simp only [List.cons.injEq] at h
   exact h.2
  have hi1 : wrap64 ((i : Int) + 1) = ((i + 1 : Nat) : Int) := by unfold wrap64; omega
  by_cases c : acc < 1048576
  ·
   have hf : ∃ t, Ev (fun k => thresherlaw0_OpsWeight.f k x.f2 (wrap64 (a - 1))) t := by
    by_cases c0 : wrap64 (a - 1) = 0
    ·
     exact ⟨1048576, Ev.step (f := fun _ => some 1048576) (fun k => by rw [thresherlaw0_OpsWeight.f, if_pos c0]) (Ev.now _)⟩
    ·
     obtain ⟨t, ht⟩ := ihb x.f2 0 (wrap64 (a - 1)) (x.f2.length : Int) rfl hl2
     exact ⟨t, Ev.step (f := fun k => thresherlaw0_OpsWeight.l0 k x.f2 (wrap64 (a - 1)) (x.f2.length : Int) ((0 : Nat) : Int)) (fun k => by rw [thresherlaw0_OpsWeight.f, if_neg c0]; rfl) ht⟩
   obtain ⟨t, ht⟩ := hf
   obtain ⟨r, hr⟩ := ihs L (i + 1) a (wrap64 (acc + t)) h2 hl
   exact ⟨r, Ev.step (f := fun k => (thresherlaw0_OpsWeight.f k x.f2 (wrap64 (a - 1))).bind fun t => thresherlaw0_OpsWeight.l0 k L a (wrap64 (acc + t)) ((i + 1 : Nat) : Int)) (fun k => by rw [thresherlaw0_OpsWeight.l0, if_pos (by omega), if_pos c, if_pos (by omega), hx, hi1]) (Ev.bind (a := t) ht hr)⟩
  ·
   exact ⟨acc, Ev.step (f := fun _ => some acc) (fun k => by rw [thresherlaw0_OpsWeight.l0, if_pos (by omega), if_neg c]) (Ev.now _)⟩

theorem heavy_ev {S : List ByteArray} {L : List S34} (ht : Tr L) (hl : L.length < 140737488355328) (hs : S.length < 140737488355328) : ∃ h, Ev (fun k => thresherlaw6_Heavy.f k S L) h := by
 obtain ⟨t, h1⟩ := tw_ev S S 0 (S.length : Int) rfl hs
 obtain ⟨o, h2⟩ := ow_ev ht L 0 12 (L.length : Int) rfl hl
 have h3 : Ev (fun k => thresherlaw0_OpsWeight.f k L 12) o := Ev.step (f := fun k => thresherlaw0_OpsWeight.l0 k L 12 (L.length : Int) ((0 : Nat) : Int)) (fun k => by rw [thresherlaw0_OpsWeight.f, if_neg (by decide)]; rfl) h2
 by_cases c : t > 6000
 ·
  exact ⟨true, Ev.congr (f := fun k => (thresherlaw0_TextWeight.f k S).bind fun t => if t > 6000 then some true else (thresherlaw0_OpsWeight.f k L 12).bind fun o => some (decide (o > 1000))) (fun k => rfl) (Ev.bind (a := t) h1 (by simp only [if_pos c]; exact Ev.now _))⟩
 ·
  exact ⟨decide (o > 1000), Ev.congr (f := fun k => (thresherlaw0_TextWeight.f k S).bind fun t => if t > 6000 then some true else (thresherlaw0_OpsWeight.f k L 12).bind fun o => some (decide (o > 1000))) (fun k => rfl) (Ev.bind (a := t) h1 (by simp only [if_neg c]; exact Ev.bind (a := o) h3 (Ev.now _)))⟩


end Go.Proofs.Ytchgjkfnmifgkaa.QE
