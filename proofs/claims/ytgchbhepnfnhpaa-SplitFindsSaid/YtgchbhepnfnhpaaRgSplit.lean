/- What the program's functions on keys and records, and the page's, come to. -/
import Derived.Test.YtgchbhepnfnhpaaQSplitx5
import Derived.Test.YtgchbhepnfnhpaaGlSplit
import Derived.Test.YtgchbhepnfnhpaaRfSplit
import Derived.Test.YtgchbhepnfnhpaaMath4
namespace Go.Proofs.Ytgchbhepnfnhpaa.QSplit
open Go.RowKit Go.Proofs.Ytgchbhepnfnhpaa Go.Proofs.YtgchbhepnfnhpaaW.PrintWords Go.Proofs.YtgchbhepnfnhpaaW.PrintLast Go.Proofs.YtgchbhepnfnhpaaW.PrintMore Go.Proofs.Ytgchbhepnfnhpaa.Math
set_option linter.unusedVariables false
set_option linter.unusedSimpArgs false

theorem key_take_j0 {s : ByteArray} {n a t : Int} (hs : s.size ≤ 4611686018427387904) (hn0 : 0 ≤ n) (hn : n ≤ s.size) (ht0 : 0 ≤ t) (ht : t ≤ 64) :
    Ev (fun k => key_Take.j0 k s n a t false) (if (s.size : Int) - n < t then (0, nobytes, 0, 6) else (a, s.extract n.toNat (n + t).toNat, n + t, 0)) := by
  refine Ev.step (f := fun _ => some (if (s.size : Int) - n < t then (0, nobytes, 0, 6) else (a, s.extract n.toNat (n + t).toNat, n + t, 0))) (fun k => ?_) (Ev.now _)
  simp only [key_Take.j0]
  rw [if_neg (by decide), w64 (n := (s.size : Int) - n) (by omega) (by omega), w64 (n := n + t) (by omega) (by omega)]
  by_cases h : (s.size : Int) - n < t
  · rw [if_pos (by omega), if_pos h]
  · rw [if_neg (by omega), if_neg h, if_pos hn0, if_pos (by omega), if_pos (by omega)]
theorem key_take_j0t (s : ByteArray) (n a t : Int) : Ev (fun k => key_Take.j0 k s n a t true) (0, nobytes, 0, 2) := by
  refine Ev.step (f := fun _ => some (0, nobytes, 0, 2)) (fun k => ?_) (Ev.now _)
  simp only [key_Take.j0, if_true]
theorem refkey_take_j0 {s : ByteArray} {i j a t : Int} (hs : s.size ≤ 4611686018427387904) (hn0 : 0 ≤ i + j) (hn : i + j ≤ s.size) (ht0 : 0 ≤ t) (ht : t ≤ 64) :
    Ev (fun k => thresherref3_Take.j0 k s a i t j false) (if (s.size : Int) - (i + j) < t then (0, nobytes, 0, 6) else (a, s.extract (i + j).toNat (i + j + t).toNat, i + j + t, 0)) := by
  refine Ev.step (f := fun _ => some (if (s.size : Int) - (i + j) < t then (0, nobytes, 0, 6) else (a, s.extract (i + j).toNat (i + j + t).toNat, i + j + t, 0))) (fun k => ?_) (Ev.now _)
  simp only [thresherref3_Take.j0]
  rw [if_neg (by decide), w64 (n := i + j) (by omega) (by omega), w64 (n := (s.size : Int) - (i + j)) (by omega) (by omega), w64 (n := i + j + t) (by omega) (by omega)]
  by_cases h : (s.size : Int) - (i + j) < t
  · rw [if_pos h, if_pos h]
  · rw [if_neg h, if_neg h, if_pos hn0, if_pos (by omega), if_pos (by omega)]
theorem refkey_take_j0t (s : ByteArray) (i j a t : Int) : Ev (fun k => thresherref3_Take.j0 k s a i t j true) (0, nobytes, 0, 2) := by
  refine Ev.step (f := fun _ => some (0, nobytes, 0, 2)) (fun k => ?_) (Ev.now _)
  simp only [thresherref3_Take.j0, if_true]

theorem key_take_ev (s : ByteArray) (hs : s.size ≤ 4611686018427387904) : Ev (fun k => key_Take.f k s) (keytake s) := by
  unfold key_Take.f
  refine Ev.bind (g := fun k => num_Take.f k s) (f := fun k (a : Int × Int × Int) => if a.2.2 = 0 then (if 0 ≤ a.2.1 then (if a.2.1 ≤ (s.size : Int) then ((num_Take.f k (s.extract (a.2.1 : Int).toNat s.size)).bind fun b => (if b.2.2 = 0 then (if b.1 < 0 then (key_Take.j0 k s (wrap64 (a.2.1 + b.2.1)) a.1 b.1 true) else (key_Take.j0 k s (wrap64 (a.2.1 + b.2.1)) a.1 b.1 (decide (b.1 > 64)))) else (some (0, (⟨#[]⟩ : ByteArray), 0, b.2.2)))) else (none)) else (none)) else (some (0, (⟨#[]⟩ : ByteArray), 0, a.2.2))) (take_ev s) ?_
  unfold keytake
  by_cases h1 : (took s).2.2 = 0
  · obtain ⟨a1, a2, a3, a4, a5⟩ := took_in h1
    rw [if_pos h1]
    refine evPos h1 (evPos (by omega) (evPos (by omega) ?_))
    refine Ev.bind (f := fun k (b : Int × Int × Int) => (if b.2.2 = 0 then (if b.1 < 0 then (key_Take.j0 k s (wrap64 ((took s).2.1 + b.2.1)) (took s).1 b.1 true) else (key_Take.j0 k s (wrap64 ((took s).2.1 + b.2.1)) (took s).1 b.1 (decide (b.1 > 64)))) else (some (0, (⟨#[]⟩ : ByteArray), 0, b.2.2)))) (take_ev _) ?_
    have hs' : ((s.extract (took s).2.1.toNat s.size).size : Int) = s.size - (took s).2.1 := ext_size (by omega) a2
    generalize s.extract (took s).2.1.toNat s.size = s' at *
    dsimp only
    by_cases h2 : (took s').2.2 = 0
    · obtain ⟨b1, b2, b3, b4, b5⟩ := took_in h2
      rw [if_pos h2]
      refine evPos h2 ?_
      rw [w64 (n := (took s).2.1 + (took s').2.1) (by omega) (by omega)]
      by_cases h3 : (took s').1 < 0
      · rw [if_pos (.inl h3)]
        exact evPos h3 (key_take_j0t _ _ _ _)
      · refine evNeg h3 ?_
        by_cases h4 : (took s').1 > 64
        · rw [if_pos (.inr h4), show decide ((took s').1 > 64) = true by simpa using h4]
          exact key_take_j0t _ _ _ _
        · rw [if_neg (by omega), show decide ((took s').1 > 64) = false by simpa using h4]
          exact key_take_j0 hs (by omega) (by omega) (by omega) (by omega)
    · rw [if_neg h2]
      exact evNeg h2 (Ev.now _)
  · rw [if_neg h1]
    exact evNeg h1 (Ev.now _)

theorem refkey_take_ev (s : ByteArray) (hs : s.size ≤ 4611686018427387904) : Ev (fun k => thresherref3_Take.f k s) (keytake s) := by
  unfold thresherref3_Take.f
  refine Ev.bind (g := fun k => thresherref1_Take.f k s) (f := fun k (a : Int × Int × Int) => if a.2.2 = 0 then (if 0 ≤ a.2.1 then (if a.2.1 ≤ (s.size : Int) then ((thresherref1_Take.f k (s.extract (a.2.1 : Int).toNat s.size)).bind fun b => (if b.2.2 = 0 then (if b.1 < 0 then (thresherref3_Take.j0 k s a.1 a.2.1 b.1 b.2.1 true) else (thresherref3_Take.j0 k s a.1 a.2.1 b.1 b.2.1 (decide (b.1 > 64)))) else (some (0, (⟨#[]⟩ : ByteArray), 0, b.2.2)))) else (none)) else (none)) else (some (0, (⟨#[]⟩ : ByteArray), 0, a.2.2))) (reftake_ev s) ?_
  unfold keytake
  by_cases h1 : (took s).2.2 = 0
  · obtain ⟨a1, a2, a3, a4, a5⟩ := took_in h1
    rw [if_pos h1]
    refine evPos h1 (evPos (by omega) (evPos (by omega) ?_))
    refine Ev.bind (f := fun k (b : Int × Int × Int) => (if b.2.2 = 0 then (if b.1 < 0 then (thresherref3_Take.j0 k s (took s).1 (took s).2.1 b.1 b.2.1 true) else (thresherref3_Take.j0 k s (took s).1 (took s).2.1 b.1 b.2.1 (decide (b.1 > 64)))) else (some (0, (⟨#[]⟩ : ByteArray), 0, b.2.2)))) (reftake_ev _) ?_
    have hs' : ((s.extract (took s).2.1.toNat s.size).size : Int) = s.size - (took s).2.1 := ext_size (by omega) a2
    generalize s.extract (took s).2.1.toNat s.size = s' at *
    dsimp only
    by_cases h2 : (took s').2.2 = 0
    · obtain ⟨b1, b2, b3, b4, b5⟩ := took_in h2
      rw [if_pos h2]
      refine evPos h2 ?_
      by_cases h3 : (took s').1 < 0
      · rw [if_pos (.inl h3)]
        exact evPos h3 (refkey_take_j0t _ _ _ _ _)
      · refine evNeg h3 ?_
        by_cases h4 : (took s').1 > 64
        · rw [if_pos (.inr h4), show decide ((took s').1 > 64) = true by simpa using h4]
          exact refkey_take_j0t _ _ _ _ _
        · rw [if_neg (by omega), show decide ((took s').1 > 64) = false by simpa using h4]
          exact refkey_take_j0 hs (by omega) (by omega) (by omega) (by omega)
    · rw [if_neg h2]
      exact evNeg h2 (Ev.now _)
  · rw [if_neg h1]
    exact evNeg h1 (Ev.now _)

theorem rec_take_ev (s : ByteArray) (hs : s.size ≤ 4611686018427387904) : Ev (fun k => rec_Take.f k s) (rectake s) := by
  unfold rec_Take.f
  refine Ev.bind (g := fun k => key_Take.f k s) (f := fun k (a : Int × ByteArray × Int × Int) => if a.2.2.2 = 0 then (if 0 ≤ a.2.2.1 then (if a.2.2.1 ≤ (s.size : Int) then ((num_Take.f k (s.extract (a.2.2.1 : Int).toNat s.size)).bind fun b => (if b.2.2 = 0 then (some (a.1, a.2.1, b.1, wrap64 (a.2.2.1 + b.2.1), 0)) else (some (0, (⟨#[]⟩ : ByteArray), 0, 0, b.2.2)))) else (none)) else (none)) else (some (0, (⟨#[]⟩ : ByteArray), 0, 0, a.2.2.2))) (key_take_ev s hs) ?_
  unfold rectake
  by_cases h1 : (keytake s).2.2.2 = 0
  · obtain ⟨a1, a2, a3, a4, a5⟩ := keytake_in h1
    rw [if_pos h1]
    refine evPos h1 (evPos (by omega) (evPos (by omega) ?_))
    refine Ev.bind (f := fun k (b : Int × Int × Int) => (if b.2.2 = 0 then (some ((keytake s).1, (keytake s).2.1, b.1, wrap64 ((keytake s).2.2.1 + b.2.1), 0)) else (some (0, (⟨#[]⟩ : ByteArray), 0, 0, b.2.2)))) (take_ev _) ?_
    have hs' : ((s.extract (keytake s).2.2.1.toNat s.size).size : Int) = s.size - (keytake s).2.2.1 := ext_size (by omega) a2
    generalize s.extract (keytake s).2.2.1.toNat s.size = s' at *
    dsimp only
    by_cases h2 : (took s').2.2 = 0
    · obtain ⟨b1, b2, b3, b4, b5⟩ := took_in h2
      simp only [if_pos h2]
      rw [w64 (n := (keytake s).2.2.1 + (took s').2.1) (by omega) (by omega)]
      exact Ev.now _
    · simp only [if_neg h2]
      exact Ev.now _
  · rw [if_neg h1]
    exact evNeg h1 (Ev.now _)

theorem refrec_take_ev (s : ByteArray) (hs : s.size ≤ 4611686018427387904) : Ev (fun k => thresherref3_TakeRec.f k s) (rectake s) := by
  unfold thresherref3_TakeRec.f
  refine Ev.bind (g := fun k => thresherref3_Take.f k s) (f := fun k (a : Int × ByteArray × Int × Int) => if a.2.2.2 = 0 then (if 0 ≤ a.2.2.1 then (if a.2.2.1 ≤ (s.size : Int) then ((thresherref1_Take.f k (s.extract (a.2.2.1 : Int).toNat s.size)).bind fun b => (if b.2.2 = 0 then (some (a.1, a.2.1, b.1, wrap64 (a.2.2.1 + b.2.1), 0)) else (some (0, (⟨#[]⟩ : ByteArray), 0, 0, b.2.2)))) else (none)) else (none)) else (some (0, (⟨#[]⟩ : ByteArray), 0, 0, a.2.2.2))) (refkey_take_ev s hs) ?_
  unfold rectake
  by_cases h1 : (keytake s).2.2.2 = 0
  · obtain ⟨a1, a2, a3, a4, a5⟩ := keytake_in h1
    rw [if_pos h1]
    refine evPos h1 (evPos (by omega) (evPos (by omega) ?_))
    refine Ev.bind (f := fun k (b : Int × Int × Int) => (if b.2.2 = 0 then (some ((keytake s).1, (keytake s).2.1, b.1, wrap64 ((keytake s).2.2.1 + b.2.1), 0)) else (some (0, (⟨#[]⟩ : ByteArray), 0, 0, b.2.2)))) (reftake_ev _) ?_
    have hs' : ((s.extract (keytake s).2.2.1.toNat s.size).size : Int) = s.size - (keytake s).2.2.1 := ext_size (by omega) a2
    generalize s.extract (keytake s).2.2.1.toNat s.size = s' at *
    dsimp only
    by_cases h2 : (took s').2.2 = 0
    · obtain ⟨b1, b2, b3, b4, b5⟩ := took_in h2
      simp only [if_pos h2]
      rw [w64 (n := (keytake s).2.2.1 + (took s').2.1) (by omega) (by omega)]
      exact Ev.now _
    · simp only [if_neg h2]
      exact Ev.now _
  · rw [if_neg h1]
    exact evNeg h1 (Ev.now _)
end Go.Proofs.Ytgchbhepnfnhpaa.QSplit
