/- The law NumBack, in plain numbers: what is written is taken, whatever stands behind it; cut off anywhere it is cut off; what is taken was written so; small numbers are short. -/
import Derived.Test.YtnjdehldlcmojaaPrNumBack
import Derived.Test.YtnjdehldlcmojaaGlNumBack
import Derived.Test.YtnjdehldlcmojaaMath2
import Derived.Test.YtnjdehldlcmojaaMath3
namespace Go.Proofs.Ytnjdehldlcmojaa.PNumBack.Pure
open Go.RowKit Go.Proofs.Ytnjdehldlcmojaa Go.Proofs.YtnjdehldlcmojaaW.PrintWords Go.Proofs.YtnjdehldlcmojaaW.PrintLast Go.Proofs.YtnjdehldlcmojaaW.PrintMore Go.Proofs.Ytnjdehldlcmojaa.Math Go.Proofs.Ytnjdehldlcmojaa.PNumBack
set_option linter.unusedVariables false
set_option linter.unusedSimpArgs false

theorem good_rd {l : List S25} (h : ∀ y ∈ l, Good25 y) {i : Int} (h0 : 0 ≤ i) (h1 : i < l.length) : Good25 (rd_T25 l i) := by
  unfold rd_T25
  have hl : i.toNat < l.length := by omega
  rw [List.getD_eq_getElem?_getD, List.getElem?_eq_getElem hl]
  exact h _ (List.getElem_mem hl)
theorem shr_lo {n j : Int} (h0 : -9223372036854775808 ≤ n) (h1 : n ≤ 9223372036854775807) (hj0 : 0 ≤ j) (hj : j < 64) : -9223372036854775808 ≤ shr .i64 n j ∧ shr .i64 n j ≤ 9223372036854775807 := by
  have := shv_lo 1 n j h0 h1
  rw [shv1] at this
  rw [shr_of .i64 rfl hj0 hj]
  exact this

/-- Behind the last place: what is taken was written so. -/
theorem back_end (l : List S25) (i : Int) (hi0 : 0 ≤ i) (hi : i < l.length) (rest : Ev (fun k => thresherlaw1_NumBack.l0 k l (wrap64 (i + 1))) true) (j : Int) (hj : 64 ≤ j) : Ev (fun k => thresherlaw1_NumBack.l1 k l i j) true := by
  generalize hX : (rd_T25 l i).f3 = X
  refine Ev.step (f := fun k => (thresherlaw1_num1.f k X).bind fun bt => if bt.2.2 = 0 then (if bt.2.1 < 0 then (some false) else (if bt.2.1 > (X.size : Int) then (some false) else ((num_Bytes.f k bt.1).bind fun t136 => (if 0 ≤ bt.2.1 then (if bt.2.1 ≤ (X.size : Int) then (if t136.toList = (X.extract 0 (bt.2.1 : Int).toNat).toList then (thresherlaw1_NumBack.l0 k l (wrap64 (i + 1))) else (some false)) else (none)) else (none))))) else (thresherlaw1_NumBack.l0 k l (wrap64 (i + 1)))) (fun k => ?_) ?_
  · simp only [thresherlaw1_NumBack.l1]
    rw [if_neg (by omega), if_pos hi0, if_pos hi, hX]
  · refine Ev.bind (g := fun k => thresherlaw1_num1.f k X) (f := fun k bt => if bt.2.2 = 0 then (if bt.2.1 < 0 then (some false) else (if bt.2.1 > (X.size : Int) then (some false) else ((num_Bytes.f k bt.1).bind fun t136 => (if 0 ≤ bt.2.1 then (if bt.2.1 ≤ (X.size : Int) then (if t136.toList = (X.extract 0 (bt.2.1 : Int).toNat).toList then (thresherlaw1_NumBack.l0 k l (wrap64 (i + 1))) else (some false)) else (none)) else (none))))) else (thresherlaw1_NumBack.l0 k l (wrap64 (i + 1)))) (num1_ev X) ?_
    rw [took_bs]
    by_cases he : (tookL (bytesOf X)).2.2 = 0
    · obtain ⟨m, n, e, hme⟩ : ∃ m n e, tookL (bytesOf X) = (m, n, e) := ⟨_, _, _, rfl⟩
      rw [hme] at he ⊢
      obtain rfl : e = 0 := he
      obtain ⟨g0, g1, g2, g3, g4, g5⟩ := nbytes_took (bs_range X) hme
      rw [bytesOf_length] at g3
      refine Ev.congr (f := fun k => (num_Bytes.f k m).bind fun t136 => if t136.toList = (X.extract 0 n.toNat).toList then (thresherlaw1_NumBack.l0 k l (wrap64 (i + 1))) else (some false)) (fun k => ?_) ?_
      · simp only [if_true]
        rw [if_neg (by omega), if_neg (by omega)]
        congr 1
        funext t
        rw [if_pos (by omega), if_pos (by omega)]
      · refine Ev.bind (f := fun k (t136 : ByteArray) => if t136.toList = (X.extract 0 n.toNat).toList then (thresherlaw1_NumBack.l0 k l (wrap64 (i + 1))) else (some false)) (bytes_ev g0 g1) ?_
        have hc : (strOfNums (nbytes m)).toList = (X.extract 0 n.toNat).toList := by rw [toList_bs, bs_nbytes, bs_extract, List.drop_zero, g5]
        simp only [if_pos hc]
        exact rest
    · simp only [if_neg he]
      exact rest

theorem back_l2 (l : List S25) (i j n : Int) (h0 : -9223372036854775808 ≤ n) (h1 : n ≤ 9223372036854775807) (next : Ev (fun k => thresherlaw1_NumBack.l1 k l i (wrap64 (j + 7))) true) :
    ∀ (d : Nat) (t : Int), 0 ≤ t → t ≤ (nbytes n).length → (nbytes n).length - t = d → Ev (fun k => thresherlaw1_NumBack.l2 k l i j (strOfNums (nbytes n)) t) true := by
  have hlen := (nbytes_length h0 h1).1
  intro d
  induction d with
  | zero =>
    intro t ht0 ht1 hd
    refine Ev.step (f := fun k => thresherlaw1_NumBack.l1 k l i (wrap64 (j + 7))) (fun k => ?_) next
    simp only [thresherlaw1_NumBack.l2]
    rw [if_neg (by rw [strOfNums_size]; omega)]
  | succ d ih =>
    intro t ht0 ht1 hd
    refine Ev.step (f := fun k => (thresherlaw1_num1.f k ((strOfNums (nbytes n)).extract 0 t.toNat)).bind fun bt => if bt.2.2 = 6 then (thresherlaw1_NumBack.l2 k l i j (strOfNums (nbytes n)) (wrap64 (t + 1))) else (some false)) (fun k => ?_) ?_
    · simp only [thresherlaw1_NumBack.l2]
      rw [if_pos (by rw [strOfNums_size]; omega), if_pos ht0, if_pos (by rw [strOfNums_size]; omega)]
    · refine Ev.bind (f := fun k bt => if bt.2.2 = 6 then (thresherlaw1_NumBack.l2 k l i j (strOfNums (nbytes n)) (wrap64 (t + 1))) else (some false)) (num1_ev _) ?_
      rw [took_bs, bs_extract, bs_nbytes, List.drop_zero, nbytes_cut h0 h1 (by omega)]
      simp only [↓reduceIte]
      rw [w64 (by omega) (by omega)]
      exact ih (t + 1) (by omega) (by omega) (by omega)

theorem back_l1 (l : List S25) (hl : ∀ y ∈ l, Good25 y) (i : Int) (hi0 : 0 ≤ i) (hi : i < l.length) (hX : (rd_T25 l i).f3.size ≤ 3000) (rest : Ev (fun k => thresherlaw1_NumBack.l0 k l (wrap64 (i + 1))) true) :
    ∀ (d : Nat) (j : Int), 0 ≤ j → j ≤ 70 → 70 - j ≤ d → Ev (fun k => thresherlaw1_NumBack.l1 k l i j) true := by
  intro d
  induction d with
  | zero => intro j hj0 hj1 hd; exact back_end l i hi0 hi rest j (by omega)
  | succ d ih =>
    intro j hj0 hj1 hd
    by_cases hj : j < 64
    · obtain ⟨hg, _⟩ := good_rd hl hi0 hi
      have hx := wf_i64 hg
      obtain ⟨n0, n1⟩ := shr_lo hx.1 hx.2 hj0 hj
      generalize hn : shr .i64 (rd_T25 l i).f0 j = n at *
      have hlen := (nbytes_length n0 n1).1
      have next : Ev (fun k => thresherlaw1_NumBack.l1 k l i (wrap64 (j + 7))) true := by
        rw [w64 (by omega) (by omega)]
        by_cases h70 : j + 7 ≤ 70
        · exact ih (j + 7) (by omega) (by omega) (by omega)
        · exact back_end l i hi0 hi rest (j + 7) (by omega)
      generalize hX' : (rd_T25 l i).f3 = X at *
      refine Ev.step (f := fun k => (num_Bytes.f k n).bind fun t => if t.size + X.size ≤ 9223372036854775807 then ((thresherlaw1_num1.f k (t ++ X)).bind fun bt125 => (if bt125.2.2 = 0 then (if bt125.1 = n then (if bt125.2.1 = (t.size : Int) then (if (t.size : Int) > 10 then (thresherlaw1_NumBack.j3 k l i j t true) else (if n ≥ (-64) then (if n < 64 then (thresherlaw1_NumBack.j3 k l i j t ((t.size : Int) != 1)) else (thresherlaw1_NumBack.j3 k l i j t false)) else (thresherlaw1_NumBack.j3 k l i j t false))) else (thresherlaw1_NumBack.j3 k l i j t true)) else (thresherlaw1_NumBack.j3 k l i j t true)) else (thresherlaw1_NumBack.j3 k l i j t true))) else none) (fun k => ?_) ?_
      · simp only [thresherlaw1_NumBack.l1]
        rw [if_pos hj, if_pos hi0, if_pos hi, if_pos hj0, hn, hX']
      · refine Ev.bind (f := fun k (t : ByteArray) => if t.size + X.size ≤ 9223372036854775807 then ((thresherlaw1_num1.f k (t ++ X)).bind fun bt125 => (if bt125.2.2 = 0 then (if bt125.1 = n then (if bt125.2.1 = (t.size : Int) then (if (t.size : Int) > 10 then (thresherlaw1_NumBack.j3 k l i j t true) else (if n ≥ (-64) then (if n < 64 then (thresherlaw1_NumBack.j3 k l i j t ((t.size : Int) != 1)) else (thresherlaw1_NumBack.j3 k l i j t false)) else (thresherlaw1_NumBack.j3 k l i j t false))) else (thresherlaw1_NumBack.j3 k l i j t true)) else (thresherlaw1_NumBack.j3 k l i j t true)) else (thresherlaw1_NumBack.j3 k l i j t true))) else none) (bytes_ev n0 n1) ?_
        simp only [strOfNums_size]
        have hsz : (nbytes n).length + X.size ≤ 9223372036854775807 := by omega
        simp only [if_pos hsz]
        refine Ev.bind (f := fun k (bt125 : Int × Int × Int) => (if bt125.2.2 = 0 then (if bt125.1 = n then (if bt125.2.1 = ((nbytes n).length : Int) then (if ((nbytes n).length : Int) > 10 then (thresherlaw1_NumBack.j3 k l i j (strOfNums (nbytes n)) true) else (if n ≥ (-64) then (if n < 64 then (thresherlaw1_NumBack.j3 k l i j (strOfNums (nbytes n)) (((nbytes n).length : Int) != 1)) else (thresherlaw1_NumBack.j3 k l i j (strOfNums (nbytes n)) false)) else (thresherlaw1_NumBack.j3 k l i j (strOfNums (nbytes n)) false))) else (thresherlaw1_NumBack.j3 k l i j (strOfNums (nbytes n)) true)) else (thresherlaw1_NumBack.j3 k l i j (strOfNums (nbytes n)) true)) else (thresherlaw1_NumBack.j3 k l i j (strOfNums (nbytes n)) true))) (num1_ev _) ?_
        rw [took_bs, bs_append, bs_nbytes, tookL_nbytes n0 n1]
        refine Ev.congr (f := fun k => thresherlaw1_NumBack.j3 k l i j (strOfNums (nbytes n)) false) (fun k => ?_) ?_
        · simp only [if_true]
          rw [if_neg (by omega)]
          by_cases h1 : n ≥ -64
          · rw [if_pos h1]
            by_cases h2 : n < 64
            · rw [if_pos h2, nbytes_short h1 h2]
              rfl
            · rw [if_neg h2]
          · rw [if_neg h1]
        · refine Ev.step (f := fun k => thresherlaw1_NumBack.l2 k l i j (strOfNums (nbytes n)) 0) (fun k => ?_) ?_
          · simp only [thresherlaw1_NumBack.j3]
            rw [if_neg (by decide)]
          · exact back_l2 l i j n n0 n1 next (nbytes n).length 0 (by omega) (by omega) (by omega)
    · exact back_end l i hi0 hi rest j (by omega)

theorem back_l0 (l : List S25) (hl : ∀ y ∈ l, Good25 y) : ∀ (d : Nat) (i : Int), 0 ≤ i → i ≤ 15 → 15 - i ≤ d → Ev (fun k => thresherlaw1_NumBack.l0 k l i) true := by
  have hend : ∀ i, Ev (fun k => thresherlaw1_NumBack.j1 k l i false) true := by
    intro i
    refine Ev.step (f := fun k => (thresherlaw1_wakes.f k).bind fun t => some t) (fun k => ?_) ?_
    · simp only [thresherlaw1_NumBack.j1]
      rw [if_neg (by decide), show thresherlaw0_Within.f 3 2 = some 1 from by decide +kernel]
      simp
    · exact Ev.bind (f := fun _ t => some t) wakes_ev (Ev.now _)
  intro d
  induction d with
  | zero =>
    intro i h0 h1 hd
    refine Ev.step (f := fun k => thresherlaw1_NumBack.j1 k l i false) (fun k => ?_) (hend i)
    simp only [thresherlaw1_NumBack.l0]
    rw [show decide (i < 15) = false by simp; omega]
    split <;> rfl
  | succ d ih =>
    intro i h0 h1 hd
    by_cases hc : i < l.length ∧ i < 15
    · refine Ev.step (f := fun k => thresherlaw1_NumBack.j1 k l i true) (fun k => ?_) ?_
      · simp only [thresherlaw1_NumBack.l0]
        rw [if_pos hc.1, show decide (i < 15) = true by simp; omega]
      · by_cases hv : (rd_T25 l i).f3.size ≤ 3000
        · refine Ev.step (f := fun k => thresherlaw1_NumBack.l1 k l i 0) (fun k => ?_) ?_
          · simp only [thresherlaw1_NumBack.j1, if_true, thresherlaw1_heavy.f]
            rw [if_pos h0, if_pos hc.1]
            simp only [Option.bind_some]
            rw [if_neg (by simp; omega)]
          · refine back_l1 l hl i h0 hc.1 hv ?_ 70 0 (by omega) (by omega) (by omega)
            rw [w64 (by omega) (by omega)]
            exact ih (i + 1) (by omega) (by omega) (by omega)
        · refine Ev.step (f := fun k => some true) (fun k => ?_) (Ev.now _)
          simp only [thresherlaw1_NumBack.j1, if_true, thresherlaw1_heavy.f]
          rw [if_pos h0, if_pos hc.1]
          simp only [Option.bind_some]
          rw [if_pos (by simp; omega)]
    · refine Ev.step (f := fun k => thresherlaw1_NumBack.j1 k l i false) (fun k => ?_) (hend i)
      simp only [thresherlaw1_NumBack.l0]
      by_cases h : i < (l.length : Int)
      · rw [if_pos h, show decide (i < 15) = false by simp; omega]
      · rw [if_neg h]

theorem NumBack : NumBackPure := by
  intro l hl
  exact (back_l0 l hl.2.2 15 0 (by omega) (by omega) (by omega)).rounds
end Go.Proofs.Ytnjdehldlcmojaa.PNumBack.Pure
