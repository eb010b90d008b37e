/- What check.Need answers, by hand: check.block and check.inner call each other, which no print takes. -/
import Derived.Test.YtchgjkfnmifgkaaQEx0
import Derived.Test.YtchgjkfnmifgkaaQEx3
namespace Go.Proofs.Ytchgjkfnmifgkaa.QE
open Go.RowKit Go.Proofs.YtchgjkfnmifgkaaW.PrintWords Go.Proofs.YtchgjkfnmifgkaaW.PrintLast Go.Proofs.YtchgjkfnmifgkaaW.PrintMore
attribute [local go_sem] max2_int min2_int max_two min_two max_three min_three max_four min_four
set_option linter.unusedVariables false
set_option linter.unusedSimpArgs false

/-- check.block over ops, by the number there was (base), now, at most: the error, now, at most. -/
def check_block.f : Nat → Int → Int → Int → List S34 → Option (Int × Int × Int)
 | 0, _, _, _, _ => none
 | _ + 1, _, now, most, [] => some (0, now, most)
 | k + 1, base, now, most, x :: xs =>
  if (x :: xs).length < 140737488355328 then
   (check_moves.f x.f0).bind fun tl =>
    if wrap64 (now - base) < tl.1 then some (9, now, most)
    else if wrap64 (now + wrap64 (tl.2 - tl.1)) > 16 then some (9, wrap64 (now + wrap64 (tl.2 - tl.1)), most)
    else (check_block.f k (wrap64 (now + wrap64 (tl.2 - tl.1))) (wrap64 (now + wrap64 (tl.2 - tl.1))) (mx most (wrap64 (now + wrap64 (tl.2 - tl.1)))) x.f2).bind fun r =>
     if r.1 = 0 then (if r.2.1 = wrap64 (now + wrap64 (tl.2 - tl.1)) then check_block.f k base r.2.1 r.2.2 xs else some (9, r.2.1, r.2.2)) else some r
  else none

theorem check_block.mono_l : ∀ k a b c l, LeO (check_block.f k a b c l) (check_block.f (k + 1) a b c l)
 | 0, _, _, _, _ => fun r h => by simp [check_block.f] at h
 | k + 1, a, b, c, [] => by simp only [check_block.f]; exact LeO.refl _
 | k + 1, a, b, c, x :: xs => by
  have ih := check_block.mono_l k
  rw [check_block.f, check_block.f]
  refine LeO.ite (LeO.bind (LeO.refl _) fun _ => LeO.ite (LeO.refl _) (LeO.ite (LeO.refl _) (LeO.bind (ih _ _ _ _) fun _ => LeO.ite (LeO.ite (ih _ _ _ _) (LeO.refl _)) (LeO.refl _)))) (LeO.none _)

def BlockSpec (k : Nat) : Prop := ∀ (g : Nat) (now most : Int) (A0 : Option Addr) (c0 : Nat) (l0 : List S34) (r n' m' : Int) (w0 w : World), w.heap[g]? = some (.cells #[.int .i64 now, .int .i64 most] 66 (0, 0)) → w0.heap.size ≤ g → Below w0.heap.size w0 w → Kd.C k34 w0 A0 l0.length l0 → l0.length ≤ c0 → check_block.f k now now most l0 = some (r, n', m') →
 Calls Try.prog 34 #[.pointer (some ⟨g, 0, none⟩), .slice A0 l0.length c0] w fun e w' => e = .returned (.int .i64 r) ∧ w'.heap[g]? = some (.cells #[.int .i64 n', .int .i64 m'] 66 (0, 0)) ∧ Below w0.heap.size w0 w'

set_option maxHeartbeats 8000000 in
set_option maxRecDepth 100000 in
theorem check_inner.calls (k : Nat) (hb : BlockSpec k) (g : Nat) (now most : Int) (x0 x1 : Int) (A : Option Addr) (c : Nat) (l : List S34) (r n' m' : Int) (w0 w : World) (hbk : w.heap[g]? = some (.cells #[.int .i64 now, .int .i64 most] 66 (0, 0))) (hg : w0.heap.size ≤ g) (hB : Below w0.heap.size w0 w) (hr : Kd.C k34 w0 A l.length l) (hc : l.length ≤ c) (h : check_block.f k now now most l = some (r, n', m')) :
  Calls Try.prog 47 #[.pointer (some ⟨g, 0, none⟩), .agg #[.int .i64 x0, .int .i64 x1, .slice A l.length c]] w fun e w' => e = .returned (.int .i64 (if r = 0 then (if n' = now then 0 else 9) else r)) ∧ w'.heap[g]? = some (.cells #[.int .i64 n', .int .i64 m'] 66 (0, 0)) ∧ Below w0.heap.size w0 w' := by
 have hu34 := Try.underlying34
 have HR := Aside0.mk hr
 have HC := Aside0.mk hc
 have HB := Aside0.mk hB
 have BK := Aside0.mk hbk
 have HG := Aside0.mk hg
 have HH := Aside0.mk h
 have HF := Aside0.mk hb
 clear hr hc hB hbk hg h hb
 go_enter Try.func47, Try.ntmps47
 go_upto_region 1 with (first | ((with_reducible refine gate_dst (N := 3) rfl ?_); refine box_event ?hg (N := 3) ?hd (cs := #[.int .i64 x0, .int .i64 x1, .slice A l.length c]) (t := 34) ?hr ?_; (case hd => rfl); (case hg => rfl); (case hr => first | (go_simp; done) | (go_simp; rfl)); intro gb hg w4 hbox hb; have GB := Aside0.mk hbox; have BK4 := Aside0.mk (blk_below BK.out hb); have HB4 := Aside0.mk (below_step HB.out hb); have hne : g ≠ gb := (by rw [hg]; exact Nat.ne_of_lt (blk_lt BK.out)); clear hbox hb hg))
 have hz0 : w4.cell? ⟨g, 0, none⟩ = some (.int .i64 now) := (blk_cell BK4.out 0).trans rfl
 have hx2 : w4.cell? ⟨gb, 2, none⟩ = some (.slice A l.length c) := (blk_cell GB.out 2).trans rfl
 go_wp2_with (fail)
 refine (HF.out g now most A c l r n' m' w0 _ BK4.out HG.out HB4.out HR.out HC.out HH.out).mono ?_
 rintro e w5 ⟨rfl, hbk5, hb5⟩
 have BK5 := Aside0.mk hbk5
 have HB5 := Aside0.mk hb5
 clear hbk5 hb5
 have hy0 : w5.cell? ⟨g, 0, none⟩ = some (.int .i64 n') := (blk_cell BK5.out 0).trans rfl
 clear hz0 hx2
 by_cases c1 : r = 0
 ·
  subst c1
  by_cases c2 : n' = now
  ·
   subst c2
   go_wp2
   go_ret
   exact ⟨by first | rfl | simp, BK5.out, HB5.out⟩
  ·
   have c2b0 : (n' == now) = false := beq_eq_false_iff_ne.mpr c2
   have c2b1 : (n' != now) = true := bne_iff_ne.mpr c2
   go_wp2
   go_ret
   exact ⟨by first | rfl | simp [c2], BK5.out, HB5.out⟩
 ·
  have c1b0 : (r == 0) = false := beq_eq_false_iff_ne.mpr c1
  have c1b1 : (r != 0) = true := bne_iff_ne.mpr c1
  go_wp2
  go_ret
  exact ⟨by first | rfl | simp [c1], BK5.out, HB5.out⟩

theorem BlockSpec.zero : BlockSpec 0 := fun _ _ _ _ _ _ _ _ _ _ _ _ _ _ _ _ h => by simp [check_block.f] at h

theorem check_block.len {k : Nat} {a b c : Int} {l : List S34} {r : Int × Int × Int} (h : check_block.f (k + 1) a b c l = some r) : l.length < 140737488355328 := by
 cases l with
 | nil => decide
 | cons x xs =>
  simp only [check_block.f] at h
  split at h
  ·
   assumption
  ·
   simp at h

theorem rd_T34_get {l : List S34} {i : Nat} (h : i < l.length) : rd_T34 l (i : Int) = l[i] := by
 unfold rd_T34
 rw [List.getD_eq_getElem?_getD]
 simp [h]

set_option maxHeartbeats 8000000 in
set_option maxRecDepth 100000 in
theorem check_block.spec : ∀ k, BlockSpec k := by
 intro k
 induction k using Nat.strongRecOn with
 | _ k ih =>
 cases k with
 | zero => exact BlockSpec.zero
 | succ k =>
 intro g now most A0 c0 l0 r n' m' w0 w hbk hg hB hr0 hc0 h
 have hu34 := Try.underlying34
 have HL := Aside0.mk (check_block.len h)
 have HR := Aside0.mk hr0
 have HC := Aside0.mk hc0
 have HB := Aside0.mk hB
 have BK := Aside0.mk hbk
 have HG := Aside0.mk hg
 have H' := Aside0.mk h
 clear hr0 hc0 hB hbk hg h
 have hz0 : w.cell? ⟨g, 0, none⟩ = some (.int .i64 now) := (blk_cell BK.out 0).trans rfl
 go_enter Try.func34, Try.ntmps34
 go_wp2
 clear hz0
 go_loopg [17] (k + 1) (fun kq v17 w' => ∃ (i : Nat) (xi n m : Int), v17 = .int .i64 xi ∧ Aside0 (check_block.f kq now n m (l0.drop i) = some (r, n', m')) ∧ Aside0 (xi = i) ∧ Aside0 (i ≤ l0.length) ∧ Aside0 (kq ≤ k + 1) ∧ Aside0 (w'.heap[g]? = some (.cells #[.int .i64 n, .int .i64 m] 66 (0, 0))) ∧ Aside0 (Below w0.heap.size w0 w'))
 case atStart => exact ⟨0, 0, now, most, rfl, H', ⟨rfl⟩, ⟨Nat.zero_le _⟩, ⟨Nat.le_refl _⟩, BK, HB⟩
 case round =>
  clear H' BK HB
  obtain ⟨i, xi, n, m, rfl, HA, HXI, HI, HK1, BK, HB⟩ := hrel
  cases gk with
  | zero => exact absurd HA.out (by simp [check_block.f])
  | succ k1 =>
   have H := HA.out
   clear HA
   have HX := HXI.out
   subst HX
   by_cases hi : i < l0.length
   ·
    rw [List.drop_eq_getElem_cons hi, ← rd_T34_get hi] at H
    simp only [check_block.f] at H
    split at H
    case isFalse => simp at H
    obtain ⟨⟨tk, lv⟩, hm, H⟩ := Option.bind_eq_some_iff.mp H
    have HM := Aside0.mk hm
    have HH := Aside0.mk H
    clear hm H
    have c3b0 : decide ((i : Int) < (l0.length : Int)) = true := decide_eq_true (by omega)
    have p107 : 0 ≤ (i : Int) := by omega
    have q107 : (i : Int) < l0.length := by omega
    obtain ⟨ad107, A2, c2, e107, hx0, hx1, hx2, hl2, hr2⟩ := at_T34 HR.out (i : Int) p107 q107
    cases e107
    rw [Int.toNat_natCast] at hx0 hx1 hx2
    replace hx0 := (HB.out.cell (World.block_lt_of_cell? w0 _ hx0)).trans hx0
    replace hx1 := (HB.out.cell (World.block_lt_of_cell? w0 _ hx1)).trans hx1
    replace hx2 := (HB.out.cell (World.block_lt_of_cell? w0 _ hx2)).trans hx2
    have HR2 := Aside0.mk hr2
    have HC2 := Aside0.mk hl2
    clear hr2 hl2
    replace p107 := eq_true p107
    replace q107 := eq_true q107
    go_upto_region 5 with (first | ((with_reducible refine gate_dst (N := 7) rfl ?_); (try (refine gate_guard (by rfl) ?_; dsimp only)); refine box_event ?hg (N := 7) ?hd (cs := #[.int .i64 0, .int .i64 0, .slice none 0 0]) (t := 34) ?hr ?_; (case hd => rfl); (case hg => rfl); (case hr => first | (go_simp; done) | (go_simp; rfl)); intro gb hg w7 hbox hb; have GB := Aside0.mk hbox; have BK7 := Aside0.mk (blk_below BK.out hb); have HB7 := Aside0.mk (below_step HB.out hb); have GE := Aside0.mk (show w0.heap.size ≤ gb by rw [hg]; exact below_size HB.out); have HNE := Aside0.mk (show g ≠ gb by rw [hg]; exact Nat.ne_of_lt (blk_lt BK.out)); clear hbox hb hg; have hcz0 : w7.cell? ⟨gb, 0, none⟩ = some (.int .i64 0) := (blk_cell GB.out 0).trans rfl; have hcz1 : w7.cell? ⟨gb, 1, none⟩ = some (.int .i64 0) := (blk_cell GB.out 1).trans rfl; have hcz2 : w7.cell? ⟨gb, 2, none⟩ = some (.slice none 0 0) := (blk_cell GB.out 2).trans rfl; have hfz0 := blk_frozen GB.out 0; have hfz1 := blk_frozen GB.out 1; have hfz2 := blk_frozen GB.out 2))
    have GB8 := Aside0.mk (blk_put (cs := #[.int .i64 ((rd_T34 l0 (i : Int)).f0), .int .i64 ((rd_T34 l0 (i : Int)).f1), .slice none 0 0]) (blk_put (cs := #[.int .i64 ((rd_T34 l0 (i : Int)).f0), .int .i64 0, .slice none 0 0]) (blk_put (cs := #[.int .i64 0, .int .i64 0, .slice none 0 0]) GB.out 0 (.int .i64 ((rd_T34 l0 (i : Int)).f0)) rfl) 1 (.int .i64 ((rd_T34 l0 (i : Int)).f1)) rfl) 2 (.slice A2 (rd_T34 l0 (i : Int)).f2.length c2) rfl)
    have BK8 := Aside0.mk (blk_far (p := ⟨gb, 2, none⟩) (blk_far (p := ⟨gb, 1, none⟩) (blk_far (p := ⟨gb, 0, none⟩) BK7.out HNE.out (.int .i64 ((rd_T34 l0 (i : Int)).f0))) HNE.out (.int .i64 ((rd_T34 l0 (i : Int)).f1))) HNE.out (.slice A2 (rd_T34 l0 (i : Int)).f2.length c2))
    have HB8 : Aside0 (Below w0.heap.size w0 (((w7.setCell ⟨gb, 0, none⟩ (.int .i64 ((rd_T34 l0 (i : Int)).f0))).setCell ⟨gb, 1, none⟩ (.int .i64 ((rd_T34 l0 (i : Int)).f1))).setCell ⟨gb, 2, none⟩ (.slice A2 (rd_T34 l0 (i : Int)).f2.length c2))) := ⟨below_set (below_set (below_set HB7.out GE.out) GE.out) GE.out⟩
    generalize hw8 : (((w7.setCell ⟨gb, 0, none⟩ (.int .i64 ((rd_T34 l0 (i : Int)).f0))).setCell ⟨gb, 1, none⟩ (.int .i64 ((rd_T34 l0 (i : Int)).f1))).setCell ⟨gb, 2, none⟩ (.slice A2 (rd_T34 l0 (i : Int)).f2.length c2)) = w8 at GB8 BK8 HB8 ⊢
    clear hw8 GB BK BK7 HB HB7
    obtain ⟨fk, hfk⟩ : ∃ fk, fk = (rd_T34 l0 (i : Int)).f0 := ⟨_, rfl⟩
    have H := HH.out
    clear HH
    have hcz0 : w8.cell? ⟨gb, 0, none⟩ = some (.int .i64 (rd_T34 l0 (i : Int)).f0) := (blk_cell GB8.out 0).trans rfl
    have hcz1 : w8.cell? ⟨gb, 1, none⟩ = some (.int .i64 (rd_T34 l0 (i : Int)).f1) := (blk_cell GB8.out 1).trans rfl
    have hcz2 : w8.cell? ⟨gb, 2, none⟩ = some (.slice A2 (rd_T34 l0 (i : Int)).f2.length c2) := (blk_cell GB8.out 2).trans rfl
    have hz0 : w8.cell? ⟨g, 0, none⟩ = some (.int .i64 n) := (blk_cell BK8.out 0).trans rfl
    have hz1 : w8.cell? ⟨g, 1, none⟩ = some (.int .i64 m) := (blk_cell BK8.out 1).trans rfl
    have hzf0 := blk_frozen BK8.out 0
    have hzf1 := blk_frozen BK8.out 1
    by_cases c1 : wrap64 (n - now) < tk
    ·
     rw [if_pos c1] at H
     obtain ⟨rfl, rfl, rfl⟩ : 9 = r ∧ n = n' ∧ m = m' := by simpa using H
     have c1b0 : decide (wrap64 (n - now) < tk) = true := decide_eq_true c1
     clear c1 H
     go_wp2_with (first | (go_at_call 46; (with_reducible refine (check_moves.calls ((rd_T34 l0 (i : Int)).f0) tk lv _ HM.out).mono ?_); rintro e w' ⟨rfl, ⟨nd, rfl⟩⟩))
     go_ret
     exact ⟨by first | rfl | simp, blk_drewN BK8.out nd, pw_below_drewN HB8.out nd⟩
    ·
     rw [if_neg c1] at H
     have c1b0 : decide (wrap64 (n - now) < tk) = false := decide_eq_false c1
     clear c1
     by_cases c2 : wrap64 (n + wrap64 (lv - tk)) > 16
     ·
      rw [if_pos c2] at H
      obtain ⟨rfl, rfl, rfl⟩ : 9 = r ∧ wrap64 (n + wrap64 (lv - tk)) = n' ∧ m = m' := by simpa using H
      have c2b0 : decide (16 < wrap64 (n + wrap64 (lv - tk))) = true := decide_eq_true c2
      clear c2 H
      go_wp2_with (first | (go_at_call 46; (with_reducible refine (check_moves.calls ((rd_T34 l0 (i : Int)).f0) tk lv _ HM.out).mono ?_); rintro e w' ⟨rfl, ⟨nd, rfl⟩⟩))
      go_ret
      exact ⟨by first | rfl | simp, blk_put (cs := #[.int .i64 n, .int .i64 m]) (blk_drewN BK8.out nd) 0 _ rfl, below_set (pw_below_drewN HB8.out nd) HG.out⟩
     ·
      rw [if_neg c2] at H
      have c2b0 : decide (16 < wrap64 (n + wrap64 (lv - tk))) = false := decide_eq_false c2
      clear c2
      have HH := Aside0.mk H
      clear H
      go_wp2_with (first | (go_at_call 46; (with_reducible refine (check_moves.calls ((rd_T34 l0 (i : Int)).f0) tk lv _ HM.out).mono ?_); rintro e w' ⟨rfl, ⟨nd, rfl⟩⟩))
      have GB9 := Aside0.mk (blk_far (p := ⟨g, 0, none⟩) (blk_drewN GB8.out nd) (Ne.symm HNE.out) (.int .i64 (wrap64 (n + wrap64 (lv - tk)))))
      have BK9 := Aside0.mk (blk_put (cs := #[.int .i64 n, .int .i64 m]) (cs' := #[.int .i64 (wrap64 (n + wrap64 (lv - tk))), .int .i64 m]) (blk_drewN BK8.out nd) 0 (.int .i64 (wrap64 (n + wrap64 (lv - tk)))) rfl)
      have HB9 : Aside0 (Below w0.heap.size w0 ((w8.drewN nd).setCell ⟨g, 0, none⟩ (.int .i64 (wrap64 (n + wrap64 (lv - tk)))))) := ⟨below_set (pw_below_drewN HB8.out nd) HG.out⟩
      generalize hw9 : ((w8.drewN nd).setCell ⟨g, 0, none⟩ (.int .i64 (wrap64 (n + wrap64 (lv - tk))))) = w9 at GB9 BK9 HB9 ⊢
      generalize hn1 : wrap64 (n + wrap64 (lv - tk)) = n1 at BK9 HH c2b0 ⊢
      clear hw9 GB8 BK8 HB8 hcz0 hcz1 hcz2 hz0 hz1 hzf0 hzf1
      have hz0 : w9.cell? ⟨g, 0, none⟩ = some (.int .i64 n1) := (blk_cell BK9.out 0).trans rfl
      have hz1 : w9.cell? ⟨g, 1, none⟩ = some (.int .i64 m) := (blk_cell BK9.out 1).trans rfl
      have hzf0 := blk_frozen BK9.out 0
      have hzf1 := blk_frozen BK9.out 1
      go_region
      have GB10 := Aside0.mk (blk_drew (blk_far (p := ⟨g, 1, none⟩) GB9.out (Ne.symm HNE.out) (.int .i64 (if m < n1 then n1 else m))))
      have BK10 := Aside0.mk (blk_drew (blk_put (cs := #[.int .i64 n1, .int .i64 m]) (cs' := #[.int .i64 n1, .int .i64 (if m < n1 then n1 else m)]) BK9.out 1 (.int .i64 (if m < n1 then n1 else m)) rfl))
      have HB10 : Aside0 (Below w0.heap.size w0 (w9.setCell ⟨g, 1, none⟩ (.int .i64 (if m < n1 then n1 else m))).drew) := ⟨below_drew1 (below_set HB9.out HG.out)⟩
      generalize hw10 : (w9.setCell ⟨g, 1, none⟩ (.int .i64 (if m < n1 then n1 else m))).drew = w10 at GB10 BK10 HB10 ⊢
      generalize hm1 : (if m < n1 then n1 else m) = m1 at BK10 ⊢
      have hm2 : mx m n1 = m1 := hm1
      rw [hm2] at HH
      clear hw10 GB9 BK9 HB9 hz0 hz1 hzf0 hzf1 hm2
      obtain ⟨⟨e1, n2, m2⟩, hblk, H⟩ := Option.bind_eq_some_iff.mp HH.out
      have HBL := Aside0.mk hblk
      clear hblk HH
      have hcz0 : w10.cell? ⟨gb, 0, none⟩ = some (.int .i64 (rd_T34 l0 (i : Int)).f0) := (blk_cell GB10.out 0).trans rfl
      have hcz1 : w10.cell? ⟨gb, 1, none⟩ = some (.int .i64 (rd_T34 l0 (i : Int)).f1) := (blk_cell GB10.out 1).trans rfl
      have hcz2 : w10.cell? ⟨gb, 2, none⟩ = some (.slice A2 (rd_T34 l0 (i : Int)).f2.length c2) := (blk_cell GB10.out 2).trans rfl
      go_wp2_with (fail)
      refine (check_inner.calls k1 (ih k1 (by have := HK1.out; omega)) g n1 m1 (rd_T34 l0 (i : Int)).f0 (rd_T34 l0 (i : Int)).f1 A2 c2 (rd_T34 l0 (i : Int)).f2 e1 n2 m2 w0 _ BK10.out HG.out HB10.out HR2.out HC2.out HBL.out).mono ?_
      rintro e w11 ⟨rfl, hbk11, hb11⟩
      have BK11 := Aside0.mk hbk11
      have HB11 := Aside0.mk hb11
      clear hbk11 hb11 hcz0 hcz1 hcz2 GB10 BK10 HB10
      by_cases c4 : e1 = 0
      ·
       subst c4
       rw [if_pos rfl] at H
       by_cases c5 : n2 = n1
       ·
        subst c5
        rw [if_pos rfl] at H
        have H' := Aside0.mk H
        clear H
        go_wp2
        go_roundg k1
        case measure => have := HK1.out; omega
        case rel => exact ⟨i + 1, wrap64 (i + 1), n2, m2, rfl, H', ⟨by have := HL.out; unfold wrap64; omega⟩, ⟨hi⟩, ⟨by have := HK1.out; omega⟩, BK11, HB11⟩
       ·
        rw [if_neg c5] at H
        obtain ⟨rfl, rfl, rfl⟩ : 9 = r ∧ n2 = n' ∧ m2 = m' := by simpa using H
        clear H
        rw [if_pos rfl, if_neg c5]
        go_wp2
        go_ret
        exact ⟨by first | rfl | simp, BK11.out, HB11.out⟩
      ·
       rw [if_neg c4] at H
       obtain ⟨rfl, rfl, rfl⟩ : e1 = r ∧ n2 = n' ∧ m2 = m' := by simpa using H
       have c4b0 : (e1 == 0) = false := beq_eq_false_iff_ne.mpr c4
       have c4b1 : (e1 != 0) = true := bne_iff_ne.mpr c4
       clear H
       rw [if_neg c4]
       go_wp2
       go_ret
       exact ⟨by first | rfl | simp, BK11.out, HB11.out⟩
   ·
    have hi2 : l0.drop i = [] := List.drop_eq_nil_of_le (by omega)
    rw [hi2] at H
    simp only [check_block.f] at H
    obtain ⟨rfl, rfl, rfl⟩ : 0 = r ∧ n = n' ∧ m = m' := by simpa using H
    have c3b0 : decide ((i : Int) < (l0.length : Int)) = false := decide_eq_false (by omega)
    clear H
    go_wp2
    go_ret
    exact ⟨by first | rfl | simp, BK.out, HB.out⟩

def check_Need.f (k : Nat) (l0 : List S34) : Option (Int × Int × Int) := (lang_Check.f k l0).bind fun e => if e = 0 then (check_block.f k 0 0 0 l0).bind fun r => (if r.1 = 0 then some (r.2.1, r.2.2, 0) else some (0, 0, r.1)) else some (0, 0, e)

theorem check_Need.mono : ∀ a0 k, LeO (check_Need.f k a0) (check_Need.f (k + 1) a0) := by
 intro a0 k
 unfold check_Need.f
 exact LeO.bind (lang_Check.mono _ _) fun _ => LeO.ite (LeO.bind (check_block.mono_l _ _ _ _ _) fun _ => LeO.refl _) (LeO.refl _)

set_option maxHeartbeats 8000000 in
set_option maxRecDepth 100000 in
theorem check_Need.calls (k : Nat) (A0 : Option Addr) (c0 : Nat) (l0 : List (S34)) (r1 : Int) (r2 : Int) (r3 : Int) (w : World) (hr0 : Kd.C k34 w A0 l0.length l0) (hc0 : l0.length ≤ c0) (h : check_Need.f k l0 = some (r1, r2, r3)) :
  Calls Try.prog 16 #[.slice A0 l0.length c0] w fun e w' => e = .returned (.tuple #[.int .i64 r1, .int .i64 r2, .int .i64 r3]) ∧ Below w.heap.size w w' := by
 have HR0 := Aside0.mk hr0
 have HC0 := Aside0.mk hc0
 clear hr0 hc0
 obtain ⟨e1, hl, H⟩ := Option.bind_eq_some_iff.mp h
 have HLC := Aside0.mk hl
 clear hl h
 go_enter Try.func16, Try.ntmps16
 go_upto_region 2 with (first | ((with_reducible refine gate_callee (f := 33) rfl ?_); refine goesL_ (some 9) rfl rfl Try.func33 (by kernel_rfl) rfl #[.slice A0 l0.length c0] rfl (by (try simp only [List.map_toArray, List.map_cons, List.map_nil]); first | done | rfl) ?_; (with_reducible refine (lang_Check.calls k _ _ l0 e1 _ HR0.out HC0.out HLC.out).mono ?_); rintro e w5 ⟨rfl, hb⟩; refine ⟨_, rfl, ?_⟩; have HB := Aside0.mk hb; clear hb))
 by_cases c1 : e1 = 0
 ·
  subst c1
  rw [if_pos rfl] at H
  obtain ⟨⟨e2, n2, m2⟩, hblk, H⟩ := Option.bind_eq_some_iff.mp H
  have HBL := Aside0.mk hblk
  clear hblk
  go_upto_region 5 with (first | ((with_reducible refine gate_dst (N := 14) rfl ?_); refine box_event ?hg (N := 14) ?hd (cs := #[.int .i64 0, .int .i64 0]) (t := 66) ?hr ?_; (case hd => rfl); (case hg => rfl); (case hr => first | (go_simp; done) | (go_simp; rfl)); intro gb hg w7 hbox hb; have GB := Aside0.mk hbox; have HB7 := Aside0.mk (below_step HB.out hb); have GE := Aside0.mk (show w.heap.size ≤ gb by rw [hg]; exact below_size HB.out); clear hbox hb hg))
  go_wp2_with (fail)
  refine (check_block.spec k gb 0 0 A0 c0 l0 e2 n2 m2 w _ GB.out GE.out HB7.out HR0.out HC0.out HBL.out).mono ?_
  rintro e w8 ⟨rfl, hbk8, hb8⟩
  have BK8 := Aside0.mk hbk8
  have HB8 := Aside0.mk hb8
  clear hbk8 hb8 GB HB7
  by_cases c2 : e2 = 0
  ·
   subst c2
   obtain ⟨rfl, rfl, rfl⟩ : n2 = r1 ∧ m2 = r2 ∧ 0 = r3 := by simpa using H
   have hz0 : w8.cell? ⟨gb, 0, none⟩ = some (.int .i64 n2) := (blk_cell BK8.out 0).trans rfl
   have hz1 : w8.cell? ⟨gb, 1, none⟩ = some (.int .i64 m2) := (blk_cell BK8.out 1).trans rfl
   clear H
   go_wp2
   go_region
   go_wp2
   go_ret3
   exact ⟨by first | rfl | simp, by repeat (first | (with_reducible first | exact HB8.out | apply below_alloc | apply pw_below_drewN | apply below_drew1) | exact HB8.out)⟩
  ·
   rw [if_neg c2] at H
   obtain ⟨rfl, rfl, rfl⟩ : 0 = r1 ∧ 0 = r2 ∧ e2 = r3 := by simpa using H
   have c2b0 : (e2 == 0) = false := beq_eq_false_iff_ne.mpr c2
   have c2b1 : (e2 != 0) = true := bne_iff_ne.mpr c2
   clear H
   go_wp2
   go_ret3
   exact ⟨by first | rfl | simp, HB8.out⟩
 ·
  rw [if_neg c1] at H
  obtain ⟨rfl, rfl, rfl⟩ : 0 = r1 ∧ 0 = r2 ∧ e1 = r3 := by simpa using H
  have c1b0 : (e1 == 0) = false := beq_eq_false_iff_ne.mpr c1
  have c1b1 : (e1 != 0) = true := bne_iff_ne.mpr c1
  clear H
  go_wp2
  go_ret3
  exact ⟨by first | rfl | simp, HB.out⟩

end Go.Proofs.Ytchgjkfnmifgkaa.QE
