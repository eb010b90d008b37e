/- What thresherref6.Parse answers, by hand: its parser's words lie in a row led to out of its block. -/
import Derived.Test.YtchgjkfnmifgkaaQEx0
import Derived.Test.YtchgjkfnmifgkaaQEx7
import Derived.Test.YtchgjkfnmifgkaaQEx8
namespace Go.Proofs.Ytchgjkfnmifgkaa.QE
open Go.RowKit Go.Proofs.YtchgjkfnmifgkaaW.PrintWords Go.Proofs.YtchgjkfnmifgkaaW.PrintLast Go.Proofs.YtchgjkfnmifgkaaW.PrintMore
attribute [local go_sem] max2_int min2_int max_two min_two max_three min_three max_four min_four
set_option linter.unusedVariables false
set_option linter.unusedSimpArgs false

def wordL : List ByteArray := thresherref6_words.f.getD []
theorem wordL_eq : thresherref6_words.f = some wordL := rfl
theorem wordL_len : wordL.length = 29 := by decide
/-- At which place a word stands. -/
def wfind (w : ByteArray) : List ByteArray → Nat
 | [] => 0
 | x :: xs => if x.toList = w.toList then 0 else wfind w xs + 1
theorem wfind_le (w : ByteArray) : ∀ l, wfind w l ≤ l.length
 | [] => Nat.le_refl _
 | x :: xs => by
  have := wfind_le w xs
  simp only [wfind, List.length_cons]
  split <;> omega
/-- An op's kind (0: none) and number. -/
def opOf (w : ByteArray) (nb : Int × Bool) : Int × Int := if nb.2 = true then (1, nb.1) else if wfind w wordL = 29 then (0, 0) else (2 + (wfind w wordL : Int), 0)

def pblock : Nat → Int → List ByteArray → Int → List S34 → Option (List S34 × Int × List ByteArray × Int)
 | 0, _, _, _, _ => none
 | _ + 1, d, [], many, out => if d > 0 then some ([], 6, [], many) else some (out, 0, [], many)
 | k + 1, d, w :: ws, many, out =>
  if w.toList = ([93] : List UInt8) then (if d = 0 then some ([], 7, ws, many) else some (out, 0, ws, many))
  else (thresherref6_number.f k w).bind fun nb =>
   if (opOf w nb).1 = 0 then some ([], 7, ws, many)
   else if wrap64 (many + 1) > 128 then some ([], 2, ws, wrap64 (many + 1))
   else if (opOf w nb).1 = 28 ∨ (opOf w nb).1 = 29 then
    (match ws with
    | [] => some ([], 6, [], wrap64 (many + 1))
    | b :: ws' => if b.toList = ([91] : List UInt8) then
      (if wrap64 (d + 1) > 6 then some ([], 2, ws', wrap64 (many + 1))
      else (pblock k (wrap64 (d + 1)) ws' (wrap64 (many + 1)) []).bind fun r =>
       if r.2.1 = 0 then (if out.length < 1000000 then pblock k d r.2.2.1 r.2.2.2 (out ++ [⟨(opOf w nb).1, (opOf w nb).2, r.1⟩]) else none)
       else some ([], r.2.1, r.2.2.1, r.2.2.2))
     else some ([], 7, b :: ws', wrap64 (many + 1)))
   else if out.length < 1000000 then pblock k d ws (wrap64 (many + 1)) (out ++ [⟨(opOf w nb).1, (opOf w nb).2, []⟩]) else none

theorem pblock.mono_l : ∀ k d ws many out, LeO (pblock k d ws many out) (pblock (k + 1) d ws many out)
 | 0, _, _, _, _ => fun r h => by simp [pblock] at h
 | k + 1, d, [], many, out => by simp only [pblock]; exact LeO.refl _
 | k + 1, d, w :: ws, many, out => by
  have ih := pblock.mono_l k
  rw [pblock, pblock]
  refine LeO.ite (LeO.refl _) (LeO.bind (thresherref6_number.mono _ _) fun nb => LeO.ite (LeO.refl _) (LeO.ite (LeO.refl _) (LeO.ite ?_ (LeO.ite (ih _ _ _ _) (LeO.none _)))))
  cases ws with
  | nil => exact LeO.refl _
  | cons b ws' => exact LeO.ite (LeO.ite (LeO.refl _) (LeO.bind (ih _ _ _ _) fun _ => LeO.ite (LeO.ite (ih _ _ _ _) (LeO.none _)) (LeO.refl _))) (LeO.refl _)

/-- How a block leaves the world: its ops in rows made since, the words that are left. -/
structure PPost (w0 w : World) (g : Nat) (r : List S34) (e : Int) (ws' : List ByteArray) (many' : Int) (ev : Ending) (w' : World) : Prop where
 out : ∃ v A' c', ev = .returned (.tuple #[v, .int .i64 e]) ∧ Kd.R k34 34 w' w.heap.size (fun _ => True) v r ∧ w'.heap[g]? = some (.cells #[.slice A' ws'.length c', .int .i64 many'] 73 (0, 0)) ∧ Kd.C Kd.string w0 A' ws'.length ws' ∧ ws'.length ≤ c' ∧ KeepBut w w' g none ∧ Below w0.heap.size w0 w'

theorem keep_new {w w1 : World} {g : Nat} (h : KeepBut w w1 g none) {p : Addr} (hb : w.heap.size ≤ p.block) (u : Value) : KeepBut w (w1.setCell p u) g none :=
 ⟨by simpa [World.setCell] using h.1, fun i hi hg hr => (Below.heap_setCell w1 p u i (by omega)).trans (h.2 i hi hg hr)⟩
theorem keep_then {w W w1 : World} {g : Nat} (h : KeepBut w W g none) (hb : Below w.heap.size W w1) : KeepBut w w1 g none := ⟨Nat.le_trans h.1 hb.size, fun i hi hg hr => (hb.block i hi).trans (h.2 i hi hg hr)⟩
theorem below_then2 {w0 w W w1 : World} (h : Below w0.heap.size w0 W) (hb : Below w.heap.size W w1) (hle : w0.heap.size ≤ w.heap.size) : Below w0.heap.size w0 w1 :=
 ⟨hb.os.trans h.os, hb.tape.trans h.tape, hb.output.trans h.output, Nat.le_trans h.size hb.size, fun i hi => (hb.block i (Nat.lt_of_lt_of_le hi hle)).trans (h.block i hi)⟩
/-- What is known of a world while an op is being read: the op's block, the parser's, the ops read so far, what is kept. -/
structure PInv (w0 w : World) (g gb : Nat) (kd nm : Int) (A2 : Option Addr) (c2 : Nat) (ws : List ByteArray) (m : Int) (vo : Value) (out : List S34) (wc : World) : Prop where
 box : wc.heap[gb]? = some (.cells #[.int .i64 kd, .int .i64 nm, .slice none 0 0] 34 (0, 0))
 blk : wc.heap[g]? = some (.cells #[.slice A2 ws.length c2, .int .i64 m] 73 (0, 0))
 out : Kd.R k34 34 wc w.heap.size (fun k_ => True ∧ k_ ≠ gb) vo out
 keep : KeepBut w wc g none
 bel : Below w0.heap.size w0 wc
section
variable {w0 w : World} {g gb : Nat} {kd nm : Int} {A2 : Option Addr} {c2 : Nat} {ws : List ByteArray} {m : Int} {vo : Value} {out : List S34} {wc w1 : World}
theorem PInv.below (h : PInv w0 w g gb kd nm A2 c2 ws m vo out wc) (hb : Below wc.heap.size wc w1) : PInv w0 w g gb kd nm A2 c2 ws m vo out w1 :=
 ⟨blk_below h.box hb, blk_below h.blk hb, Kd.R_below h.out hb, h.keep.trans (KeepBut.of_below hb g none) (.inl rfl), below_step h.bel hb⟩
theorem PInv.drewN (h : PInv w0 w g gb kd nm A2 c2 ws m vo out wc) (n : Nat) : PInv w0 w g gb kd nm A2 c2 ws m vo out (wc.drewN n) := ⟨h.box, h.blk, Kd.R_drewN h.out n, h.keep, pw_below_drewN h.bel n⟩
theorem PInv.setKind (h : PInv w0 w g gb kd nm A2 c2 ws m vo out wc) (hg : w0.heap.size ≤ gb ∧ w.heap.size ≤ gb) (x : Int) : PInv w0 w g gb x nm A2 c2 ws m vo out (wc.setCell ⟨gb, 0, none⟩ (.int .i64 x)) :=
 ⟨blk_put h.box 0 _ rfl, blk_far h.blk (blk_ne h.blk h.box (by decide)) _, Kd.R_far h.out (fun k hk => hk.2) _, keep_new h.keep hg.2 _, below_set h.bel hg.1⟩
theorem PInv.setNum (h : PInv w0 w g gb kd nm A2 c2 ws m vo out wc) (hg : w0.heap.size ≤ gb ∧ w.heap.size ≤ gb) (x : Int) : PInv w0 w g gb kd x A2 c2 ws m vo out (wc.setCell ⟨gb, 1, none⟩ (.int .i64 x)) :=
 ⟨blk_put h.box 1 _ rfl, blk_far h.blk (blk_ne h.blk h.box (by decide)) _, Kd.R_far h.out (fun k hk => hk.2) _, keep_new h.keep hg.2 _, below_set h.bel hg.1⟩
theorem PInv.setMany (h : PInv w0 w g gb kd nm A2 c2 ws m vo out wc) (hg : w0.heap.size ≤ g) (x : Int) : PInv w0 w g gb kd nm A2 c2 ws x vo out (wc.setCell ⟨g, 1, none⟩ (.int .i64 x)) :=
 ⟨blk_far h.box (Ne.symm (blk_ne h.blk h.box (by decide))) _, blk_put h.blk 1 _ rfl, Kd.R_set h.out h.blk (by decide) 1 _, h.keep.set_ 1 _, below_set h.bel hg⟩
theorem PInv.setWords (h : PInv w0 w g gb kd nm A2 c2 ws m vo out wc) (hg : w0.heap.size ≤ g) (A3 : Option Addr) (c3 : Nat) (ws3 : List ByteArray) : PInv w0 w g gb kd nm A3 c3 ws3 m vo out (wc.setCell ⟨g, 0, none⟩ (.slice A3 ws3.length c3)) :=
 ⟨blk_far h.box (Ne.symm (blk_ne h.blk h.box (by decide))) _, blk_put h.blk 0 _ rfl, Kd.R_set h.out h.blk (by decide) 0 _, h.keep.set_ 0 _, below_set h.bel hg⟩
end

def ParseSpec (k : Nat) : Prop := ∀ (w0 w : World) (g : Nat) (A : Option Addr) (c : Nat) (ws : List ByteArray) (many d : Int) (r : List S34) (e : Int) (ws' : List ByteArray) (many' : Int),
 w.heap[g]? = some (.cells #[.slice A ws.length c, .int .i64 many] 73 (0, 0)) → Kd.C Kd.string w0 A ws.length ws → ws.length ≤ c → w0.heap.size ≤ g → Below w0.heap.size w0 w → pblock k d ws many [] = some (r, e, ws', many') →
 Calls Try.prog 39 #[.pointer (some ⟨g, 0, none⟩), .int .i64 d] w fun ev w' => PPost w0 w g r e ws' many' ev w'

set_option maxHeartbeats 8000000 in
set_option maxRecDepth 100000 in
theorem parser_block.spec : ∀ k, ParseSpec k := by
 intro k
 induction k using Nat.strongRecOn with
 | _ k ih =>
 intro w0 w g A c ws many d r e ws' many' hbk hC hc hg hB h
 cases k with
 | zero => simp [pblock] at h
 | succ k =>
 have hu34 := Try.underlying34
 have HC := Aside0.mk hC
 have HCC := Aside0.mk hc
 have HB := Aside0.mk hB
 have BK := Aside0.mk hbk
 have HG := Aside0.mk hg
 have HSZ := Aside0.mk (below_size hB)
 have H' := Aside0.mk h
 clear hC hc hB hbk hg h
 go_enter Try.func39, Try.ntmps39
 go_wp2
 go_loopg [6] (k + 1) (fun kq v6 w' => ∃ (out : List S34) (A1 : Option Addr) (c1 : Nat) (ws1 : List ByteArray) (m1 : Int), Aside0 (pblock kq d ws1 m1 out = some (r, e, ws', many')) ∧ Aside0 (kq ≤ k + 1) ∧ Aside0 (w'.heap[g]? = some (.cells #[.slice A1 ws1.length c1, .int .i64 m1] 73 (0, 0))) ∧ Aside0 (Kd.C Kd.string w0 A1 ws1.length ws1) ∧ Aside0 (ws1.length ≤ c1) ∧ Aside0 (Kd.R k34 34 w' w.heap.size (fun _ => True) v6 out) ∧ Aside0 (KeepBut w w' g none) ∧ Aside0 (Below w0.heap.size w0 w'))
 case atStart => exact ⟨[], A, c, ws, many, H', ⟨Nat.le_refl _⟩, BK, HC, HCC, ⟨Kd.R_nil _ _ _ _ _⟩, ⟨KeepBut.refl _ _ _⟩, HB⟩
 case round =>
  clear H' HB HC HCC
  obtain ⟨out, A1, c1, ws1, m1, HA, HK1, BK1, HC, HCC, HO, HKB, HB⟩ := hrel
  cases gk with
  | zero => exact absurd HA.out (by simp [pblock])
  | succ k1 =>
   have H := HA.out
   clear HA
   have hz0 : wr.cell? ⟨g, 0, none⟩ = some (.slice A1 ws1.length c1) := (blk_cell BK1.out 0).trans rfl
   have hz1 : wr.cell? ⟨g, 1, none⟩ = some (.int .i64 m1) := (blk_cell BK1.out 1).trans rfl
   have hzf0 := blk_frozen BK1.out 0
   have hzf1 := blk_frozen BK1.out 1
   cases ws1 with
   | nil =>
    obtain ⟨Ao, co, rfl⟩ := Kd.R_slice HO.out
    simp only [pblock] at H
    by_cases c9 : d > 0
    ·
     rw [if_pos c9] at H
     obtain ⟨rfl, rfl, rfl, rfl⟩ : [] = r ∧ 6 = e ∧ [] = ws' ∧ m1 = many' := by simpa using H
     have c9b0 : decide (0 < d) = true := decide_eq_true c9
     clear H
     go_wp2
     go_ret2
     exact ⟨⟨_, A1, c1, rfl, Kd.R_nil _ _ _ _ _, BK1.out, HC.out, HCC.out, HKB.out, HB.out⟩⟩
    ·
     rw [if_neg c9] at H
     obtain ⟨rfl, rfl, rfl, rfl⟩ : out = r ∧ 0 = e ∧ [] = ws' ∧ m1 = many' := by simpa using H
     have c9b0 : decide (0 < d) = false := decide_eq_false c9
     clear H
     go_wp2
     go_ret2
     exact ⟨⟨_, A1, c1, rfl, HO.out, BK1.out, HC.out, HCC.out, HKB.out, HB.out⟩⟩
   | cons x ws2 =>
    simp only [pblock] at H
    have HH := Aside0.mk H
    clear H
    obtain ⟨ad, ea, hx⟩ := Kd.at_string HC.out (0 : Int) (by omega) (by simp)
    cases ea
    have hxr : rdOf ByteArray.empty (x :: ws2) (0 : Int) = x := rfl
    rw [hxr, show ad.add (0 : Int).toNat = ad from Addr.add_zero' ad] at hx
    replace hx := (HB.out.cell (World.block_lt_of_cell? w0 _ hx)).trans hx
    have hlen : (0 : Int) < ((x :: ws2).length : Int) := by simp
    have hl1 : (1 : Int) ≤ (ws2.length : Int) + 1 := by omega
    have hl2 : 1 ≤ c1 := by have := HCC.out; simp at this; omega
    go_upto_region 5 with (fail)
    have hadd : (if c1 = 1 then some ad else Option.map (fun x => x.add (1 * Kd.string.sz)) (some ad)) = (if c1 = 1 then some ad else some { block := ad.block, off := ad.off + 1 }) := by
     simp [Addr.add, Kd.string, Kd.scalar]
    have HC2 : Aside0 (Kd.C Kd.string w0 (if c1 = 1 then some ad else some { block := ad.block, off := ad.off + 1 }) ws2.length ws2) := ⟨by
     have h_ := Kd.C_drop (m := 1) HC.out (by simp) HCC.out
     rw [hadd] at h_
     exact h_⟩
    generalize hA2 : (if c1 = 1 then some ad else some { block := ad.block, off := ad.off + 1 }) = A2 at HC2 ⊢
    have HCC2 := Aside0.mk (show ws2.length ≤ c1 - 1 by have := HCC.out; simp at this; omega)
    have BK2 := Aside0.mk (blk_put (cs := #[.slice (some ad) (x :: ws2).length c1, .int .i64 m1]) (cs' := #[.slice A2 ws2.length (c1 - 1), .int .i64 m1]) BK1.out 0 (.slice A2 ws2.length (c1 - 1)) rfl)
    have HO2 := Aside0.mk (Kd.R_set HO.out BK1.out (by decide) 0 (.slice A2 ws2.length (c1 - 1)))
    have HK2 := Aside0.mk (HKB.out.set_ 0 (.slice A2 ws2.length (c1 - 1)))
    have HB2 : Aside0 (Below w0.heap.size w0 (wr.setCell ⟨g, 0, none⟩ (.slice A2 ws2.length (c1 - 1)))) := ⟨below_set HB.out HG.out⟩
    generalize hw2 : wr.setCell ⟨g, 0, none⟩ (.slice A2 ws2.length (c1 - 1)) = w2 at BK2 HO2 HK2 HB2 ⊢
    clear hw2 hA2 hadd BK1 HO HKB HB HC HCC hz0 hz1 hzf0 hzf1 hx hl1 hl2 hlen hxr
    generalize c1 - 1 = c2 at BK2 HCC2 ⊢
    have H := HH.out
    clear HH
    by_cases q1 : x.toList = ([93] : List UInt8)
    ·
     rw [if_pos q1] at H
     have q1b0 : (x.toList == ([93] : List UInt8)) = true := beq_iff_eq.mpr q1
     by_cases q2 : d = 0
     ·
      subst q2
      rw [if_pos rfl] at H
      obtain ⟨rfl, rfl, rfl, rfl⟩ : [] = r ∧ 7 = e ∧ ws2 = ws' ∧ m1 = many' := by simpa using H
      clear H
      go_wp2
      go_ret2
      exact ⟨⟨_, A2, c2, rfl, Kd.R_nil _ _ _ _ _, BK2.out, HC2.out, HCC2.out, HK2.out, HB2.out⟩⟩
     ·
      rw [if_neg q2] at H
      have q2b0 : (d == 0) = false := beq_eq_false_iff_ne.mpr q2
      obtain ⟨rfl, rfl, rfl, rfl⟩ : out = r ∧ 0 = e ∧ ws2 = ws' ∧ m1 = many' := by simpa using H
      clear H
      go_wp2
      go_ret2
      exact ⟨⟨_, A2, c2, rfl, HO2.out, BK2.out, HC2.out, HCC2.out, HK2.out, HB2.out⟩⟩
    ·
     rw [if_neg q1] at H
     have q1b0 : (x.toList == ([93] : List UInt8)) = false := beq_eq_false_iff_ne.mpr q1
     obtain ⟨⟨nn, nok⟩, hnum, H⟩ := Option.bind_eq_some_iff.mp H
     have HN := Aside0.mk hnum
     have HH := Aside0.mk H
     clear hnum H
     go_upto_region 10 with (first | ((with_reducible refine gate_dst (N := 8) rfl ?_); (try (refine gate_guard (by rfl) ?_; dsimp only)); refine box_event ?hg (N := 8) ?hd (cs := #[.int .i64 0, .int .i64 0, .slice none 0 0]) (t := 34) ?hr ?_; (case hd => rfl); (case hg => rfl); (case hr => first | (go_simp; done) | (go_simp; rfl)); intro gb hg w3 hbox hb; have GB3 := Aside0.mk hbox; have BK3 := Aside0.mk (blk_below BK2.out hb); have HB3 := Aside0.mk (below_step HB2.out hb); have HK3 := Aside0.mk (HK2.out.trans (KeepBut.of_below hb g none) (.inl rfl)); have HO3 := Aside0.mk (Kd.R_below (Kd.R_elderB HO2.out gb (by rw [hg]; exact Nat.le_refl _)) hb); have GE := Aside0.mk (show w0.heap.size ≤ gb ∧ w.heap.size ≤ gb by rw [hg]; exact ⟨below_size HB2.out, HK2.out.1⟩); clear hbox hb hg; have hcz0 : w3.cell? ⟨gb, 0, none⟩ = some (.int .i64 0) := (blk_cell GB3.out 0).trans rfl; have hcz1 : w3.cell? ⟨gb, 1, none⟩ = some (.int .i64 0) := (blk_cell GB3.out 1).trans rfl; have hcz2 : w3.cell? ⟨gb, 2, none⟩ = some (.slice none 0 0) := (blk_cell GB3.out 2).trans rfl; have hfz0 := blk_frozen GB3.out 0; have hfz1 := blk_frozen GB3.out 1; have hfz2 := blk_frozen GB3.out 2))
     have GB1 := Aside0.mk (blk_put (cs := #[.int .i64 0, .int .i64 0, .slice none 0 0]) (cs' := #[.int .i64 1, .int .i64 0, .slice none 0 0]) GB3.out 0 (.int .i64 1) rfl)
     have GB2 := Aside0.mk (blk_put (cs := #[.int .i64 1, .int .i64 0, .slice none 0 0]) (cs' := #[.int .i64 1, .int .i64 0, .slice none 0 0]) GB1.out 1 (.int .i64 0) rfl)
     have GB4 := Aside0.mk (blk_put (cs := #[.int .i64 1, .int .i64 0, .slice none 0 0]) (cs' := #[.int .i64 1, .int .i64 0, .slice none 0 0]) GB2.out 2 (.slice none 0 0) rfl)
     have hne := blk_ne BK3.out GB3.out (by decide)
     have PI : Aside0 (PInv w0 w g gb 1 0 A2 c2 ws2 m1 u6 out (((w3.setCell ⟨gb, 0, none⟩ (.int .i64 1)).setCell ⟨gb, 1, none⟩ (.int .i64 0)).setCell ⟨gb, 2, none⟩ (.slice none 0 0))) := ⟨⟨GB4.out, blk_far (blk_far (blk_far BK3.out hne _) hne _) hne _, Kd.R_far (Kd.R_far (Kd.R_far HO3.out (fun k hk => hk.2) _) (fun k hk => hk.2) _) (fun k hk => hk.2) _, keep_new (keep_new (keep_new HK3.out GE.out.2 _) GE.out.2 _) GE.out.2 _, below_set (below_set (below_set HB3.out GE.out.1) GE.out.1) GE.out.1⟩⟩
     generalize hw4 : (((w3.setCell ⟨gb, 0, none⟩ (.int .i64 1)).setCell ⟨gb, 1, none⟩ (.int .i64 0)).setCell ⟨gb, 2, none⟩ (.slice none 0 0)) = w4 at PI ⊢
     clear hw4 GB1 GB2 GB4 GB3 BK3 HB3 HK3 HO3 BK2 HO2 HK2 HB2 hcz0 hcz1 hcz2 hfz0 hfz1 hfz2
     go_upto_if 46 with (first | (go_at_call 49; (with_reducible refine (thresherref6_number.calls k1 x nn nok _ HN.out).mono ?_); rintro e w' ⟨rfl, ⟨nd, rfl⟩⟩; have PI5 := Aside0.mk (PI.out.drewN nd)))
     clear PI
     go_cut [] (fun wc => ∃ (kd nm : Int), Aside0 (opOf x (nn, nok) = (kd, nm)) ∧ Aside0 (kd ≠ 0) ∧ Aside0 (PInv w0 w g gb kd nm A2 c2 ws2 m1 u6 out wc))
     case first =>
      by_cases q3 : nok = true
      ·
       subst q3
       have hz1 : (w4.drewN nd).cell? ⟨gb, 1, none⟩ = some (.int .i64 0) := (blk_cell PI5.out.box 1).trans rfl
       have hzf1 := blk_frozen PI5.out.box 1
       go_wp2
       go_meet
       case rel => exact ⟨1, nn, ⟨by simp [opOf]⟩, ⟨by decide⟩, ⟨PI5.out.setNum GE.out nn⟩⟩
      ·
       replace q3 := Bool.eq_false_iff.mpr q3
       subst q3
       go_wp2_with (first | ((with_reducible refine gate_callee (f := 50) rfl ?_); refine goesL_ (some 49) rfl rfl Try.func50 (by kernel_rfl) rfl #[] rfl (by (try simp only [List.map_toArray, List.map_cons, List.map_nil]); first | done | rfl) ?_; (with_reducible refine (thresherref6_words.calls wordL _ wordL_eq).mono ?_); rintro e6 w6 ⟨vw, rfl, hr6, hb6⟩; obtain ⟨Aw, cw, rfl⟩ := Kd.R_slice hr6; rw [wordL_len] at hr6 ⊢; refine ⟨_, rfl, ?_⟩; have HW := Aside0.mk hr6; have PI6 := Aside0.mk (PI5.out.below hb6); clear hr6 hb6))
       go_loopg [11] 30 (fun kq v11 w' => ∃ i : Nat, v11 = .int .i64 (i : Int) ∧ Aside0 (kq + i = 30) ∧ Aside0 (i + wfind x (wordL.drop i) = wfind x wordL) ∧ Aside0 (i ≤ 29) ∧ Drawn0 w6 w')
       case atStart => exact ⟨0, rfl, ⟨rfl⟩, ⟨by simp⟩, ⟨by omega⟩, ⟨⟨0, rfl⟩⟩⟩
       case round =>
        obtain ⟨i, rfl, HKI, HWI, HI, ⟨md, rfl⟩⟩ := hrel
        have PI7 := Aside0.mk (PI6.out.drewN md)
        have HW7 := Aside0.mk (Kd.R_drewN HW.out md)
        by_cases q4 : i < 29
        ·
         have q4b0 : decide ((i : Int) < 29) = true := decide_eq_true (by omega)
         have p8 : (0 : Int) ≤ (i : Int) := by omega
         have q8 : (i : Int) < 29 := by omega
         have hlt : i < wordL.length := by rw [wordL_len]; exact q4
         obtain ⟨aw, eaw, hxw⟩ := Kd.at_string (Kd.R_reads' HW7.out).2.2 (i : Int) p8 (by omega)
         cases eaw
         rw [Int.toNat_natCast] at hxw
         have hwi : wordL.drop i = rdOf ByteArray.empty wordL (i : Int) :: wordL.drop (i + 1) := by
          rw [List.drop_eq_getElem_cons hlt]
          simp [rdOf, hlt]
         generalize rdOf ByteArray.empty wordL (i : Int) = y at hxw hwi
         have hwf := HWI.out
         rw [hwi] at hwf
         simp only [wfind] at hwf
         by_cases q6 : y.toList = x.toList
         ·
          rw [if_pos q6] at hwf
          have hfin : wfind x wordL = i := by omega
          have q6b0 : (y.toList == x.toList) = true := beq_iff_eq.mpr q6
          have q6b1 : (y.toList != x.toList) = false := bne_eq_false_iff_eq.mpr q6
          have hkd : opOf x (nn, false) = (if i = 29 then (0, 0) else (2 + (i : Int), 0)) := by
           unfold opOf
           rw [hfin]
           simp
          by_cases q5 : i = 29
          ·
           subst q5
           have H := HH.out
           rw [hkd, if_pos rfl] at H
           simp only [if_pos] at H
           obtain ⟨rfl, rfl, rfl, rfl⟩ : [] = r ∧ 7 = e ∧ ws2 = ws' ∧ m1 = many' := by simpa using H
           have q5b0 : (((29 : Nat) : Int) == 29) = true := by decide
           clear H
           go_wp2
           go_ret2
           exact ⟨⟨_, A2, c2, rfl, Kd.R_nil _ _ _ _ _, PI7.out.blk, HC2.out, HCC2.out, PI7.out.keep, PI7.out.bel⟩⟩
          ·
           have q5b0 : ((i : Int) == 29) = false := beq_eq_false_iff_ne.mpr (by omega)
           have e2 : wrap64 (2 + (i : Int)) = 2 + (i : Int) := by have := HI.out; unfold wrap64; omega
           have hz0 : (w6.drewN md).cell? ⟨gb, 0, none⟩ = some (.int .i64 1) := (blk_cell PI7.out.box 0).trans rfl
           have hzf0 := blk_frozen PI7.out.box 0
           go_wp2
           go_meet
           case rel => exact ⟨2 + (i : Int), 0, ⟨by rw [hkd, if_neg q5]⟩, ⟨by omega⟩, ⟨PI7.out.setKind GE.out (2 + (i : Int))⟩⟩
         ·
          rw [if_neg q6] at hwf
          have q6b0 : (y.toList == x.toList) = false := beq_eq_false_iff_ne.mpr q6
          have q6b1 : (y.toList != x.toList) = true := bne_iff_ne.mpr q6
          have e3 : wrap64 ((i : Int) + 1) = ((i + 1 : Nat) : Int) := by unfold wrap64; omega
          go_wp2
          go_roundg (29 - i)
          case measure => have := HKI.out; omega
          case rel => exact ⟨i + 1, by first | rfl | simp, ⟨by omega⟩, ⟨by omega⟩, ⟨by omega⟩, ⟨⟨md, rfl⟩⟩⟩
        ·
         have hi29 : i = 29 := by have := HI.out; omega
         subst hi29
         have hfin : wfind x wordL = 29 := by
          have h_ := HWI.out
          rw [List.drop_eq_nil_of_le (by rw [wordL_len]; omega)] at h_
          simpa [wfind] using h_.symm
         have hkd : opOf x (nn, false) = (0, 0) := by
          unfold opOf
          rw [hfin]
          simp
         have H := HH.out
         rw [hkd] at H
         obtain ⟨rfl, rfl, rfl, rfl⟩ : [] = r ∧ 7 = e ∧ ws2 = ws' ∧ m1 = many' := by simpa using H
         clear H
         go_wp2
         go_ret2
         exact ⟨⟨_, A2, c2, rfl, Kd.R_nil _ _ _ _ _, PI7.out.blk, HC2.out, HCC2.out, PI7.out.keep, PI7.out.bel⟩⟩
     case rest =>
      clear PI5 HN
      obtain ⟨kd, nm, HKD, HK0, PI8⟩ := hcut
      have H := HH.out
      clear HH
      rw [HKD.out] at H
      dsimp only at H
      rw [if_neg HK0.out] at H
      have HH := Aside0.mk H
      clear H
      have hz1 : wc.cell? ⟨g, 1, none⟩ = some (.int .i64 m1) := (blk_cell PI8.out.blk 1).trans rfl
      have hzf1 := blk_frozen PI8.out.blk 1
      go_upto_region 21 with (fail)
      have PI9 := Aside0.mk (PI8.out.setMany HG.out (wrap64 (m1 + 1)))
      generalize hw9 : wc.setCell ⟨g, 1, none⟩ (.int .i64 (wrap64 (m1 + 1))) = w9 at PI9 ⊢
      clear hw9 PI8 hz1 hzf1
      generalize wrap64 (m1 + 1) = m2 at PI9 HH ⊢
      have hz1 : w9.cell? ⟨g, 1, none⟩ = some (.int .i64 m2) := (blk_cell PI9.out.blk 1).trans rfl
      have hx0 : w9.cell? ⟨gb, 0, none⟩ = some (.int .i64 kd) := (blk_cell PI9.out.box 0).trans rfl
      have hx1 : w9.cell? ⟨gb, 1, none⟩ = some (.int .i64 nm) := (blk_cell PI9.out.box 1).trans rfl
      have hx2 : w9.cell? ⟨gb, 2, none⟩ = some (.slice none 0 0) := (blk_cell PI9.out.box 2).trans rfl
      have H := HH.out
      clear HH
      by_cases q7 : m2 > 128
      ·
       rw [if_pos q7] at H
       obtain ⟨rfl, rfl, rfl, rfl⟩ : [] = r ∧ 2 = e ∧ ws2 = ws' ∧ m2 = many' := by simpa using H
       have q7b0 : decide (128 < m2) = true := decide_eq_true q7
       clear H
       go_wp2
       go_ret2
       exact ⟨⟨_, A2, c2, rfl, Kd.R_nil _ _ _ _ _, PI9.out.blk, HC2.out, HCC2.out, PI9.out.keep, PI9.out.bel⟩⟩
      ·
       rw [if_neg q7] at H
       have q7b0 : decide (128 < m2) = false := decide_eq_false q7
       have hlt9 := blk_lt PI9.out.box
       by_cases q8 : kd = 28 ∨ kd = 29
       ·
        rw [if_pos q8] at H
        have hz0 : w9.cell? ⟨g, 0, none⟩ = some (.slice A2 ws2.length c2) := (blk_cell PI9.out.blk 0).trans rfl
        have hzf0 := blk_frozen PI9.out.blk 0
        have HH := Aside0.mk H
        have HKDX := Aside0.mk q8
        clear H
        have q8a : (kd == 28) = true ∨ ((kd == 28) = false ∧ (kd == 29) = true) := by
         rcases q8 with rfl | rfl
         ·
          exact .inl rfl
         ·
          exact .inr ⟨rfl, rfl⟩
        clear q8
        cases ws2 with
        | nil =>
         have H := HH.out
         obtain ⟨rfl, rfl, rfl, rfl⟩ : [] = r ∧ 6 = e ∧ [] = ws' ∧ m2 = many' := by simpa using H
         clear H HH
         rcases q8a with q8a | ⟨q8a, q8b⟩
         all_goals
          go_wp2
          go_ret2
          exact ⟨⟨_, A2, c2, rfl, Kd.R_nil _ _ _ _ _, PI9.out.blk, HC2.out, HCC2.out, PI9.out.keep, PI9.out.bel⟩⟩
        | cons y ws3 =>
         have H := HH.out
         clear HH
         dsimp only at H
         obtain ⟨ad2, ea2, hx9⟩ := Kd.at_string HC2.out (0 : Int) (by omega) (by simp)
         cases ea2
         have hxr : rdOf ByteArray.empty (y :: ws3) (0 : Int) = y := rfl
         rw [hxr, show ad2.add (0 : Int).toNat = ad2 from Addr.add_zero' ad2] at hx9
         replace hx9 := (PI9.out.bel.cell (World.block_lt_of_cell? w0 _ hx9)).trans hx9
         have hl1 : (1 : Int) ≤ (ws3.length : Int) + 1 := by omega
         have hlen : (0 : Int) < ((y :: ws3).length : Int) := by simp
         have hln0 : (((y :: ws3).length : Int) == 0) = false := beq_eq_false_iff_ne.mpr (by simp; omega)
         by_cases q10 : y.toList = ([91] : List UInt8)
         ·
          rw [if_pos q10] at H
          have q10b0 : (y.toList == ([91] : List UInt8)) = true := beq_iff_eq.mpr q10
          have q10b1 : (y.toList != ([91] : List UInt8)) = false := bne_eq_false_iff_eq.mpr q10
          have HQ := Aside0.mk H
          clear H
          rcases q8a with q8a | ⟨q8a, q8b⟩
          all_goals
           go_upto_region 29 with (fail)
           have hadd : (if c2 = 1 then some ad2 else Option.map (fun x => x.add (1 * Kd.string.sz)) (some ad2)) = (if c2 = 1 then some ad2 else some { block := ad2.block, off := ad2.off + 1 }) := by
            simp [Addr.add, Kd.string, Kd.scalar]
           have HC3 : Aside0 (Kd.C Kd.string w0 (if c2 = 1 then some ad2 else some { block := ad2.block, off := ad2.off + 1 }) ws3.length ws3) := ⟨by
            have h_ := Kd.C_drop (m := 1) HC2.out (by simp) HCC2.out
            rw [hadd] at h_
            exact h_⟩
           generalize hA3 : (if c2 = 1 then some ad2 else some { block := ad2.block, off := ad2.off + 1 }) = A3 at HC3 ⊢
           have HCC3 := Aside0.mk (show ws3.length ≤ c2 - 1 by have := HCC2.out; simp at this; omega)
           have PI10 := Aside0.mk (PI9.out.setWords HG.out A3 (c2 - 1) ws3)
           generalize hw10 : w9.setCell ⟨g, 0, none⟩ (.slice A3 ws3.length (c2 - 1)) = w10 at PI10 ⊢
           generalize c2 - 1 = c3 at PI10 HCC3 ⊢
           clear hw10 hA3 hadd PI9 hz0 hz1 hzf0 hx0 hx1 hx2 hx9 hlt9 hl1 hlen hln0 hxr HC2 HCC2 q10b0 q10b1
           have H := HQ.out
           clear HQ
           by_cases q11 : wrap64 (d + 1) > 6
           ·
            rw [if_pos q11] at H
            obtain ⟨rfl, rfl, rfl, rfl⟩ : [] = r ∧ 2 = e ∧ ws3 = ws' ∧ m2 = many' := by simpa using H
            have q11b0 : decide (6 < wrap64 (d + 1)) = true := decide_eq_true q11
            clear H
            go_wp2
            go_ret2
            exact ⟨⟨_, A3, c3, rfl, Kd.R_nil _ _ _ _ _, PI10.out.blk, HC3.out, HCC3.out, PI10.out.keep, PI10.out.bel⟩⟩
           ·
            rw [if_neg q11] at H
            have q11b0 : decide (6 < wrap64 (d + 1)) = false := decide_eq_false q11
            obtain ⟨⟨r2, e2, ws4, m4⟩, hrec, H⟩ := Option.bind_eq_some_iff.mp H
            dsimp only at H
            have HREC := Aside0.mk hrec
            have HQ := Aside0.mk H
            clear hrec H
            go_wp2_with (fail)
            refine (ih k1 (by have := HK1.out; omega) w0 _ g A3 c3 ws3 m2 (wrap64 (d + 1)) r2 e2 ws4 m4 PI10.out.blk HC3.out HCC3.out HG.out PI10.out.bel HREC.out).mono ?_
            rintro e11 w11 ⟨v11, A4, c4, rfl, hr11, hbk11, hC11, hcc11, hkb11, hbel11⟩
            obtain ⟨Ar, cr, rfl⟩ := Kd.R_slice hr11
            have HBX := Aside0.mk ((hkb11.2 gb (blk_lt PI10.out.box) (Ne.symm (blk_ne PI10.out.blk PI10.out.box (by decide))) (by simp)).trans PI10.out.box)
            have HO11 := Aside0.mk (Kd.R_mono (ok' := fun k_ => (True ∧ k_ ≠ gb) ∧ k_ < w10.heap.size) (Kd.R_keep (Kd.R_mono (ok' := fun k_ => ((True ∧ k_ ≠ gb) ∧ k_ < w10.heap.size) ∧ k_ ≠ g) (Kd.R_bound (Kd.R_types PI10.out.out PI10.out.blk (by decide))) (fun k_ hk_ => ⟨⟨hk_.1.1, hk_.2.2.1⟩, hk_.1.2⟩)) hkb11 (fun k_ hk_ => hk_.2)) (fun k_ hk_ => hk_.1))
            have HR11 := Aside0.mk (Kd.R_mono (ok' := fun k_ => w10.heap.size ≤ k_) (Kd.R_bound hr11) (fun k_ hk_ => hk_.2.1))
            have BK11 := Aside0.mk hbk11
            have HC4 := Aside0.mk hC11
            have HCC4 := Aside0.mk hcc11
            have HK11 := Aside0.mk (PI10.out.keep.trans hkb11 (.inl rfl))
            have HB11 := Aside0.mk hbel11
            have HLT := Aside0.mk (blk_lt PI10.out.box)
            have HWS := Aside0.mk PI10.out.keep.1
            clear hr11 hbk11 hC11 hcc11 hkb11 hbel11 PI10 HC3 HCC3 HREC
            have H := HQ.out
            clear HQ
            by_cases q12 : e2 = 0
            ·
             subst q12
             rw [if_pos rfl] at H
             by_cases q9 : out.length < 1000000
             ·
              rw [if_pos q9] at H
              have H' := Aside0.mk H
              clear H
              have hy0 : w11.cell? ⟨gb, 0, none⟩ = some (.int .i64 kd) := (blk_cell HBX.out 0).trans rfl
              have hy1 : w11.cell? ⟨gb, 1, none⟩ = some (.int .i64 nm) := (blk_cell HBX.out 1).trans rfl
              have hy2 : w11.cell? ⟨gb, 2, none⟩ = some (.slice none 0 0) := (blk_cell HBX.out 2).trans rfl
              have hyf2 := blk_frozen HBX.out 2
              go_upto_region 35 with (fail)
              have HBX2 := Aside0.mk (blk_put (cs := #[.int .i64 kd, .int .i64 nm, .slice none 0 0]) (cs' := #[.int .i64 kd, .int .i64 nm, .slice Ar r2.length cr]) HBX.out 2 (.slice Ar r2.length cr) rfl)
              have HO12 := Aside0.mk (Kd.R_far (p := ⟨gb, 2, none⟩) HO11.out (fun k_ hk_ => hk_.1.2) (.slice Ar r2.length cr))
              have HR12 := Aside0.mk (Kd.R_far (p := ⟨gb, 2, none⟩) HR11.out (fun k_ hk_ => by have := HLT.out; show k_ ≠ gb; omega) (.slice Ar r2.length cr))
              have BK12 := Aside0.mk (blk_far (p := ⟨gb, 2, none⟩) BK11.out (blk_ne BK11.out HBX.out (by decide)) (.slice Ar r2.length cr))
              have HK12 := Aside0.mk (keep_new (p := ⟨gb, 2, none⟩) HK11.out GE.out.2 (.slice Ar r2.length cr))
              have HB12 : Aside0 (Below w0.heap.size w0 (w11.setCell ⟨gb, 2, none⟩ (.slice Ar r2.length cr))) := ⟨below_set HB11.out GE.out.1⟩
              generalize hw12 : w11.setCell ⟨gb, 2, none⟩ (.slice Ar r2.length cr) = w12 at HBX2 HO12 HR12 BK12 HK12 HB12 ⊢
              clear hw12 HBX HO11 HR11 BK11 HK11 HB11 hy0 hy1 hy2 hyf2
              obtain ⟨Ao, co, rfl⟩ := Kd.R_slice HO12.out
              have hy0 : w12.cell? ⟨gb, 0, none⟩ = some (.int .i64 kd) := (blk_cell HBX2.out 0).trans rfl
              have hy1 : w12.cell? ⟨gb, 1, none⟩ = some (.int .i64 nm) := (blk_cell HBX2.out 1).trans rfl
              have hy2 : w12.cell? ⟨gb, 2, none⟩ = some (.slice Ar r2.length cr) := (blk_cell HBX2.out 2).trans rfl
              have HOWN := Aside0.mk (fun k_ (hk_ : (Value.slice Ao out.length co).ownBlock = some k_) => (HO12.out.1 k_ hk_).2)
              go_wp2_with (first | ((with_reducible refine gate_builtin (b := .append) (xs := #[.tmp 127, .tmp 129]) rfl ?_); at_builtin; refine Kd.R_append k34 (w0 := w12) w.heap.size rfl (.tmp 127) (.tmp 129) 23 34 (.agg #[(.int .i64 0), (.int .i64 0), (.slice none 0 0)]) 40 rfl Try.underlying23 info34 rfl (by decide) (by omega) (.slice Ao out.length co) out (⟨kd, nm, r2⟩ : S34) [.int .i64 kd, .int .i64 nm, .slice Ar r2.length cr] (fun _ => True) (fun k_ => w10.heap.size ≤ k_) rfl rfl ?aP (fun k_ hk_ => ⟨trivial, fun e_ => by have := HOWN.out k_ e_.symm; omega⟩) ?aF ?aO ?aB ?aS ?aL ?_; (case aP => exact k34_mkM _ _ _ (⟨kd, nm, r2⟩ : S34) (Kd.R_lower HR12.out HWS.out)); (case aB => exact Below.refl _ _); (case aF => exact (fun _ _ => trivial)); (case aO => exact Kd.R_mono HO12.out (fun _ _ => trivial)); (case aS => exact HK12.out.1); (case aL => omega); intro v1 w13 ho hb hg hat; have HO13 := Aside0.mk ho; have HB13 := Aside0.mk (below_then2 HB12.out hb HSZ.out); have HK13 := Aside0.mk (keep_then HK12.out hb); have BK13 := Aside0.mk (blk_grown BK12.out hg (Kd.R_ne HO12.out BK12.out (by decide))); clear ho hb hg hat))
              go_roundg k1
              case measure => have := HK1.out; omega
              case rel => exact ⟨_, A4, c4, ws4, m4, H', ⟨by have := HK1.out; omega⟩, BK13, HC4, HCC4, HO13, HK13, HB13⟩
             ·
              rw [if_neg q9] at H
              exact absurd H (by simp)
            ·
             rw [if_neg q12] at H
             obtain ⟨rfl, rfl, rfl, rfl⟩ : [] = r ∧ e2 = e ∧ ws4 = ws' ∧ m4 = many' := by simpa using H
             have q12b0 : (e2 == 0) = false := beq_eq_false_iff_ne.mpr q12
             have q12b1 : (e2 != 0) = true := bne_iff_ne.mpr q12
             clear H
             go_wp2
             go_ret2
             exact ⟨⟨_, A4, c4, rfl, Kd.R_nil _ _ _ _ _, BK11.out, HC4.out, HCC4.out, HK11.out, HB11.out⟩⟩
         ·
          rw [if_neg q10] at H
          have q10b0 : (y.toList == ([91] : List UInt8)) = false := beq_eq_false_iff_ne.mpr q10
          have q10b1 : (y.toList != ([91] : List UInt8)) = true := bne_iff_ne.mpr q10
          obtain ⟨rfl, rfl, rfl, rfl⟩ : [] = r ∧ 7 = e ∧ y :: ws3 = ws' ∧ m2 = many' := by simpa using H
          clear H
          rcases q8a with q8a | ⟨q8a, q8b⟩
          all_goals
           go_wp2
           go_ret2
           exact ⟨⟨_, some ad2, c2, rfl, Kd.R_nil _ _ _ _ _, PI9.out.blk, HC2.out, HCC2.out, PI9.out.keep, PI9.out.bel⟩⟩
       ·
        rw [if_neg q8] at H
        have q8a : (kd == 28) = false := beq_eq_false_iff_ne.mpr (fun h_ => q8 (.inl h_))
        have q8b : (kd == 29) = false := beq_eq_false_iff_ne.mpr (fun h_ => q8 (.inr h_))
        by_cases q9 : out.length < 1000000
        ·
         rw [if_pos q9] at H
         have H' := Aside0.mk H
         clear H
         obtain ⟨Ao, co, rfl⟩ := Kd.R_slice PI9.out.out
         go_wp2_with (first | ((with_reducible refine gate_builtin (b := .append) (xs := #[.tmp 127, .tmp 129]) rfl ?_); at_builtin; refine Kd.R_append k34 (w0 := w9) w.heap.size rfl (.tmp 127) (.tmp 129) 23 34 (.agg #[(.int .i64 0), (.int .i64 0), (.slice none 0 0)]) 40 rfl Try.underlying23 info34 rfl (by decide) (by omega) (.slice Ao out.length co) out (⟨kd, nm, []⟩ : S34) [.int .i64 kd, .int .i64 nm, .slice none 0 0] (fun k_ => True ∧ k_ ≠ gb) (fun _ => False) rfl rfl ?aP (fun _ hk => hk.elim) ?aF ?aO ?aB ?aS ?aL ?_; (case aP => exact k34_mkM _ _ _ (⟨kd, nm, []⟩ : S34) (Kd.R_nil _ _ _ _ _)); (case aB => exact Below.refl _ _); (case aF => exact (fun k_ hk_ => ⟨trivial, by omega⟩)); (case aO => exact PI9.out.out); (case aS => exact PI9.out.keep.1); (case aL => omega); intro v1 w10 ho hb hg hat; have HO10 := Aside0.mk (Kd.R_mono ho (fun _ _ => trivial)); have HB10 := Aside0.mk (below_then2 PI9.out.bel hb HSZ.out); have HK10 := Aside0.mk (keep_then PI9.out.keep hb); have BK10 := Aside0.mk (blk_grown PI9.out.blk hg (Kd.R_ne PI9.out.out PI9.out.blk (by decide))); clear ho hb hg hat))
         go_roundg k1
         case measure => have := HK1.out; omega
         case rel => exact ⟨_, A2, c2, ws2, m2, H', ⟨by have := HK1.out; omega⟩, BK10, HC2, HCC2, HO10, HK10, HB10⟩
        ·
         rw [if_neg q9] at H
         exact absurd H (by simp)

def thresherref6_Parse.f (k : Nat) (a0 : ByteArray) : Option (List S34 × Int) := if (a0.size : Int) > 512 then some ([], 2) else (thresherref6_split.f k a0).bind fun ws => (pblock k 0 ws 0 []).bind fun r => some (r.1, r.2.1)
theorem thresherref6_Parse.mono : ∀ a0 k, LeO (thresherref6_Parse.f k a0) (thresherref6_Parse.f (k + 1) a0) := by
 intro a0 k
 unfold thresherref6_Parse.f
 exact LeO.ite (LeO.refl _) (LeO.bind (thresherref6_split.mono _ _) fun _ => LeO.bind (pblock.mono_l _ _ _ _ _) fun _ => LeO.refl _)

set_option maxHeartbeats 8000000 in
set_option maxRecDepth 100000 in
theorem thresherref6_Parse.calls (k : Nat) (a0 : ByteArray) (r1 : List S34) (r2 : Int) (w : World) (h : thresherref6_Parse.f k a0 = some (r1, r2)) :
  Calls Try.prog 21 #[.string a0] w fun e w' => ∃ v0_ : Value, e = .returned (.tuple #[v0_, .int .i64 r2]) ∧ Kd.R k34 34 w' w.heap.size (fun _ => True) v0_ r1 ∧ Below w.heap.size w w' := by
 unfold thresherref6_Parse.f at h
 by_cases c1 : (a0.size : Int) > 512
 ·
  rw [if_pos c1] at h
  obtain ⟨rfl, rfl⟩ : [] = r1 ∧ 2 = r2 := by simpa using h
  have c1b0 : decide (512 < (a0.size : Int)) = true := decide_eq_true c1
  clear h
  go_enter Try.func21, Try.ntmps21
  go_wp2
  go_ret2
  exact ⟨_, rfl, Kd.R_nil _ _ _ _ _, Below.refl _ _⟩
 ·
  rw [if_neg c1] at h
  have c1b0 : decide (512 < (a0.size : Int)) = false := decide_eq_false c1
  obtain ⟨ws, hs, h⟩ := Option.bind_eq_some_iff.mp h
  obtain ⟨⟨r, e, ws', m'⟩, hp, h⟩ := Option.bind_eq_some_iff.mp h
  obtain ⟨rfl, rfl⟩ : r = r1 ∧ e = r2 := by simpa using h
  have HS := Aside0.mk hs
  have HP := Aside0.mk hp
  clear hs hp h
  go_enter Try.func21, Try.ntmps21
  go_upto_region 4 with (first | ((with_reducible refine gate_callee (f := 38) rfl ?_); refine goesL_ (some 9) rfl rfl Try.func38 (by kernel_rfl) rfl #[.string a0] rfl (by (try simp only [List.map_toArray, List.map_cons, List.map_nil]); first | done | rfl) ?_; (with_reducible refine (thresherref6_split.calls k a0 ws _ HS.out).mono ?_); rintro e5 w5 ⟨vw, rfl, hr5, hb5⟩; obtain ⟨Aw, cw, rfl⟩ := Kd.R_slice hr5; refine ⟨_, rfl, ?_⟩; have HW := Aside0.mk (Kd.R_reads' hr5); have HB5 := Aside0.mk hb5; clear hr5 hb5) | ((with_reducible refine gate_dst (N := 11) rfl ?_); refine box_event ?hg (N := 11) ?hd (cs := #[.slice Aw ws.length cw, .int .i64 0]) (t := 73) ?hr ?_; (case hd => rfl); (case hg => rfl); (case hr => first | (go_simp; done) | (go_simp; rfl)); intro g hg w6 hbox hb; have GB6 := Aside0.mk hbox; have HB6 := Aside0.mk hb; have GE := Aside0.mk (show w5.heap.size ≤ g by rw [hg]; exact Nat.le_refl _); clear hbox hb hg))
  go_wp2_with (fail)
  refine (parser_block.spec k w5 _ g Aw cw ws 0 0 r e ws' m' GB6.out HW.out.2.2 HW.out.2.1 GE.out HB6.out HP.out).mono ?_
  rintro e7 w7 ⟨v7, A7, c7, rfl, hr7, hbk7, hC7, hcc7, hkb7, hbel7⟩
  have HR7 := Aside0.mk (Kd.R_lower hr7 (Nat.le_trans HB5.out.size HB6.out.size))
  have HB7 := Aside0.mk (below_step HB5.out hbel7)
  clear hr7 hbk7 hC7 hcc7 hkb7 hbel7
  go_wp2
  go_ret2
  exact ⟨_, rfl, HR7.out, HB7.out⟩

end Go.Proofs.Ytchgjkfnmifgkaa.QE
