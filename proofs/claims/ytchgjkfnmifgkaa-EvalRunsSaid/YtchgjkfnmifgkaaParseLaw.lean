/- Whatever a text is, the page's parser ends, and its ops are trees: in plain Lean. -/
import Derived.Test.YtchgjkfnmifgkaaHParse
import Derived.Test.YtchgjkfnmifgkaaEvLaws
namespace Go.Proofs.Ytchgjkfnmifgkaa.QE
open Go.RowKit Go.Proofs.YtchgjkfnmifgkaaW.PrintWords Go.Proofs.YtchgjkfnmifgkaaW.PrintLast Go.Proofs.YtchgjkfnmifgkaaW.PrintMore
set_option linter.unusedVariables false
set_option linter.unusedSimpArgs false

theorem toList_nil {s : ByteArray} (h : s.size = 0) : s.toList = ([] : List UInt8) := by
 obtain ⟨⟨l⟩⟩ := s
 have : l = [] := List.length_eq_zero_iff.mp h
 subst this
 first | decide | (unfold ByteArray.toList; unfold ByteArray.toList.loop; simp [ByteArray.size])

theorem num_l0 (s : ByteArray) (b : Bool) (hs : s.size ≤ 19) : ∀ (dd i : Nat) (acc : Int), i + dd = s.size → ∃ r, Ev (fun k => thresherref6_number.l0 k s b acc (i : Int)) r := by
 intro dd
 induction dd with
 | zero =>
  intro i acc hi
  cases b with
  | true =>
   by_cases c : acc > 9223372036854775808
   ·
    exact ⟨(0, false), Ev.step (f := fun _ => some (0, false)) (fun k => by rw [thresherref6_number.l0, if_neg (by omega), if_pos rfl, if_pos c]) (Ev.now _)⟩
   ·
    exact ⟨_, Ev.step (f := fun _ => some (wrap64 (IntKind.u64.wrap ((Go.bits .xor .u64 18446744073709551615 acc) + 1)), true)) (fun k => by rw [thresherref6_number.l0, if_neg (by omega), if_pos rfl, if_neg c]) (Ev.now _)⟩
  | false =>
   by_cases c : acc ≥ 9223372036854775808
   ·
    exact ⟨(0, false), Ev.step (f := fun _ => some (0, false)) (fun k => by rw [thresherref6_number.l0, if_neg (by omega), if_neg (by decide), if_pos c]) (Ev.now _)⟩
   ·
    exact ⟨_, Ev.step (f := fun _ => some (wrap64 acc, true)) (fun k => by rw [thresherref6_number.l0, if_neg (by omega), if_neg (by decide), if_neg c]) (Ev.now _)⟩
 | succ dd ih =>
  intro i acc hi
  by_cases c1 : bt s (i : Int) < 48
  ·
   exact ⟨(0, false), Ev.step (f := fun _ => some (0, false)) (fun k => by rw [thresherref6_number.l0, if_pos (by omega), if_pos (by omega), if_pos c1]) (Ev.now _)⟩
  ·
   by_cases c2 : bt s (i : Int) > 57
   ·
    exact ⟨(0, false), Ev.step (f := fun _ => some (0, false)) (fun k => by rw [thresherref6_number.l0, if_pos (by omega), if_pos (by omega), if_neg c1, if_pos c2]) (Ev.now _)⟩
   ·
    have hi1 : wrap64 ((i : Int) + 1) = ((i + 1 : Nat) : Int) := by unfold wrap64; omega
    obtain ⟨r, hr⟩ := ih (i + 1) (IntKind.u64.wrap ((IntKind.u64.wrap (acc * 10)) + (((bt s (i : Int)) - 48) % 256))) (by omega)
    exact ⟨r, Ev.step (fun k => by rw [thresherref6_number.l0, if_pos (by omega), if_pos (by omega), if_neg c1, if_neg c2, hi1]) hr⟩

theorem num_j2 (s : ByteArray) (b x : Bool) (hs : x = false → s.size ≤ 19) : ∃ r, Ev (fun k => thresherref6_number.j2 k s b x) r := by
 cases x with
 | true => exact ⟨(0, false), Ev.step (f := fun _ => some (0, false)) (fun k => by rw [thresherref6_number.j2, if_pos rfl]) (Ev.now _)⟩
 | false =>
  obtain ⟨r, hr⟩ := num_l0 s b (hs rfl) s.size 0 0 (by omega)
  exact ⟨r, Ev.step (f := fun k => thresherref6_number.l0 k s b 0 ((0 : Nat) : Int)) (fun k => by rw [thresherref6_number.j2, if_neg (by decide)]; rfl) hr⟩

theorem num_j1 (s : ByteArray) (b : Bool) : ∃ r, Ev (fun k => thresherref6_number.j1 k s b) r := by
 by_cases c0 : s.toList = ([] : List UInt8)
 ·
  obtain ⟨r, hr⟩ := num_j2 s b true (by simp)
  exact ⟨r, Ev.step (fun k => by rw [thresherref6_number.j1, if_pos c0]) hr⟩
 have hpos : 0 < (s.size : Int) := by
  rcases Nat.eq_zero_or_pos s.size with h | h
  ·
   exact absurd (toList_nil h) c0
  ·
   omega
 by_cases c1 : (s.size : Int) > 19
 ·
  obtain ⟨r, hr⟩ := num_j2 s b true (by simp)
  exact ⟨r, Ev.step (fun k => by rw [thresherref6_number.j1, if_neg c0, if_pos c1]) hr⟩
 by_cases c2 : bt s 0 = 48
 ·
  by_cases c3 : (s.size : Int) > 1
  ·
   obtain ⟨r, hr⟩ := num_j2 s b true (by simp)
   exact ⟨r, Ev.step (fun k => by rw [thresherref6_number.j1, if_neg c0, if_neg c1, if_pos hpos, if_pos c2, if_pos c3]) hr⟩
  ·
   obtain ⟨r, hr⟩ := num_j2 s b b (fun _ => by omega)
   exact ⟨r, Ev.step (fun k => by rw [thresherref6_number.j1, if_neg c0, if_neg c1, if_pos hpos, if_pos c2, if_neg c3]) hr⟩
 ·
  obtain ⟨r, hr⟩ := num_j2 s b false (fun _ => by omega)
  exact ⟨r, Ev.step (fun k => by rw [thresherref6_number.j1, if_neg c0, if_neg c1, if_pos hpos, if_neg c2]) hr⟩

theorem number_ev (s : ByteArray) : ∃ r, Ev (fun k => thresherref6_number.f k s) r := by
 by_cases c : (s.size : Int) > 0
 ·
  cases hb : (bt s 0 == 45) with
  | true =>
   obtain ⟨r, hr⟩ := num_j1 (s.extract 1 s.size) true
   exact ⟨r, Ev.congr (f := fun k => thresherref6_number.j0 k s false true) (fun k => by rw [thresherref6_number.f, if_pos c, if_pos (by omega), hb]) (Ev.step (fun k => by rw [thresherref6_number.j0, if_pos rfl, if_pos (by omega)]) hr)⟩
  | false =>
   obtain ⟨r, hr⟩ := num_j1 s false
   exact ⟨r, Ev.congr (f := fun k => thresherref6_number.j0 k s false false) (fun k => by rw [thresherref6_number.f, if_pos c, if_pos (by omega), hb]) (Ev.step (fun k => by rw [thresherref6_number.j0, if_neg (by decide)]) hr)⟩
 ·
  obtain ⟨r, hr⟩ := num_j1 s false
  exact ⟨r, Ev.congr (f := fun k => thresherref6_number.j0 k s false false) (fun k => by rw [thresherref6_number.f, if_neg c]) (Ev.step (fun k => by rw [thresherref6_number.j0, if_neg (by decide)]) hr)⟩

theorem split_l0 (s : ByteArray) (hs : s.size ≤ 512) : ∀ (dd i : Nat) (L : List ByteArray) (w : ByteArray), i + dd = s.size + 1 → L.length ≤ i → w.size ≤ i → ∃ ws, Ev (fun k => thresherref6_split.l0 k s L w (i : Int)) ws ∧ ws.length ≤ 513 := by
 intro dd
 induction dd with
 | zero =>
  intro i L w hi hL hw
  exact ⟨L, Ev.step (f := fun _ => some L) (fun k => by rw [thresherref6_split.l0, if_neg (by omega)]) (Ev.now _), by omega⟩
 | succ dd ih =>
  intro i L w hi hL hw
  have hi1 : wrap64 ((i : Int) + 1) = ((i + 1 : Nat) : Int) := by unfold wrap64; omega
  have ends : ∃ ws, Ev (fun k => thresherref6_split.j1 k s L w (i : Int) true) ws ∧ ws.length ≤ 513 := by
   by_cases c : w.toList = ([] : List UInt8)
   ·
    obtain ⟨ws, h1, h2⟩ := ih (i + 1) L ⟨#[]⟩ (by omega) (by omega) (by simp [ByteArray.size])
    exact ⟨ws, Ev.step (fun k => by rw [thresherref6_split.j1, if_pos rfl, if_pos c, hi1]) h1, h2⟩
   ·
    obtain ⟨ws, h1, h2⟩ := ih (i + 1) (L ++ [w]) ⟨#[]⟩ (by omega) (by simp; omega) (by simp [ByteArray.size])
    exact ⟨ws, Ev.step (fun k => by rw [thresherref6_split.j1, if_pos rfl, if_neg c, if_pos (by omega), hi1]) h1, h2⟩
  by_cases c1 : i = s.size
  ·
   obtain ⟨ws, h1, h2⟩ := ends
   exact ⟨ws, Ev.step (fun k => by rw [thresherref6_split.l0, if_pos (by omega), if_pos (by omega)]) h1, h2⟩
  ·
   have goes : ∃ ws, Ev (fun k => thresherref6_split.j1 k s L w (i : Int) false) ws ∧ ws.length ≤ 513 := by
    have hx : (s.extract i (i + 1)).size ≤ 1 := by rw [ByteArray.size_extract]; omega
    obtain ⟨ws, h1, h2⟩ := ih (i + 1) L (w ++ s.extract i (i + 1)) (by omega) (by omega) (by rw [ByteArray.size_append]; omega)
    refine ⟨ws, Ev.step (fun k => ?_) h1, h2⟩
    rw [thresherref6_split.j1, if_neg (by decide), hi1, if_pos (by omega), if_pos (by omega), if_pos (by omega), Int.toNat_natCast, Int.toNat_natCast, if_pos (by omega)]
   by_cases c2 : bt s (i : Int) = 32
   ·
    obtain ⟨ws, h1, h2⟩ := ends
    exact ⟨ws, Ev.step (fun k => by rw [thresherref6_split.l0, if_pos (by omega), if_neg (by omega), if_pos (by omega), if_pos (by omega), if_pos c2]) h1, h2⟩
   ·
    cases hb : (bt s (i : Int) == 10) with
    | true =>
     obtain ⟨ws, h1, h2⟩ := ends
     exact ⟨ws, Ev.step (fun k => by rw [thresherref6_split.l0, if_pos (by omega), if_neg (by omega), if_pos (by omega), if_pos (by omega), if_neg c2, hb]) h1, h2⟩
    | false =>
     obtain ⟨ws, h1, h2⟩ := goes
     exact ⟨ws, Ev.step (fun k => by rw [thresherref6_split.l0, if_pos (by omega), if_neg (by omega), if_pos (by omega), if_pos (by omega), if_neg c2, hb]) h1, h2⟩

theorem Tr.snoc {x : S34} (hl : x.f2.length < 140737488355328) (hb : Tr x.f2) : ∀ {l : List S34}, Tr l → Tr (l ++ [x])
 | _, .nil => .cons hl hb .nil
 | _, .cons h1 h2 h3 => .cons h1 h2 (Tr.snoc hl hb h3)

theorem pblock_ev : ∀ (N : Nat) (ws : List ByteArray), ws.length ≤ N → ∀ (d many : Int) (out : List S34), 0 ≤ d → d ≤ 6 → (out.length : Int) ≤ many → many ≤ 128 → Tr out →
  ∃ r e ws' many', Ev (fun k => pblock k d ws many out) (r, e, ws', many') ∧ Tr r ∧ r.length ≤ 128 ∧ ws'.length ≤ ws.length ∧ (e = 0 → many ≤ many' ∧ many' ≤ 128) := by
 intro N
 induction N with
 | zero =>
  intro ws hN d many out h0 h6 ho hm ht
  obtain rfl : ws = [] := List.length_eq_zero_iff.mp (by omega)
  by_cases c : d > 0
  ·
   exact ⟨[], 6, [], many, Ev.step (f := fun _ => some ([], 6, [], many)) (fun k => by rw [pblock, if_pos c]) (Ev.now _), .nil, by simp, by simp, fun h => by omega⟩
  ·
   exact ⟨out, 0, [], many, Ev.step (f := fun _ => some (out, 0, [], many)) (fun k => by rw [pblock, if_neg c]) (Ev.now _), ht, by omega, by simp, fun _ => ⟨by omega, hm⟩⟩
 | succ N ih =>
  intro ws hN d many out h0 h6 ho hm ht
  cases ws with
  | nil =>
   by_cases c : d > 0
   ·
    exact ⟨[], 6, [], many, Ev.step (f := fun _ => some ([], 6, [], many)) (fun k => by rw [pblock, if_pos c]) (Ev.now _), .nil, by simp, by simp, fun h => by omega⟩
   ·
    exact ⟨out, 0, [], many, Ev.step (f := fun _ => some (out, 0, [], many)) (fun k => by rw [pblock, if_neg c]) (Ev.now _), ht, by omega, by simp, fun _ => ⟨by omega, hm⟩⟩
  | cons w ws =>
   simp only [List.length_cons] at hN
   by_cases c1 : w.toList = ([93] : List UInt8)
   ·
    by_cases c2 : d = 0
    ·
     exact ⟨[], 7, ws, many, Ev.step (f := fun _ => some ([], 7, ws, many)) (fun k => by rw [pblock, if_pos c1, if_pos c2]) (Ev.now _), .nil, by simp, by simp, fun h => by omega⟩
    ·
     exact ⟨out, 0, ws, many, Ev.step (f := fun _ => some (out, 0, ws, many)) (fun k => by rw [pblock, if_pos c1, if_neg c2]) (Ev.now _), ht, by omega, by simp, fun _ => ⟨by omega, hm⟩⟩
   ·
    obtain ⟨nb, hnb⟩ := number_ev w
    have hm1 : wrap64 (many + 1) = many + 1 := by unfold wrap64; omega
    have hd1 : wrap64 (d + 1) = d + 1 := by unfold wrap64; omega
    have st : ∀ {r : List S34 × Int × List ByteArray × Int}, Ev (fun k => if (opOf w nb).1 = 0 then some ([], 7, ws, many) else if many + 1 > 128 then some ([], 2, ws, many + 1) else if (opOf w nb).1 = 28 ∨ (opOf w nb).1 = 29 then
      (match ws with
      | [] => some ([], 6, [], many + 1)
      | b :: ws' => if b.toList = ([91] : List UInt8) then
        (if d + 1 > 6 then some ([], 2, ws', many + 1)
        else (pblock k (d + 1) ws' (many + 1) []).bind fun r =>
         if r.2.1 = 0 then (if out.length < 1000000 then pblock k d r.2.2.1 r.2.2.2 (out ++ [⟨(opOf w nb).1, (opOf w nb).2, r.1⟩]) else none)
         else some ([], r.2.1, r.2.2.1, r.2.2.2))
       else some ([], 7, b :: ws', many + 1))
     else if out.length < 1000000 then pblock k d ws (many + 1) (out ++ [⟨(opOf w nb).1, (opOf w nb).2, []⟩]) else none) r → Ev (fun k => pblock k d (w :: ws) many out) r := fun hr =>
     Ev.step (fun k => by rw [pblock, if_neg c1]) (Ev.bind hnb (by simp only [hm1, hd1]; exact hr))
    by_cases c3 : (opOf w nb).1 = 0
    ·
     exact ⟨[], 7, ws, many, st (by simp only [if_pos c3]; exact Ev.now _), .nil, by simp, by simp, fun h => by omega⟩
    by_cases c4 : many + 1 > 128
    ·
     exact ⟨[], 2, ws, many + 1, st (by simp only [if_neg c3, if_pos c4]; exact Ev.now _), .nil, by simp, by simp, fun h => by omega⟩
    have c8 : out.length < 1000000 := by omega
    by_cases c5 : (opOf w nb).1 = 28 ∨ (opOf w nb).1 = 29
    ·
     cases ws with
     | nil => exact ⟨[], 6, [], many + 1, st (by simp only [if_neg c3, if_neg c4, if_pos c5]; exact Ev.now _), .nil, by simp, by simp, fun h => by omega⟩
     | cons b ws2 =>
      simp only [List.length_cons] at hN
      by_cases c6 : b.toList = ([91] : List UInt8)
      ·
       by_cases c7 : d + 1 > 6
       ·
        exact ⟨[], 2, ws2, many + 1, st (by simp only [if_neg c3, if_neg c4, if_pos c5, if_pos c6, if_pos c7]; exact Ev.now _), .nil, by simp, by simp; omega, fun h => by omega⟩
       ·
        obtain ⟨r1, e1, ws3, m3, hev, htr, hlr, hls, hmm⟩ := ih ws2 (by omega) (d + 1) (many + 1) [] (by omega) (by omega) (by simp; omega) (by omega) .nil
        by_cases c9 : e1 = 0
        ·
         obtain ⟨hm3, hm4⟩ := hmm c9
         obtain ⟨r2, e2, ws4, m4, hev2, htr2, hlr2, hls2, hmm2⟩ := ih ws3 (by omega) d m3 (out ++ [⟨(opOf w nb).1, (opOf w nb).2, r1⟩]) h0 h6 (by simp; omega) hm4 (Tr.snoc (x := ⟨(opOf w nb).1, (opOf w nb).2, r1⟩) (by show r1.length < 140737488355328; omega) htr ht)
         refine ⟨r2, e2, ws4, m4, st ?_, htr2, hlr2, by simp; omega, fun h => ⟨by have := hmm2 h; omega, (hmm2 h).2⟩⟩
         simp only [if_neg c3, if_neg c4, if_pos c5, if_pos c6, if_neg c7]
         exact Ev.bind hev (by simp only [if_pos c9, if_pos c8]; exact hev2)
        ·
         refine ⟨[], e1, ws3, m3, st ?_, .nil, by simp, by simp; omega, fun h => absurd h c9⟩
         simp only [if_neg c3, if_neg c4, if_pos c5, if_pos c6, if_neg c7]
         exact Ev.bind hev (by simp only [if_neg c9]; exact Ev.now _)
      ·
       exact ⟨[], 7, b :: ws2, many + 1, st (by simp only [if_neg c3, if_neg c4, if_pos c5, if_neg c6]; exact Ev.now _), .nil, by simp, by simp, fun h => by omega⟩
    ·
     obtain ⟨r2, e2, ws4, m4, hev2, htr2, hlr2, hls2, hmm2⟩ := ih ws (by omega) d (many + 1) (out ++ [⟨(opOf w nb).1, (opOf w nb).2, []⟩]) h0 h6 (by simp; omega) (by omega) (Tr.snoc (x := ⟨(opOf w nb).1, (opOf w nb).2, []⟩) (by simp) .nil ht)
     refine ⟨r2, e2, ws4, m4, st ?_, htr2, hlr2, by simp; omega, fun h => ⟨by have := hmm2 h; omega, (hmm2 h).2⟩⟩
     simp only [if_neg c3, if_neg c4, if_neg c5, if_pos c8]
     exact hev2

theorem parse_ev (s : ByteArray) : ∃ l e, Ev (fun k => thresherref6_Parse.f k s) (l, e) ∧ Tr l ∧ l.length ≤ 128 := by
 by_cases c : (s.size : Int) > 512
 ·
  exact ⟨[], 2, Ev.congr (f := fun _ => some ([], 2)) (fun k => by rw [thresherref6_Parse.f, if_pos c]) (Ev.now _), .nil, by simp⟩
 ·
  obtain ⟨ws, h1, h2⟩ := split_l0 s (by omega) (s.size + 1) 0 [] ⟨#[]⟩ (by omega) (by simp) (by simp [ByteArray.size])
  obtain ⟨r, e, ws', m', h3, h4, h5, _, _⟩ := pblock_ev ws.length ws (Nat.le_refl _) 0 0 [] (by omega) (by omega) (by simp) (by omega) .nil
  exact ⟨r, e, Ev.congr (f := fun k => (thresherref6_split.f k s).bind fun ws => (pblock k 0 ws 0 []).bind fun r => some (r.1, r.2.1)) (fun k => by rw [thresherref6_Parse.f, if_neg c]) (Ev.bind (a := ws) h1 (Ev.bind h3 (Ev.now _))), h4, h5⟩
end Go.Proofs.Ytchgjkfnmifgkaa.QE
