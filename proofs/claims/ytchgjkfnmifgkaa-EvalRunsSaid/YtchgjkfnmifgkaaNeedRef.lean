/- What ops take and leave: the page's answers as the program's do. -/
import Derived.Test.YtchgjkfnmifgkaaEvLaws
namespace Go.Proofs.Ytchgjkfnmifgkaa.QE
open Go.RowKit Go.Proofs.YtchgjkfnmifgkaaW.PrintWords Go.Proofs.YtchgjkfnmifgkaaW.PrintLast Go.Proofs.YtchgjkfnmifgkaaW.PrintMore
set_option linter.unusedVariables false
set_option linter.unusedSimpArgs false

def told (r : Int × Int × Int) : Int × Int × Bool := if r.1 = 0 then (r.2.1, r.2.2, true) else (0, 0, false)
/-- Where the program's walk of ops ends so, the page's does. -/
def Like (xs : List S34) : Prop := ∀ (L : List S34) (i : Nat), L.drop i = xs → L.length < 140737488355328 → ∀ base now most : Int, 0 ≤ base → base ≤ now → now ≤ most → most ≤ 16 → ∀ r, Ev (fun k => check_block.f k base now most xs) r → Ev (fun k => thresherref6_need.l0 k L now base most (i : Int)) (told r)

theorem Like.nil : Like [] := by
 intro L i hL hl base now most h0 h1 h2 h3 r hr
 have hi : L.length ≤ i := by simpa using List.drop_eq_nil_iff.mp hL
 have := Ev.same hr (Ev.step (f := fun _ => some (0, now, most)) (fun k => by rw [check_block.f]) (Ev.now _))
 subst this
 exact Ev.step (f := fun _ => some (now, most, true)) (fun k => by rw [thresherref6_need.l0, if_neg (by omega)]) (Ev.now _)

theorem Like.cons {x : S34} {xs : List S34} (hok : okOp x) (hl0 : (x :: xs).length < 140737488355328) (hlb : x.f2.length < 140737488355328) (hi : Runs x.f2) (hli : Like x.f2) (hs : Runs xs) (hls : Like xs) (hnb : ¬ (x.f0 = 28 ∨ x.f0 = 29) → x.f2 = []) : Like (x :: xs) := by
 intro L i hL hl base now most h0 h1 h2 h3 r hr
 have hil : i < L.length := by
  rcases Nat.lt_or_ge i L.length with h | h
  ·
   exact h
  ·
   rw [List.drop_eq_nil_of_le h] at hL; simp at hL
 have hx : rd_T34 L (i : Int) = x := by
  unfold rd_T34
  rw [List.getD_eq_getElem?_getD]
  rw [List.drop_eq_getElem_cons hil] at hL
  simp only [List.cons.injEq] at hL
  simp [hil, hL.1]
 have hL2 : L.drop (i + 1) = xs := by
  rw [List.drop_eq_getElem_cons hil] at hL
  simp only [List.cons.injEq] at hL
  exact hL.2
 have hi1 : wrap64 ((i : Int) + 1) = ((i + 1 : Nat) : Int) := by unfold wrap64; omega
 obtain ⟨b1, b2, b3, b4⟩ := mv_bd x.f0
 have step := fun k base now most => cb_step k base now most x xs hl0
 have htk := takes_ev x.f0 hok.1.1
 generalize mv x.f0 = tl at step b1 b2 b3 b4 htk
 obtain ⟨t, l⟩ := tl
 dsimp only at step b1 b2 b3 b4
 have w2 : wrap64 (l - t) = l - t := by unfold wrap64; omega
 simp only [w2] at step
 have w1 : wrap64 (now - base) = now - base := by unfold wrap64; omega
 have w3 : wrap64 (now + (l - t)) = now + (l - t) := by unfold wrap64; omega
 have w4 : wrap64 (now - t) = now - t := by unfold wrap64; omega
 have w5 : wrap64 (now - t + l) = now + (l - t) := by unfold wrap64; omega
 have rst : ∀ {f : Nat → Option (Int × Int × Bool)} {q : Int × Int × Bool}, (∀ k, (if now - t < base then some (0, 0, false) else (if now + (l - t) > 16 then some (0, 0, false) else (if x.f0 = 28 then thresherref6_need.j1 k L (now + (l - t)) base (mx most (now + (l - t))) (i : Int) true else thresherref6_need.j1 k L (now + (l - t)) base (mx most (now + (l - t))) (i : Int) (x.f0 == 29)))) = f k) → Ev f q → Ev (fun k => thresherref6_need.l0 k L now base most (i : Int)) q := fun hf hq =>
  Ev.step (f := fun k => (thresherref6_takes.f k x.f0).bind fun bt => if wrap64 (now - bt.1) < base then some (0, 0, false) else (if wrap64 (wrap64 (now - bt.1) + bt.2) > 16 then some (0, 0, false) else (if x.f0 = 28 then thresherref6_need.j1 k L (wrap64 (wrap64 (now - bt.1) + bt.2)) base (mx most (wrap64 (wrap64 (now - bt.1) + bt.2))) (i : Int) true else thresherref6_need.j1 k L (wrap64 (wrap64 (now - bt.1) + bt.2)) base (mx most (wrap64 (wrap64 (now - bt.1) + bt.2))) (i : Int) (x.f0 == 29)))) (fun k => by rw [thresherref6_need.l0, if_pos (by omega), if_pos (by omega), hx]) (Ev.bind htk (by simp only [w4, w5]; exact Ev.congr hf hq))
 by_cases c1 : now - base < t
 ·
  have := Ev.same hr (Ev.step (f := fun _ => some (9, now, most)) (fun k => by rw [step, w1, if_pos c1]) (Ev.now _))
  subst this
  exact rst (f := fun _ => some (0, 0, false)) (fun k => by rw [if_pos (by omega)]) (Ev.now _)
 by_cases c2 : now + (l - t) > 16
 ·
  have := Ev.same hr (Ev.step (f := fun _ => some (9, now + (l - t), most)) (fun k => by rw [step, w1, if_neg c1, w3, if_pos c2]) (Ev.now _))
  subst this
  exact rst (f := fun _ => some (0, 0, false)) (fun k => by rw [if_neg (by omega), if_pos c2]) (Ev.now _)
 obtain ⟨n1, hn1⟩ : ∃ n1, n1 = now + (l - t) := ⟨_, rfl⟩
 rw [← hn1] at w3 c2 rst
 have w3 : wrap64 (now + (l - t)) = n1 := by rw [← hn1, w3]
 have hm1 := mx_eq most n1
 obtain ⟨e, n', m', hev, hp, _⟩ := hi n1 n1 (mx most n1) (by omega) (by omega) (by omega) (by omega)
 have st1 : ∀ k, check_block.f (k + 1) base now most (x :: xs) = (check_block.f k n1 n1 (mx most n1) x.f2).bind fun r => if r.1 = 0 then (if r.2.1 = n1 then check_block.f k base r.2.1 r.2.2 xs else some (9, r.2.1, r.2.2)) else some r := fun k => by
  rw [step, w1, if_neg c1, w3, if_neg c2]
 by_cases hb : x.f0 = 28 ∨ x.f0 = 29
 ·
  have hin := hli x.f2 0 rfl hlb n1 n1 (mx most n1) (by omega) (by omega) (by omega) (by omega) _ hev
  have hfin : Ev (fun k => thresherref6_need.f k x.f2 n1 n1 (mx most n1)) (told (e, n', m')) := Ev.step (f := fun k => thresherref6_need.l0 k x.f2 n1 n1 (mx most n1) ((0 : Nat) : Int)) (fun k => rfl) hin
  have hj : ∀ {q : Int × Int × Bool}, Ev (fun k => (thresherref6_need.f k x.f2 n1 n1 (mx most n1)).bind fun bt => if bt.2.2 = true then (if bt.1 = n1 then thresherref6_need.l0 k L n1 base bt.2.1 ((i + 1 : Nat) : Int) else some (0, 0, false)) else some (0, 0, false)) q → Ev (fun k => thresherref6_need.l0 k L now base most (i : Int)) q := fun hq => by
   refine rst (f := fun k => thresherref6_need.j1 k L n1 base (mx most n1) (i : Int) true) (fun k => ?_) (Ev.step (fun k => by rw [thresherref6_need.j1, if_pos rfl, if_pos (by omega), if_pos (by omega), hx, hi1]) hq)
   rw [if_neg (by omega), if_neg c2]
   rcases hb with h | h
   ·
    rw [if_pos h]
   ·
    rw [if_neg (by omega), h]; rfl
  rcases hp with ⟨rfl, p1, p2, p3, p4⟩ | rfl
  ·
   by_cases c3 : n' = n1
   ·
    subst c3
    obtain ⟨e2, n2, m2, hev2, hp2, _⟩ := hs base n' m' (by omega) (by omega) (by omega) (by omega)
    have := Ev.same hr (Ev.step st1 (Ev.bind (a := (0, n', m')) hev (by simpa using hev2)))
    subst this
    have hrest := hls L (i + 1) hL2 hl base n' m' (by omega) (by omega) (by omega) (by omega) _ hev2
    exact hj (Ev.bind hfin (by simpa [told] using hrest))
   ·
    have := Ev.same hr (Ev.step st1 (Ev.bind (a := (0, n', m')) hev (by simpa [c3] using Ev.now _)))
    subst this
    exact hj (Ev.bind hfin (by simpa [told, c3] using Ev.now _))
  ·
   have := Ev.same hr (Ev.step st1 (Ev.bind (a := (9, n', m')) hev (by simpa using Ev.now _)))
   subst this
   exact hj (Ev.bind hfin (by simpa [told] using Ev.now _))
 ·
  have hnil := hnb hb
  have := Ev.same hev (by rw [hnil]; exact Ev.step (f := fun _ => some (0, n1, mx most n1)) (fun k => by rw [check_block.f]) (Ev.now _))
  simp only [Prod.mk.injEq] at this
  obtain ⟨rfl, rfl, rfl⟩ := this
  obtain ⟨e2, n2, m2, hev2, hp2, _⟩ := hs base n' (mx most n') (by omega) (by omega) (by omega) (by omega)
  have := Ev.same hr (Ev.step st1 (Ev.bind (a := (0, n', mx most n')) hev (by simpa using hev2)))
  subst this
  have hrest := hls L (i + 1) hL2 hl base n' (mx most n') (by omega) (by omega) (by omega) (by omega) _ hev2
  refine rst (f := fun k => thresherref6_need.j1 k L n' base (mx most n') (i : Int) false) (fun k => ?_) (Ev.step (fun k => by rw [thresherref6_need.j1, if_neg (by decide), hi1]) hrest)
  rw [if_neg (by omega), if_neg c2, if_neg (fun h => hb (.inl h)), beq_eq_false_iff_ne.mpr (fun h => hb (.inr h))]

theorem likes {d : Int} {xs : List S34} {n : Int} (ho : Okl d xs n) : Tr xs → xs.length < 140737488355328 → Like xs := by
 induction ho with
 | nil => intro _ _; exact Like.nil
 | @plain d x xs n hk hnb hs ih =>
  intro ht hl
  cases ht with
  | cons hl2 hb hs2 =>
   have hnil : x.f2 = [] := hk.2.2.elim id (fun h => absurd h hnb)
   have hxs : xs.length < 140737488355328 := by simp at hl; omega
   exact Like.cons hk hl hl2 (hnil ▸ Runs.nil) (hnil ▸ Like.nil) (cb_runs hs hs2 hxs) (ih hs2 hxs) (fun _ => hnil)
 | @block d x xs m n hk hb hd hm hs ihm ihs =>
  intro ht hl
  cases ht with
  | cons hl2 hb2 hs2 =>
   have hxs : xs.length < 140737488355328 := by simp at hl; omega
   exact Like.cons hk hl hl2 (cb_runs hm hb2 hl2) (ihm hb2 hl2) (cb_runs hs hs2 hxs) (ihs hs2 hxs) (fun h => absurd hb h)
end Go.Proofs.Ytchgjkfnmifgkaa.QE
