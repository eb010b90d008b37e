/- Data whose type holds itself, by a slice: opened up to a depth, hence at any. -/
import Derived.Test.YtchgjkfnmifgkaaOpens
namespace Go.Proofs.Ytchgjkfnmifgkaa.Opens
open Go.Proofs.YtchgjkfnmifgkaaW.PrintWords
set_option linter.unusedVariables false

structure OpensN (N : Nat) (P : Program) (t : TypeId) {α : Type} (d : Kd α) (good : α → Prop) : Prop where
  go : ∀ {H : Type} {enc : TypeId × Value → H} {w : World} {base : Nat} {spare : Nat → Bool} {held : Bool} (fuel : Nat), fuel < N → ∀ (cs : List Value) (x : DataW H × List MemPlace),
    DataW.trod enc P w base spare held fuel t cs = some x → Small (x.1.weights P t) → ∃ y, d.K w y cs ∧ good y

section
variable {P : Program} {t : TypeId} {N : Nat}
theorem OpensN.of {α : Type} {d : Kd α} {good : α → Prop} (h : Opens P t d good) : OpensN N P t d good := ⟨fun fuel _ cs x hx hw => h.go fuel cs x hx hw⟩
theorem OpensN.all {α : Type} {d : Kd α} {good : α → Prop} (h : ∀ N, OpensN N P t d good) : Opens P t d good := ⟨fun fuel cs x hx hw => (h (fuel + 1)).go fuel (Nat.lt_succ_self _) cs x hx hw⟩
theorem OpensN.le {α : Type} {d : Kd α} {good : α → Prop} {M : Nat} (h : OpensN N P t d good) (hm : M ≤ N) : OpensN M P t d good := ⟨fun fuel hf cs x hx hw => h.go fuel (Nat.lt_of_lt_of_le hf hm) cs x hx hw⟩
theorem OpensN.zero {α : Type} {d : Kd α} {good : α → Prop} : OpensN 0 P t d good := ⟨fun fuel hf => absurd hf (Nat.not_lt_zero _)⟩

theorem OpensN.slice {e : TypeId} {α : Type} {d : Kd α} {good : α → Prop} (ht : P.underlying t = some (.slice e)) (hc : P.cellsOf e = d.sz) {B : Nat} (hB : P.bytesOf e = B) (he : OpensN N P e d good) :
    OpensN (N + 1) P t (Kd.slice e d) (fun xs => xs.length ≤ maxLen ∧ xs.length * B ≤ 140737488351232 ∧ ∀ x ∈ xs, good x) := ⟨by
  intro H enc w base spare held fuel hfu cs x h hw
  rcases DataW.trod_slice ht h with ⟨rfl, rfl⟩ | ⟨a, len, cap, elems, rest, n, rfl, rfl, rfl, hb, hl, hm, hlen, hel, hsp, hns⟩
  · exact ⟨[], ⟨none, 0, rfl, Nat.le_refl _, rfl, by simp, fun h => absurd h (Nat.lt_irrefl 0)⟩, by simp, by simp, by simp⟩
  · have hwt : Small (((elems.map (·.1)).length + (rest.map (·.1)).length) * P.bytesOf e :: (DataW.weightsAll P e (elems.map (·.1)) ++ DataW.weightsAll P e (rest.map (·.1)))) := by
      simpa [DataW.weights, ht] using hw
    have hlen2 : len * B ≤ 140737488351232 := by
      have h1 := hwt _ List.mem_cons_self
      rw [List.length_map, List.length_map, hlen, hB] at h1
      exact Nat.le_trans (Nat.mul_le_mul_right _ (by omega)) h1
    have each : ∀ i, i < len → ∃ y : α, ∃ c, c.length = d.sz ∧ d.K w y c ∧ good y ∧ ∀ j u, c[j]? = some u → w.cell? (a.add (i * d.sz + j)) = some u := by
      intro i hi
      have h1 := hel i hi
      rw [List.getElem?_eq_getElem (by omega)] at h1
      obtain ⟨c, hcs, ho⟩ := Option.bind_eq_some_iff.1 h1
      obtain ⟨_, hcl, hcell⟩ := World.cells?_some hcs
      have hmem : elems[i] ∈ elems := List.getElem_mem _
      obtain ⟨y, hy, hg⟩ := he.go n (by omega) c _ ho (fun m hm2 => hwt m (List.mem_cons_of_mem _ (List.mem_append.2 (.inl (weights_all (List.mem_map_of_mem (f := (·.1)) hmem) m hm2)))))
      refine ⟨y, c, by rw [hcl, hc], hy, hg, fun j u hu => ?_⟩
      have hj : j < P.cellsOf e := by
        have := (List.getElem?_eq_some_iff.1 hu).1
        omega
      have := hcell j hj
      rw [hc] at this
      rw [← hu, ← this]
      congr 1
      unfold Addr.add
      by_cases h0 : i * d.sz = 0 <;> by_cases h1 : j = 0 <;> simp [h0, h1, Nat.add_assoc]
    obtain ⟨xs, hxl, hx⟩ := choose_list (β := Unit) len each
    have hbig : len ≤ maxLen := Nat.le_trans hl hm
    refine ⟨xs, ⟨some a, cap, by rw [hxl], by omega, rfl, by rw [hxl]; unfold maxLen at hbig; omega, fun _ => ⟨a, rfl, fun j p hj => ?_⟩⟩, by omega, by rw [hxl]; exact hlen2, fun x hxm => ?_⟩
    · obtain ⟨c, h1, h2, _, h3⟩ := hx j p hj
      exact ⟨c, h1, h2, h3⟩
    · obtain ⟨j, hj, rfl⟩ := List.getElem_of_mem hxm
      obtain ⟨c, _, _, h3, _⟩ := hx j _ (List.getElem?_eq_getElem hj)
      exact h3⟩

structure FieldsN (N : Nat) (P : Program) (fs : List Field) (off : Nat) {α : Type} (d : Kd α) (good : α → Prop) : Prop where
  go : ∀ {H : Type} {enc : TypeId × Value → H} {w : World} {base : Nat} {spare : Nat → Bool} {held : Bool} (fuel : Nat), fuel < N → ∀ (cs : List Value) (xs : List (DataW H × List MemPlace)),
    xs.length = fs.length → (∀ (i : Nat) (f : Field), fs[i]? = some f → DataW.trod enc P w base spare held fuel f.type ((cs.drop f.offset).take (P.cellsOf f.type)) = xs[i]?) →
    Small (DataW.weightsEach P (fs.map (·.type)) (xs.map (·.1))) → cs.length = off + d.sz → ∃ y, d.K w y (cs.drop off) ∧ good y

theorem FieldsN.last {f : Field} {off : Nat} {α : Type} {d : Kd α} {good : α → Prop} (ho : f.offset = off) (hc : P.cellsOf f.type = d.sz) (h : OpensN N P f.type d good) : FieldsN N P [f] off d good := ⟨by
  intro H enc w base spare held fuel hfu cs xs hl hx hw hcs
  obtain ⟨x, rfl⟩ : ∃ x, xs = [x] := by
    match xs, hl with
    | [x], _ => exact ⟨x, rfl⟩
  have h0 := hx 0 f rfl
  rw [ho, hc, List.take_of_length_le (by rw [List.length_drop]; omega)] at h0
  exact h.go fuel hfu _ _ h0 (fun n hn => hw n (by simp [DataW.weightsEach, hn]))⟩

theorem FieldsN.cons {f : Field} {fs : List Field} {off : Nat} {α β : Type} {d : Kd α} {g : α → Prop} {d' : Kd β} {g' : β → Prop} (ho : f.offset = off) (hc : P.cellsOf f.type = d.sz) (h : OpensN N P f.type d g) (hs : FieldsN N P fs (off + d.sz) d' g') :
    FieldsN N P (f :: fs) off (Kd.pair d d') (fun y => g y.1 ∧ g' y.2) := ⟨by
  intro H enc w base spare held fuel hfu cs xs hl hx hw hcs
  obtain ⟨x, xs, rfl⟩ : ∃ x ys, xs = x :: ys := by
    match xs, hl with
    | x :: ys, _ => exact ⟨x, ys, rfl⟩
  have h0 := hx 0 f rfl
  rw [ho, hc] at h0
  have hsz : (Kd.pair d d').sz = d.sz + d'.sz := rfl
  obtain ⟨y, hy, gy⟩ := h.go fuel hfu _ _ h0 (fun n hn => hw n (by simp only [List.map_cons, DataW.weightsEach, List.mem_append]; exact .inl hn))
  obtain ⟨z, hz, gz⟩ := hs.go fuel hfu cs xs (by simpa using hl) (fun i f' hf => by simpa using hx (i + 1) f' (by simpa using hf)) (fun n hn => hw n (by simp only [List.map_cons, DataW.weightsEach, List.mem_append]; exact .inr hn)) (by omega)
  refine ⟨(y, z), ⟨(cs.drop off).take d.sz, cs.drop (off + d.sz), ?_, hy, hz⟩, gy, gz⟩
  rw [← List.drop_drop, List.take_append_drop]⟩

theorem OpensN.struct {fs : Array Field} {α β : Type} {d : Kd α} {d2 : Kd β} {g : α → Prop} (b : α → β) (good : β → Prop) (hK : ∀ {w : World} {y : α} {cs : List Value}, d.K w y cs → d2.K w (b y) cs) (hgood : ∀ y, g y → good (b y)) (ht : P.underlying t = some (.struct fs)) (hc : P.cellsOf t = d.sz) (h : FieldsN N P fs.toList 0 d g) :
    OpensN (N + 1) P t d2 good := ⟨by
  intro H enc w base spare held fuel hfu cs x hx hw
  obtain ⟨xs, n, rfl, rfl, hl, hlen, hf⟩ := DataW.trod_struct ht hx
  obtain ⟨y, hy, gy⟩ := h.go n (by omega) cs xs (by simpa using hlen) (fun i f' hf' => hf i f' (by simpa using hf')) (fun m hm => hw m (by simpa [DataW.weights, ht] using hm)) (by rw [hl, hc]; omega)
  exact ⟨b y, hK (by simpa using hy), hgood y gy⟩⟩
end
end Go.Proofs.Ytchgjkfnmifgkaa.Opens
