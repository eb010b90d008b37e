/- What came in and reads as data reads as a kind of the print's words (Kd), with the bounds that the form's reach gives: type by type. -/
import Derived.Test.YtgchbhepnfnhpaaWWords
import Derived.SizedLaws
import Derived.ChangeArms
namespace Go.Proofs.Ytgchbhepnfnhpaa.Opens
open Go.Proofs.YtgchbhepnfnhpaaW.PrintWords
set_option linter.unusedVariables false

/-- A datum whose strings, slices and maps are within the reach. -/
def Small (l : List Nat) : Prop := ∀ n ∈ l, n ≤ 140737488351232

structure Opens (P : Program) (t : TypeId) {α : Type} (d : Kd α) (good : α → Prop) : Prop where
  go : ∀ {H : Type} {enc : TypeId × Value → H} {w : World} {base : Nat} {spare : Nat → Bool} {held : Bool} (fuel : Nat) (cs : List Value) (x : DataW H × List MemPlace),
    DataW.trod enc P w base spare held fuel t cs = some x → Small (x.1.weights P t) → ∃ y, d.K w y cs ∧ good y

section
variable {P : Program} {t : TypeId}

theorem int {k : IntKind} (ht : P.underlying t = some (.int k)) : Opens P t (Kd.int k) (fun n => (Lit.int k n).wf = true) := ⟨by
  intro H enc w base spare held fuel cs x h _
  obtain ⟨n, rfl, rfl, hn⟩ := DataW.trod_int ht h
  exact ⟨n, rfl, hn⟩⟩

theorem bool (ht : P.underlying t = some .bool) : Opens P t Kd.bool (fun _ => True) := ⟨by
  intro H enc w base spare held fuel cs x h _
  obtain ⟨b, rfl, rfl⟩ := DataW.trod_bool ht h
  exact ⟨b, rfl, trivial⟩⟩

theorem string (ht : P.underlying t = some .string) : Opens P t Kd.string (fun s => s.size ≤ 140737488351232) := ⟨by
  intro H enc w base spare held fuel cs x h hw
  obtain ⟨s, rfl, rfl, hs⟩ := DataW.trod_string ht h
  refine ⟨s, rfl, ?_⟩
  have := hw s.data.toList.length (by simp [DataW.weights])
  simpa using this⟩

theorem weights_all {H : Type} {e : TypeId} : ∀ {ds : List (DataW H)} {d : DataW H}, d ∈ ds → ∀ n ∈ d.weights P e, n ∈ DataW.weightsAll P e ds
  | d0 :: ds, d, hd, n, hn => by
    simp only [DataW.weightsAll, List.mem_append]
    rcases List.mem_cons.1 hd with rfl | hd
    · exact .inl hn
    · exact .inr (weights_all hd n hn)
  | [], _, hd, _, _ => by simp at hd

/-- Element by element. -/
theorem choose_list {α β : Type} {Q : Nat → α → Prop} : ∀ (n : Nat), (∀ i, i < n → ∃ y, Q i y) → ∃ xs : List α, xs.length = n ∧ ∀ i y, xs[i]? = some y → Q i y
  | 0, _ => ⟨[], rfl, fun i y h => by simp at h⟩
  | n + 1, h => by
    obtain ⟨xs, hl, hx⟩ := choose_list (β := β) n (fun i hi => h i (by omega))
    obtain ⟨y, hy⟩ := h n (by omega)
    refine ⟨xs ++ [y], by simp [hl], fun i z hz => ?_⟩
    rcases Nat.lt_or_ge i n with hi | hi
    · rw [List.getElem?_append_left (by omega)] at hz
      exact hx i z hz
    · have : i < n + 1 := by
        have := (List.getElem?_eq_some_iff.1 hz).1
        simp at this
        omega
      obtain rfl : i = n := by omega
      rw [List.getElem?_append_right (by omega), hl] at hz
      simp at hz
      exact hz ▸ hy

theorem slice {e : TypeId} {α : Type} {d : Kd α} {good : α → Prop} (ht : P.underlying t = some (.slice e)) (hc : P.cellsOf e = d.sz) {B : Nat} (hB : P.bytesOf e = B) (he : Opens P e d good) :
    Opens P t (Kd.slice e d) (fun xs => xs.length ≤ maxLen ∧ xs.length * B ≤ 140737488351232 ∧ ∀ x ∈ xs, good x) := ⟨by
  intro H enc w base spare held fuel cs x h hw
  rcases DataW.trod_slice ht h with ⟨rfl, rfl⟩ | ⟨a, len, cap, elems, rest, n, rfl, rfl, rfl, hb, hl, hm, hlen, hel, hsp, hns⟩
  · exact ⟨[], ⟨none, 0, rfl, Nat.le_refl _, rfl, by simp, fun h => absurd h (Nat.lt_irrefl 0)⟩, by simp, by simp, by simp⟩
  · have hwt : Small (((elems.map (·.1)).length + (rest.map (·.1)).length) * P.bytesOf e :: (DataW.weightsAll P e (elems.map (·.1)) ++ DataW.weightsAll P e (rest.map (·.1)))) := by
      simpa [DataW.weights, ht] using hw
    have hlen2 : len * B ≤ 140737488351232 := by
      have h1 := hwt _ List.mem_cons_self
      rw [List.length_map, List.length_map, hlen, hB] at h1
      exact Nat.le_trans (Nat.mul_le_mul_right _ (by omega)) h1
    have each : ∀ i, i < len → ∃ y : α, ∃ c, c.length = d.sz ∧ d.K w y c ∧ good y ∧ ∀ j u, c[j]? = some u → w.cell? (a.add (i * d.sz + j)) = some u := by
      intro i hi
      have h1 := hel i hi
      rw [List.getElem?_eq_getElem (by omega)] at h1
      obtain ⟨c, hcs, ho⟩ := Option.bind_eq_some_iff.1 h1
      obtain ⟨_, hcl, hcell⟩ := World.cells?_some hcs
      have hmem : elems[i] ∈ elems := List.getElem_mem _
      obtain ⟨y, hy, hg⟩ := he.go n c _ ho (fun m hm2 => hwt m (List.mem_cons_of_mem _ (List.mem_append.2 (.inl (weights_all (List.mem_map_of_mem (f := (·.1)) hmem) m hm2)))))
      refine ⟨y, c, by rw [hcl, hc], hy, hg, fun j u hu => ?_⟩
      have hj : j < P.cellsOf e := by
        have := (List.getElem?_eq_some_iff.1 hu).1
        omega
      have := hcell j hj
      rw [hc] at this
      rw [← hu, ← this]
      congr 1
      unfold Addr.add
      by_cases h0 : i * d.sz = 0 <;> by_cases h1 : j = 0 <;> simp [h0, h1, Nat.add_assoc]
    obtain ⟨xs, hxl, hx⟩ := choose_list (β := Unit) len each
    have hbig : len ≤ maxLen := Nat.le_trans hl hm
    refine ⟨xs, ⟨some a, cap, by rw [hxl], by omega, rfl, by rw [hxl]; unfold maxLen at hbig; omega, fun _ => ⟨a, rfl, fun j p hj => ?_⟩⟩, by omega, by rw [hxl]; exact hlen2, fun x hxm => ?_⟩
    · obtain ⟨c, h1, h2, _, h3⟩ := hx j p hj
      exact ⟨c, h1, h2, h3⟩
    · obtain ⟨j, hj, rfl⟩ := List.getElem_of_mem hxm
      obtain ⟨c, _, _, h3, _⟩ := hx j _ (List.getElem?_eq_getElem hj)
      exact h3⟩

/-- Fields, from offset off on: what they read as, one behind the other. -/
structure Fields (P : Program) (fs : List Field) (off : Nat) {α : Type} (d : Kd α) (good : α → Prop) : Prop where
  go : ∀ {H : Type} {enc : TypeId × Value → H} {w : World} {base : Nat} {spare : Nat → Bool} {held : Bool} (fuel : Nat) (cs : List Value) (xs : List (DataW H × List MemPlace)),
    xs.length = fs.length → (∀ (i : Nat) (f : Field), fs[i]? = some f → DataW.trod enc P w base spare held fuel f.type ((cs.drop f.offset).take (P.cellsOf f.type)) = xs[i]?) →
    Small (DataW.weightsEach P (fs.map (·.type)) (xs.map (·.1))) → cs.length = off + d.sz → ∃ y, d.K w y (cs.drop off) ∧ good y

theorem last {f : Field} {off : Nat} {α : Type} {d : Kd α} {good : α → Prop} (ho : f.offset = off) (hc : P.cellsOf f.type = d.sz) (h : Opens P f.type d good) : Fields P [f] off d good := ⟨by
  intro H enc w base spare held fuel cs xs hl hx hw hcs
  obtain ⟨x, rfl⟩ : ∃ x, xs = [x] := by
    match xs, hl with
    | [x], _ => exact ⟨x, rfl⟩
  have h0 := hx 0 f rfl
  rw [ho, hc, List.take_of_length_le (by rw [List.length_drop]; omega)] at h0
  exact h.go fuel _ _ h0 (fun n hn => hw n (by simp [DataW.weightsEach, hn]))⟩

theorem cons {f : Field} {fs : List Field} {off : Nat} {α β : Type} {d : Kd α} {g : α → Prop} {d' : Kd β} {g' : β → Prop} (ho : f.offset = off) (hc : P.cellsOf f.type = d.sz) (h : Opens P f.type d g) (hs : Fields P fs (off + d.sz) d' g') :
    Fields P (f :: fs) off (Kd.pair d d') (fun y => g y.1 ∧ g' y.2) := ⟨by
  intro H enc w base spare held fuel cs xs hl hx hw hcs
  obtain ⟨x, xs, rfl⟩ : ∃ x ys, xs = x :: ys := by
    match xs, hl with
    | x :: ys, _ => exact ⟨x, ys, rfl⟩
  have h0 := hx 0 f rfl
  rw [ho, hc] at h0
  have hsz : (Kd.pair d d').sz = d.sz + d'.sz := rfl
  obtain ⟨y, hy, gy⟩ := h.go fuel _ _ h0 (fun n hn => hw n (by simp only [List.map_cons, DataW.weightsEach, List.mem_append]; exact .inl hn))
  obtain ⟨z, hz, gz⟩ := hs.go fuel cs xs (by simpa using hl) (fun i f' hf => by simpa using hx (i + 1) f' (by simpa using hf)) (fun n hn => hw n (by simp only [List.map_cons, DataW.weightsEach, List.mem_append]; exact .inr hn)) (by omega)
  refine ⟨(y, z), ⟨(cs.drop off).take d.sz, cs.drop (off + d.sz), ?_, hy, hz⟩, gy, gz⟩
  rw [← List.drop_drop, List.take_append_drop]⟩

theorem struct {fs : Array Field} {α β : Type} {d : Kd α} {g : α → Prop} (f : β → α) (b : α → β) (hfb : ∀ y, f (b y) = y) (good : β → Prop) (hgood : ∀ y, g y → good (b y)) (ht : P.underlying t = some (.struct fs)) (hc : P.cellsOf t = d.sz) (h : Fields P fs.toList 0 d g) :
    Opens P t (Kd.iso d f) good := ⟨by
  intro H enc w base spare held fuel cs x hx hw
  obtain ⟨xs, n, rfl, rfl, hl, hlen, hf⟩ := DataW.trod_struct ht hx
  obtain ⟨y, hy, gy⟩ := h.go n cs xs (by simpa using hlen) (fun i f' hf' => hf i f' (by simpa using hf')) (fun m hm => hw m (by simpa [DataW.weights, ht] using hm)) (by rw [hl, hc]; omega)
  exact ⟨b y, by show d.K w (f (b y)) cs; rw [hfb]; simpa using hy, hgood y gy⟩⟩

/-- The row's own bound on what was read, handed down. -/
theorem small_of {H : Type} {ts : List TypeId} {ds : List (DataW H)} (h : (DataW.weightsEach P ts ds).all (· ≤ reachBytes) = true) {j : Nat} {d : DataW H} (ht : ts[j]? = some t) (hd : ds[j]? = some d) : Small (d.weights P t) := by
  intro n hn
  have := List.all_eq_true.1 h n (DataW.weights_mem_each ht hd n hn)
  exact of_decide_eq_true this
end
end Go.Proofs.Ytgchbhepnfnhpaa.Opens
