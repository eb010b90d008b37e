/- Texts as lists of bytes; a number's bytes taken back, whatever stands behind them; what is taken was written so. -/
import Derived.Test.YtgchbhepnfnhpaaMath
import Derived.Lib.Bytes
namespace Go.Proofs.Ytgchbhepnfnhpaa.Math
open Go.RowKit Go.Proofs.YtgchbhepnfnhpaaW.PrintWords Go.Proofs.YtgchbhepnfnhpaaW.PrintLast Go.Proofs.YtgchbhepnfnhpaaW.PrintMore
set_option linter.unusedVariables false

/-! ### texts as lists of bytes -/
theorem bs_range (s : ByteArray) : ∀ c ∈ bytesOf s, 0 ≤ c ∧ c < 256 := by
  intro c hc
  obtain ⟨b, _, rfl⟩ := List.mem_map.1 hc
  have := b.toNat_lt
  omega
theorem bt_bs (s : ByteArray) (i : Int) : bt s i = (bytesOf s).getD i.toNat 0 := (rd_bytesOf s i).symm
theorem bs_append (s t : ByteArray) : bytesOf (s ++ t) = bytesOf s ++ bytesOf t := by simp [bytesOf]
theorem bs_extract (s : ByteArray) (a b : Nat) : bytesOf (s.extract a b) = ((bytesOf s).take b).drop a := by
  simp only [bytesOf, ByteArray.data_extract, Array.toList_extract]
  rw [List.drop_take, ← List.map_drop, ← List.map_take, List.extract_eq_take_drop]
theorem bs_str {xs : List Int} (h : ∀ x ∈ xs, 0 ≤ x ∧ x < 256) : bytesOf (strOfNums xs) = xs := by
  simp only [bytesOf, strOfNums]
  rw [List.map_map]
  conv => rhs; rw [← List.map_id xs]
  apply List.map_congr_left
  intro x hx
  have := h x hx
  simp only [Function.comp, id]
  rw [UInt8.toNat_ofNat']
  omega
theorem bs_inj {s t : ByteArray} (h : bytesOf s = bytesOf t) : s = t := by
  have : s.data.toList = t.data.toList := by
    refine (List.map_inj_right (f := fun b : UInt8 => (b.toNat : Int)) ?_).1 h
    intro a b hab
    have hab' : (a.toNat : Int) = b.toNat := hab
    exact UInt8.toNat_inj.1 (by omega)
  cases s; cases t
  congr
  exact Array.toList_inj.1 this
theorem toList_bs {s t : ByteArray} : s.toList = t.toList ↔ bytesOf s = bytesOf t := by
  constructor
  · intro h
    rw [Lib.toList_data, Lib.toList_data] at h
    simp only [bytesOf]
    rw [h]
  · intro h
    rw [bs_inj h]

/-! ### a number's bytes, taken back -/
def tk : Nat → Nat → Int → List Int → Int × Int × Int
  | 0, _, _, _ => (0, 0, 7)
  | _ + 1, _, _, [] => (0, 0, 6)
  | d + 1, i, u, c :: cs => if i = 9 ∧ 1 < c then (0, 0, 7) else if 128 ≤ c then tk d (i + 1) (u + c % 128 * 2 ^ (7 * i)) cs else
    if c = 0 ∧ 0 < i then (0, 0, 7) else (zag (u + c % 128 * 2 ^ (7 * i)), (i : Int) + 1, 0)
theorem take_tk (s : ByteArray) : ∀ (d i : Nat) (u : Int), take s d i u = tk d i u ((bytesOf s).drop i) := by
  intro d
  induction d with
  | zero => intro i u; rfl
  | succ d ih =>
    intro i u
    have hl := bytesOf_length s
    by_cases h : (s.size : Int) ≤ i
    · rw [List.drop_eq_nil_of_le (by omega)]
      simp only [take, tk]
      rw [if_pos h]
    · have hi : i < (bytesOf s).length := by omega
      rw [List.drop_eq_getElem_cons hi]
      have hb : bt s (i : Int) = (bytesOf s)[i] := by
        rw [bt_bs, Int.toNat_natCast, List.getD_eq_getElem?_getD, List.getElem?_eq_getElem hi]
        rfl
      simp only [take, tk]
      rw [if_neg h, hb, show ((7 : Int) * i).toNat = 7 * i by omega]
      have := ih (i + 1) (u + (bytesOf s)[i] % 128 * 2 ^ (7 * i))
      rw [show ((i + 1 : Nat) : Int) = (i : Int) + 1 by omega] at this
      rw [this]
      simp only [show ((i : Int) = 9) ↔ i = 9 by omega, show ((0 : Int) < (i : Int)) ↔ 0 < i by omega]
def tookL (l : List Int) : Int × Int × Int := tk 10 0 0 l
theorem took_bs (s : ByteArray) : took s = tookL (bytesOf s) := take_tk s 10 0 0

theorem pow64 {i : Nat} (h : i ≤ 8) : (2 : Int) ^ (64 - 7 * i) = 128 * 2 ^ (64 - 7 * (i + 1)) := by
  rw [show 64 - 7 * i = (64 - 7 * (i + 1)) + 7 by omega, Int.pow_add]
  omega
theorem mul_split (v p : Int) : v % 128 * p + v / 128 * (128 * p) = v * p := by
  have h : v = v % 128 + v / 128 * 128 := by omega
  conv => rhs; rw [h]
  rw [Int.add_mul, Int.mul_assoc]
theorem pow7n (i : Nat) : (2 : Int) ^ (7 * (i + 1)) = 128 * 2 ^ (7 * i) := by
  rw [show 7 * (i + 1) = 7 * i + 7 by omega, Int.pow_add]
  omega
theorem leb_range : ∀ (d : Nat) (v : Int), 0 ≤ v → ∀ c ∈ leb d v, 0 ≤ c ∧ c < 256 := by
  intro d
  induction d with
  | zero =>
    intro v hv c hc
    simp [leb] at hc
    omega
  | succ d ih =>
    intro v hv c hc
    simp only [leb] at hc
    split at hc
    · rcases List.mem_cons.1 hc with rfl | hc
      · omega
      · exact ih _ (by omega) c hc
    · simp at hc
      omega
/-- Written, and taken: whatever stands behind. And so long it is; and cut off anywhere it is cut off. -/
theorem tk_leb : ∀ (d i : Nat) (u v : Int) (rest : List Int), i + d = 10 → i ≤ 9 → 0 ≤ v → v < 2 ^ (64 - 7 * i) → (0 < i → 0 < v) →
    tk d i u (leb d v ++ rest) = (zag (u + v * 2 ^ (7 * i)), ((i + (leb d v).length : Nat) : Int), 0) ∧ (leb d v).length ≤ d ∧ 0 < (leb d v).length ∧ ∀ t, t < (leb d v).length → tk d i u ((leb d v).take t) = (0, 0, 6) := by
  intro d
  induction d with
  | zero => intro i u v rest h1 h2; omega
  | succ d ih =>
    intro i u v rest h1 h2 hv0 hv hp
    by_cases h : 128 ≤ v
    · have h9 : i ≠ 9 := by
        rintro rfl
        have : v < 2 ^ 1 := hv
        omega
      have hlt : v / 128 < 2 ^ (64 - 7 * (i + 1)) := by
        rw [pow64 (by omega)] at hv
        generalize (2 : Int) ^ (64 - 7 * (i + 1)) = p at *
        omega
      obtain ⟨r1, r2, r3, r4⟩ := ih (i + 1) (u + (v % 128 + 128) % 128 * 2 ^ (7 * i)) (v / 128) rest (by omega) (by omega) (by omega) hlt (by omega)
      have hleb : leb (d + 1) v = (v % 128 + 128) :: leb d (v / 128) := by simp only [leb]; rw [if_pos h]
      rw [hleb]
      refine ⟨?_, by simp; omega, by simp, ?_⟩
      · simp only [List.cons_append, tk]
        rw [if_neg (by omega), if_pos (by omega), r1]
        refine Prod.ext ?_ (Prod.ext ?_ rfl)
        · show zag _ = zag _
          congr 1
          rw [show (v % 128 + 128) % 128 = v % 128 by omega, pow7n, Int.add_assoc, mul_split]
        · show ((i + 1 + (leb d (v / 128)).length : Nat) : Int) = _
          simp only [List.length_cons]
          omega
      · intro t ht
        cases t with
        | zero => rfl
        | succ t =>
          simp only [List.take_succ_cons, tk]
          rw [if_neg (by omega), if_pos (by omega)]
          exact r4 t (by simpa using ht)
    · have hleb : leb (d + 1) v = [v] := by simp only [leb]; rw [if_neg h]
      rw [hleb]
      refine ⟨?_, by simp, by simp, ?_⟩
      · simp only [List.cons_append, List.nil_append, tk]
        have h9 : ¬ (i = 9 ∧ 1 < v) := by
          rintro ⟨rfl, h'⟩
          have : v < 2 ^ 1 := hv
          omega
        rw [if_neg h9, if_neg h, if_neg (by rintro ⟨a, b⟩; have := hp b; omega), show v % 128 = v by omega]
        rfl
      · intro t ht
        have : t = 0 := by simpa using ht
        subst this
        rfl
/-- What is taken was written so. -/
theorem leb_tk : ∀ (d i : Nat) (u : Int) (l : List Int) (m j : Int), i + d = 10 → (∀ c ∈ l, 0 ≤ c ∧ c < 256) → tk d i u l = (m, j, 0) →
    ∃ (v : Int) (n : Nat), 0 ≤ v ∧ (0 < i → 0 < v) ∧ v < 2 ^ (64 - 7 * i) ∧ m = zag (u + v * 2 ^ (7 * i)) ∧ j = ((i + n : Nat) : Int) ∧ 0 < n ∧ n ≤ l.length ∧ n ≤ d ∧ l.take n = leb d v := by
  intro d
  induction d with
  | zero =>
    intro i u l m j h1 hl h
    simp [tk] at h
  | succ d ih =>
    intro i u l m j h1 hl h
    cases l with
    | nil => simp [tk] at h
    | cons c cs =>
      obtain ⟨hc0, hc1⟩ := hl c List.mem_cons_self
      simp only [tk] at h
      by_cases h9 : i = 9 ∧ 1 < c
      · rw [if_pos h9] at h
        simp at h
      · rw [if_neg h9] at h
        by_cases h2 : 128 ≤ c
        · rw [if_pos h2] at h
          have hi8 : i ≤ 8 := by
            rcases Nat.lt_or_ge i 9 with h' | h'
            · omega
            · have : i = 9 := by omega
              exact absurd ⟨this, by omega⟩ h9
          obtain ⟨v, n, g1, g2, g3, g4, g5, g6, g7, g8, g9⟩ := ih (i + 1) _ cs m j (by omega) (fun x hx => hl x (List.mem_cons_of_mem _ hx)) h
          have gv := g2 (by omega)
          refine ⟨c % 128 + 128 * v, n + 1, by omega, fun _ => by omega, ?_, ?_, by omega, by omega, by simp; omega, by omega, ?_⟩
          · rw [pow64 hi8]
            generalize (2 : Int) ^ (64 - 7 * (i + 1)) = p at *
            omega
          · rw [g4]
            congr 1
            rw [pow7n, Int.add_mul, Int.add_assoc, Int.mul_assoc, Int.mul_left_comm]
          · rw [List.take_succ_cons, g9]
            simp only [leb]
            rw [if_pos (by omega), show (c % 128 + 128 * v) % 128 + 128 = c by omega, show (c % 128 + 128 * v) / 128 = v by omega]
        · rw [if_neg h2] at h
          by_cases h3 : c = 0 ∧ 0 < i
          · rw [if_pos h3] at h
            simp at h
          · rw [if_neg h3] at h
            simp only [Prod.mk.injEq] at h
            obtain ⟨rfl, rfl, _⟩ := h
            refine ⟨c, 1, hc0, fun hi => ?_, ?_, by rw [show c % 128 = c by omega], by omega, by omega, by simp, by omega, ?_⟩
            · have : c ≠ 0 := fun h' => h3 ⟨h', hi⟩
              omega
            · by_cases hi : i = 9
              · subst hi
                have : ¬ 1 < c := fun h' => h9 ⟨rfl, h'⟩
                show c < 2 ^ 1
                omega
              · have : (2 : Int) ^ 8 ≤ 2 ^ (64 - 7 * i) := by exact_mod_cast Nat.pow_le_pow_right (by decide : 0 < 2) (by omega)
                have e : (2 : Int) ^ 8 = 256 := rfl
                omega
            · simp only [List.take_succ_cons, List.take_zero, leb]
              rw [if_neg h2]

/-- The bytes of a number of 64 bits: taken back; so long; cut off. -/
theorem tookL_nbytes {n : Int} (h0 : -9223372036854775808 ≤ n) (h1 : n ≤ 9223372036854775807) (rest : List Int) : tookL (nbytes n ++ rest) = (n, ((nbytes n).length : Int), 0) := by
  have h := (tk_leb 10 0 0 (zig n) rest (by omega) (by omega) (zig_nonneg n) (by simpa using zig_lt h0 h1) (by omega)).1
  unfold tookL nbytes
  rw [h]
  simp [zag_zig]
theorem nbytes_length {n : Int} (h0 : -9223372036854775808 ≤ n) (h1 : n ≤ 9223372036854775807) : (nbytes n).length ≤ 10 ∧ 0 < (nbytes n).length := by
  obtain ⟨_, h2, h3, _⟩ := tk_leb 10 0 0 (zig n) [] (by omega) (by omega) (zig_nonneg n) (by simpa using zig_lt h0 h1) (by omega)
  exact ⟨h2, h3⟩
theorem nbytes_cut {n : Int} (h0 : -9223372036854775808 ≤ n) (h1 : n ≤ 9223372036854775807) {t : Nat} (ht : t < (nbytes n).length) : tookL ((nbytes n).take t) = (0, 0, 6) :=
  (tk_leb 10 0 0 (zig n) [] (by omega) (by omega) (zig_nonneg n) (by simpa using zig_lt h0 h1) (by omega)).2.2.2 t ht
theorem nbytes_short {n : Int} (h0 : -64 ≤ n) (h1 : n < 64) : (nbytes n).length = 1 := by
  unfold nbytes zig leb
  split <;> rw [if_neg (by omega)] <;> rfl
theorem nbytes_range (n : Int) : ∀ c ∈ nbytes n, 0 ≤ c ∧ c < 256 := leb_range 10 _ (zig_nonneg n)
theorem bs_nbytes (n : Int) : bytesOf (strOfNums (nbytes n)) = nbytes n := bs_str (nbytes_range n)
theorem nbytes_took {l : List Int} (hl : ∀ c ∈ l, 0 ≤ c ∧ c < 256) {m j : Int} (h : tookL l = (m, j, 0)) :
    -9223372036854775808 ≤ m ∧ m ≤ 9223372036854775807 ∧ 0 < j ∧ j ≤ l.length ∧ j ≤ 10 ∧ l.take j.toNat = nbytes m := by
  obtain ⟨v, n, g1, _, g3, g4, g5, g6, g7, g8, g9⟩ := leb_tk 10 0 0 l m j (by omega) hl h
  have hv : v < 18446744073709551616 := by simpa using g3
  have hm : m = zag v := by simpa using g4
  obtain ⟨a, b⟩ := zag_lo g1 hv
  have hj : j.toNat = n := by omega
  refine ⟨by omega, by omega, by omega, by omega, by omega, ?_⟩
  rw [hj, g9, hm]
  unfold nbytes
  rw [zig_zag g1]
/-- The error is one of three, and where there is one, nothing else is told. -/
theorem tk_err : ∀ (d i : Nat) (u : Int) (l : List Int), (tk d i u l).2.2 = 0 ∨ tk d i u l = (0, 0, 6) ∨ tk d i u l = (0, 0, 7) := by
  intro d
  induction d with
  | zero => intro i u l; exact .inr (.inr rfl)
  | succ d ih =>
    intro i u l
    cases l with
    | nil => exact .inr (.inl rfl)
    | cons c cs =>
      simp only [tk]
      split
      · exact .inr (.inr rfl)
      · split
        · exact ih _ _ _
        · split
          · exact .inr (.inr rfl)
          · exact .inl rfl
theorem tookL_err (l : List Int) : (tookL l).2.2 = 0 ∨ tookL l = (0, 0, 6) ∨ tookL l = (0, 0, 7) := tk_err 10 0 0 l
end Go.Proofs.Ytgchbhepnfnhpaa.Math
