/- Numbers alone: the turned number, its bytes (seven bits each, the low ones first), and what any bytes begin with; bits and shifts as arithmetic. No program is in sight. -/
import Derived.Test.YtgchbhepnfnhpaaWMore
import Derived.Laws.BitsLemmas
import Derived.Laws.Bits64
namespace Go.Proofs.Ytgchbhepnfnhpaa.Math
open Go.RowKit Go.Proofs.YtgchbhepnfnhpaaW.PrintWords Go.Proofs.YtgchbhepnfnhpaaW.PrintLast Go.Proofs.YtgchbhepnfnhpaaW.PrintMore
set_option linter.unusedVariables false

theorem evPos {α : Type} {c : Prop} [Decidable c] {f g : Nat → Option α} {r : α} (h : c) (hf : Ev f r) : Ev (fun k => if c then f k else g k) r := by
  simp only [if_pos h]
  exact hf
theorem evNeg {α : Type} {c : Prop} [Decidable c] {f g : Nat → Option α} {r : α} (h : ¬ c) (hf : Ev g r) : Ev (fun k => if c then f k else g k) r := by
  simp only [if_neg h]
  exact hf
theorem wf_i64 {n : Int} (h : (Lit.int .i64 n).wf = true) : -9223372036854775808 ≤ n ∧ n ≤ 9223372036854775807 := by
  simp [Lit.wf, IntKind.min, IntKind.max, IntKind.bits, IntKind.signed] at h
  omega
theorem w64 {n : Int} (h0 : -9223372036854775808 ≤ n) (h1 : n ≤ 9223372036854775807) : wrap64 n = n := by
  unfold wrap64
  omega
theorem wu64 {n : Int} (h0 : 0 ≤ n) (h1 : n < 18446744073709551616) : IntKind.u64.wrap n = n := by
  rw [IntKind.wrap_u64]
  omega
theorem wraps_u64 (n : Int) (h0 : 0 ≤ n) (h1 : n < 2 ^ 64) : IntKind.u64.wrap n = n := wu64 h0 (by simpa using h1)
theorem toNat64 (x : Int) : ((BitVec.ofInt 64 x).toNat : Int) = x % 18446744073709551616 := by
  rw [BitVec.toNat_ofInt]
  omega
theorem ofInt_congr {x y : Int} (h : x % 18446744073709551616 = y % 18446744073709551616) : BitVec.ofInt 64 x = BitVec.ofInt 64 y := by
  apply BitVec.eq_of_toNat_eq
  have h1 := toNat64 x
  have h2 := toNat64 y
  omega

/-! ### bits -/
theorem or_comm (k : IntKind) (x y : Int) : bits .or k x y = bits .or k y x := by
  simp only [bits]
  rw [BitVec.or_comm]
theorem xor_comm (k : IntKind) (x y : Int) : bits .xor k x y = bits .xor k y x := by
  simp only [bits]
  rw [BitVec.xor_comm]
theorem or_add {u c : Int} {i : Nat} (hu0 : 0 ≤ u) (hu : u < 2 ^ i) (hi : i ≤ 63) (hc0 : 0 ≤ c) (hc : c * 2 ^ i < 18446744073709551616) : bits .or .u64 u (c * 2 ^ i) = u + c * 2 ^ i := by
  have hp : (0 : Int) < 2 ^ i := Int.pow_pos (by decide)
  have h63 : (2 : Int) ^ i ≤ 2 ^ 63 := by exact_mod_cast Nat.pow_le_pow_right (by decide : 0 < 2) hi
  have h63' : (2 : Int) ^ 63 = 9223372036854775808 := by decide
  have h64' : (2 : Int) ^ 64 = 18446744073709551616 := by decide
  rw [or_comm, bits_join .u64 64 (by decide) wraps_u64 i (c * 2 ^ i) u (Int.mul_nonneg hc0 (Int.le_of_lt hp)) (by simp) (by omega) hu0 hu (by omega)]
  omega
theorem and127 {c : Int} (h0 : 0 ≤ c) (h1 : c < 256) : bits .and .u8 c 127 = c % 128 := bits_mask .u8 8 (by decide) wraps_u8 7 (by decide) c h0 h1
theorem and1 {u : Int} (h0 : 0 ≤ u) (h1 : u < 18446744073709551616) : bits .and .u64 u 1 = u % 2 := bits_mask .u64 64 (by decide) wraps_u64 1 (by decide) u h0 (by simpa using h1)
theorem or128 {c : Int} (h0 : 0 ≤ c) (h1 : c < 256) : bits .or .u8 c 128 = c % 128 + 128 := by
  obtain ⟨a, rfl⟩ := Int.eq_ofNat_of_zero_le h0
  have ha : a < 2 ^ 8 := by omega
  have h := (bits_nat .u8 8 (by decide) wraps_u8 a 128 ha (by decide)).2
  have : ∀ a : Nat, a < 256 → a ||| 128 = a % 128 + 128 := by decide +kernel
  rw [this a (by omega)] at h
  rw [show ((128 : Nat) : Int) = 128 from rfl] at h
  rw [h]
  omega
theorem xor_i64 (x y : Int) : bits .xor .i64 x y = IntKind.i64.wrap ((BitVec.ofInt 64 x ^^^ BitVec.ofInt 64 y).toNat : Int) := rfl
theorem xor_u64 (x y : Int) : bits .xor .u64 x y = IntKind.u64.wrap ((BitVec.ofInt 64 x ^^^ BitVec.ofInt 64 y).toNat : Int) := rfl
theorem xor64_zero (x : Int) (h0 : -9223372036854775808 ≤ x) (h1 : x ≤ 9223372036854775807) : bits .xor .i64 x 0 = x := by
  rw [xor_i64, show BitVec.ofInt 64 0 = 0#64 from rfl, BitVec.xor_zero, IntKind.wrap_i64]
  have := toNat64 x
  omega
theorem ones64 (x : BitVec 64) : ((x ^^^ BitVec.ofInt 64 (-1)).toNat : Int) = 18446744073709551615 - x.toNat := by
  rw [show BitVec.ofInt 64 (-1) = BitVec.allOnes 64 from rfl, BitVec.xor_allOnes, BitVec.toNat_not]
  have := x.isLt
  omega
theorem xor64_ones (x : Int) (h0 : -9223372036854775808 ≤ x) (h1 : x ≤ 9223372036854775807) : bits .xor .i64 x (-1) = -x - 1 := by
  rw [xor_i64, IntKind.wrap_i64]
  have h2 := ones64 (BitVec.ofInt 64 x)
  have := toNat64 x
  omega
theorem xoru_zero (x : Int) (h0 : 0 ≤ x) (h1 : x < 18446744073709551616) : bits .xor .u64 x 0 = x := by
  rw [xor_u64, show BitVec.ofInt 64 0 = 0#64 from rfl, BitVec.xor_zero, IntKind.wrap_u64]
  have := toNat64 x
  omega
theorem xoru_ones (x : Int) (h0 : 0 ≤ x) (h1 : x < 18446744073709551616) : bits .xor .u64 x 18446744073709551615 = 18446744073709551615 - x := by
  rw [xor_u64, show BitVec.ofInt 64 18446744073709551615 = BitVec.ofInt 64 (-1) from ofInt_congr (by decide), IntKind.wrap_u64]
  have h2 := ones64 (BitVec.ofInt 64 x)
  have := toNat64 x
  omega

/-! ### a number, turned -/
def zig (n : Int) : Int := if 0 ≤ n then 2 * n else -2 * n - 1
def zag (u : Int) : Int := if u % 2 = 0 then u / 2 else -(u / 2) - 1
theorem zig_nonneg (n : Int) : 0 ≤ zig n := by
  unfold zig
  split <;> omega
theorem zig_lt {n : Int} (h0 : -9223372036854775808 ≤ n) (h1 : n ≤ 9223372036854775807) : zig n < 18446744073709551616 := by
  unfold zig
  split <;> omega
theorem zag_zig (n : Int) : zag (zig n) = n := by
  unfold zag zig
  split <;> split <;> omega
theorem zig_zag {u : Int} (h : 0 ≤ u) : zig (zag u) = u := by
  unfold zag zig
  split <;> split <;> omega
theorem zag_lo {u : Int} (h0 : 0 ≤ u) (h1 : u < 18446744073709551616) : -9223372036854775808 ≤ zag u ∧ zag u ≤ 9223372036854775807 := by
  unfold zag
  split <;> omega

/-! ### its bytes -/
/-- Seven bits each, the low ones first; the last byte alone is below 128. -/
def leb : Nat → Int → List Int
  | 0, u => [u % 256]
  | d + 1, u => if 128 ≤ u then (u % 128 + 128) :: leb d (u / 128) else [u]
def nbytes (n : Int) : List Int := leb 10 (zig n)

/-! ### what bytes begin with -/
/-- From place i on, with u gathered: the number, how many bytes, the error. -/
def take (s : ByteArray) : Nat → Int → Int → Int × Int × Int
  | 0, _, _ => (0, 0, 7)
  | d + 1, i, u => if (s.size : Int) ≤ i then (0, 0, 6) else
    if i = 9 ∧ 1 < bt s i then (0, 0, 7) else
    if 128 ≤ bt s i then take s d (i + 1) (u + bt s i % 128 * 2 ^ (7 * i).toNat) else
    if bt s i = 0 ∧ 0 < i then (0, 0, 7) else (zag (u + bt s i % 128 * 2 ^ (7 * i).toNat), i + 1, 0)
def took (s : ByteArray) : Int × Int × Int := take s 10 0 0
theorem bt_lo (s : ByteArray) (i : Int) : 0 ≤ bt s i ∧ bt s i < 256 := by
  unfold bt
  split
  · have := (s[i.toNat]'‹_›).toNat_lt
    omega
  · omega

theorem pow7 {i : Int} (h0 : 0 ≤ i) : (2 : Int) ^ (7 * (i + 1)).toNat = 128 * 2 ^ (7 * i).toNat := by
  rw [show (7 * (i + 1)).toNat = (7 * i).toNat + 7 by omega, Int.pow_add]
  omega
theorem pow_small {i : Int} (h0 : 0 ≤ i) (h9 : i ≤ 9) : (2 : Int) ^ (7 * i).toNat ≤ 9223372036854775808 := by
  have : (2 : Int) ^ (7 * i).toNat ≤ 2 ^ 63 := by exact_mod_cast Nat.pow_le_pow_right (by decide : 0 < 2) (by omega)
  exact this
/-- A step's sum stays a number of 64 bits. -/
theorem step_lt {i c u : Int} (h0 : 0 ≤ i) (h9 : i ≤ 9) (hu : u < 2 ^ (7 * i).toNat) (hc0 : 0 ≤ c) (hc : c < 128) (hc9 : i = 9 → c ≤ 1) : u + c * 2 ^ (7 * i).toNat < 2 ^ (7 * (i + 1)).toNat ∧ c * 2 ^ (7 * i).toNat < 18446744073709551616 ∧ u + c * 2 ^ (7 * i).toNat < 18446744073709551616 := by
  have hp : (0 : Int) < 2 ^ (7 * i).toNat := Int.pow_pos (by decide)
  rw [pow7 h0]
  generalize hP : (2 : Int) ^ (7 * i).toNat = p at *
  have h1 : c * p ≤ 127 * p := Int.mul_le_mul_of_nonneg_right (by omega) (Int.le_of_lt hp)
  by_cases h : i = 9
  · subst h
    have : p = 9223372036854775808 := by rw [← hP]; rfl
    subst this
    have := hc9 rfl
    omega
  · have : p ≤ 72057594037927936 := by
      rw [← hP]
      have : (2 : Int) ^ (7 * i).toNat ≤ 2 ^ 56 := by exact_mod_cast Nat.pow_le_pow_right (by decide : 0 < 2) (by omega)
      exact this
    omega
end Go.Proofs.Ytgchbhepnfnhpaa.Math
