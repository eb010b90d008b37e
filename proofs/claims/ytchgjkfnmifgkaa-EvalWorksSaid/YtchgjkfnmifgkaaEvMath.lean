/- Numbers alone: the turned number, its bytes (seven bits each, the low ones first), and what any bytes begin with; bits and shifts as arithmetic. No program is in sight.
   Numbers alone, the second part: cuts to 8, 16, 32 bits and shifts, as arithmetic. -/
import Derived.Test.YtchgjkfnmifgkaaWMore
import Derived.Laws.BitsLemmas
import Derived.Laws.Bits64
namespace Go.Proofs.Ytchgjkfnmifgkaa.Math
open Go.RowKit Go.Proofs.YtchgjkfnmifgkaaW.PrintWords Go.Proofs.YtchgjkfnmifgkaaW.PrintLast Go.Proofs.YtchgjkfnmifgkaaW.PrintMore
set_option linter.unusedVariables false

theorem evPos {α : Type} {c : Prop} [Decidable c] {f g : Nat → Option α} {r : α} (h : c) (hf : Ev f r) : Ev (fun k => if c then f k else g k) r := by
 simp only [if_pos h]
 exact hf
theorem evNeg {α : Type} {c : Prop} [Decidable c] {f g : Nat → Option α} {r : α} (h : ¬ c) (hf : Ev g r) : Ev (fun k => if c then f k else g k) r := by
 simp only [if_neg h]
 exact hf
theorem wf_i64 {n : Int} (h : (Lit.int .i64 n).wf = true) : -9223372036854775808 ≤ n ∧ n ≤ 9223372036854775807 := by
 simp [Lit.wf, IntKind.min, IntKind.max, IntKind.bits, IntKind.signed] at h
 omega
theorem w64 {n : Int} (h0 : -9223372036854775808 ≤ n) (h1 : n ≤ 9223372036854775807) : wrap64 n = n := by
 unfold wrap64
 omega
theorem wu64 {n : Int} (h0 : 0 ≤ n) (h1 : n < 18446744073709551616) : IntKind.u64.wrap n = n := by
 rw [IntKind.wrap_u64]
 omega
theorem wraps_u64 (n : Int) (h0 : 0 ≤ n) (h1 : n < 2 ^ 64) : IntKind.u64.wrap n = n := wu64 h0 (by simpa using h1)
theorem toNat64 (x : Int) : ((BitVec.ofInt 64 x).toNat : Int) = x % 18446744073709551616 := by
 rw [BitVec.toNat_ofInt]
 omega
theorem ofInt_congr {x y : Int} (h : x % 18446744073709551616 = y % 18446744073709551616) : BitVec.ofInt 64 x = BitVec.ofInt 64 y := by
 apply BitVec.eq_of_toNat_eq
 have h1 := toNat64 x
 have h2 := toNat64 y
 omega

/-! ### bits -/
theorem or_comm (k : IntKind) (x y : Int) : bits .or k x y = bits .or k y x := by
 simp only [bits]
 rw [BitVec.or_comm]
theorem xor_comm (k : IntKind) (x y : Int) : bits .xor k x y = bits .xor k y x := by
 simp only [bits]
 rw [BitVec.xor_comm]
theorem or_add {u c : Int} {i : Nat} (hu0 : 0 ≤ u) (hu : u < 2 ^ i) (hi : i ≤ 63) (hc0 : 0 ≤ c) (hc : c * 2 ^ i < 18446744073709551616) : bits .or .u64 u (c * 2 ^ i) = u + c * 2 ^ i := by
 have hp : (0 : Int) < 2 ^ i := Int.pow_pos (by decide)
 have h63 : (2 : Int) ^ i ≤ 2 ^ 63 := by exact_mod_cast Nat.pow_le_pow_right (by decide : 0 < 2) hi
 have h63' : (2 : Int) ^ 63 = 9223372036854775808 := by decide
 have h64' : (2 : Int) ^ 64 = 18446744073709551616 := by decide
 rw [or_comm, bits_join .u64 64 (by decide) wraps_u64 i (c * 2 ^ i) u (Int.mul_nonneg hc0 (Int.le_of_lt hp)) (by simp) (by omega) hu0 hu (by omega)]
 omega
theorem and127 {c : Int} (h0 : 0 ≤ c) (h1 : c < 256) : bits .and .u8 c 127 = c % 128 := bits_mask .u8 8 (by decide) wraps_u8 7 (by decide) c h0 h1
theorem and1 {u : Int} (h0 : 0 ≤ u) (h1 : u < 18446744073709551616) : bits .and .u64 u 1 = u % 2 := bits_mask .u64 64 (by decide) wraps_u64 1 (by decide) u h0 (by simpa using h1)
theorem or128 {c : Int} (h0 : 0 ≤ c) (h1 : c < 256) : bits .or .u8 c 128 = c % 128 + 128 := by
 obtain ⟨a, rfl⟩ := Int.eq_ofNat_of_zero_le h0
 have ha : a < 2 ^ 8 := by omega
 have h := (bits_nat .u8 8 (by decide) wraps_u8 a 128 ha (by decide)).2
 have : ∀ a : Nat, a < 256 → a ||| 128 = a % 128 + 128 := by decide +kernel
 rw [this a (by omega)] at h
 rw [show ((128 : Nat) : Int) = 128 from rfl] at h
 rw [h]
 omega
theorem xor_i64 (x y : Int) : bits .xor .i64 x y = IntKind.i64.wrap ((BitVec.ofInt 64 x ^^^ BitVec.ofInt 64 y).toNat : Int) := rfl
theorem xor_u64 (x y : Int) : bits .xor .u64 x y = IntKind.u64.wrap ((BitVec.ofInt 64 x ^^^ BitVec.ofInt 64 y).toNat : Int) := rfl
theorem xor64_zero (x : Int) (h0 : -9223372036854775808 ≤ x) (h1 : x ≤ 9223372036854775807) : bits .xor .i64 x 0 = x := by
 rw [xor_i64, show BitVec.ofInt 64 0 = 0#64 from rfl, BitVec.xor_zero, IntKind.wrap_i64]
 have := toNat64 x
 omega
theorem ones64 (x : BitVec 64) : ((x ^^^ BitVec.ofInt 64 (-1)).toNat : Int) = 18446744073709551615 - x.toNat := by
 rw [show BitVec.ofInt 64 (-1) = BitVec.allOnes 64 from rfl, BitVec.xor_allOnes, BitVec.toNat_not]
 have := x.isLt
 omega
theorem xor64_ones (x : Int) (h0 : -9223372036854775808 ≤ x) (h1 : x ≤ 9223372036854775807) : bits .xor .i64 x (-1) = -x - 1 := by
 rw [xor_i64, IntKind.wrap_i64]
 have h2 := ones64 (BitVec.ofInt 64 x)
 have := toNat64 x
 omega
theorem xoru_zero (x : Int) (h0 : 0 ≤ x) (h1 : x < 18446744073709551616) : bits .xor .u64 x 0 = x := by
 rw [xor_u64, show BitVec.ofInt 64 0 = 0#64 from rfl, BitVec.xor_zero, IntKind.wrap_u64]
 have := toNat64 x
 omega
theorem xoru_ones (x : Int) (h0 : 0 ≤ x) (h1 : x < 18446744073709551616) : bits .xor .u64 x 18446744073709551615 = 18446744073709551615 - x := by
 rw [xor_u64, show BitVec.ofInt 64 18446744073709551615 = BitVec.ofInt 64 (-1) from ofInt_congr (by decide), IntKind.wrap_u64]
 have h2 := ones64 (BitVec.ofInt 64 x)
 have := toNat64 x
 omega

/-! ### a number, turned -/
def zig (n : Int) : Int := if 0 ≤ n then 2 * n else -2 * n - 1
def zag (u : Int) : Int := if u % 2 = 0 then u / 2 else -(u / 2) - 1
theorem zig_nonneg (n : Int) : 0 ≤ zig n := by
 unfold zig
 split <;> omega
theorem zig_lt {n : Int} (h0 : -9223372036854775808 ≤ n) (h1 : n ≤ 9223372036854775807) : zig n < 18446744073709551616 := by
 unfold zig
 split <;> omega
theorem zag_zig (n : Int) : zag (zig n) = n := by
 unfold zag zig
 split <;> split <;> omega
theorem zig_zag {u : Int} (h : 0 ≤ u) : zig (zag u) = u := by
 unfold zag zig
 split <;> split <;> omega
theorem zag_lo {u : Int} (h0 : 0 ≤ u) (h1 : u < 18446744073709551616) : -9223372036854775808 ≤ zag u ∧ zag u ≤ 9223372036854775807 := by
 unfold zag
 split <;> omega

/-! ### its bytes -/
/-- Seven bits each, the low ones first; the last byte alone is below 128. -/
def leb : Nat → Int → List Int
 | 0, u => [u % 256]
 | d + 1, u => if 128 ≤ u then (u % 128 + 128) :: leb d (u / 128) else [u]
def nbytes (n : Int) : List Int := leb 10 (zig n)

/-! ### what bytes begin with -/
/-- From place i on, with u gathered: the number, how many bytes, the error. -/
def take (s : ByteArray) : Nat → Int → Int → Int × Int × Int
 | 0, _, _ => (0, 0, 7)
 | d + 1, i, u => if (s.size : Int) ≤ i then (0, 0, 6) else
  if i = 9 ∧ 1 < bt s i then (0, 0, 7) else
  if 128 ≤ bt s i then take s d (i + 1) (u + bt s i % 128 * 2 ^ (7 * i).toNat) else
  if bt s i = 0 ∧ 0 < i then (0, 0, 7) else (zag (u + bt s i % 128 * 2 ^ (7 * i).toNat), i + 1, 0)
def took (s : ByteArray) : Int × Int × Int := take s 10 0 0
theorem bt_lo (s : ByteArray) (i : Int) : 0 ≤ bt s i ∧ bt s i < 256 := by
 unfold bt
 split
 ·
  have := (s[i.toNat]'‹_›).toNat_lt
  omega
 ·
  omega

theorem pow7 {i : Int} (h0 : 0 ≤ i) : (2 : Int) ^ (7 * (i + 1)).toNat = 128 * 2 ^ (7 * i).toNat := by
 rw [show (7 * (i + 1)).toNat = (7 * i).toNat + 7 by omega, Int.pow_add]
 omega
theorem pow_small {i : Int} (h0 : 0 ≤ i) (h9 : i ≤ 9) : (2 : Int) ^ (7 * i).toNat ≤ 9223372036854775808 := by
 have : (2 : Int) ^ (7 * i).toNat ≤ 2 ^ 63 := by exact_mod_cast Nat.pow_le_pow_right (by decide : 0 < 2) (by omega)
 exact this
/-- A step's sum stays a number of 64 bits. -/
theorem step_lt {i c u : Int} (h0 : 0 ≤ i) (h9 : i ≤ 9) (hu : u < 2 ^ (7 * i).toNat) (hc0 : 0 ≤ c) (hc : c < 128) (hc9 : i = 9 → c ≤ 1) : u + c * 2 ^ (7 * i).toNat < 2 ^ (7 * (i + 1)).toNat ∧ c * 2 ^ (7 * i).toNat < 18446744073709551616 ∧ u + c * 2 ^ (7 * i).toNat < 18446744073709551616 := by
 have hp : (0 : Int) < 2 ^ (7 * i).toNat := Int.pow_pos (by decide)
 rw [pow7 h0]
 generalize hP : (2 : Int) ^ (7 * i).toNat = p at *
 have h1 : c * p ≤ 127 * p := Int.mul_le_mul_of_nonneg_right (by omega) (Int.le_of_lt hp)
 by_cases h : i = 9
 ·
  subst h
  have : p = 9223372036854775808 := by rw [← hP]; rfl
  subst this
  have := hc9 rfl
  omega
 ·
  have : p ≤ 72057594037927936 := by
   rw [← hP]
   have : (2 : Int) ^ (7 * i).toNat ≤ 2 ^ 56 := by exact_mod_cast Nat.pow_le_pow_right (by decide : 0 < 2) (by omega)
   exact this
  omega
end Go.Proofs.Ytchgjkfnmifgkaa.Math

namespace Go.Proofs.Ytchgjkfnmifgkaa.Math
open Go.RowKit Go.Proofs.YtchgjkfnmifgkaaW.PrintWords Go.Proofs.YtchgjkfnmifgkaaW.PrintLast Go.Proofs.YtchgjkfnmifgkaaW.PrintMore
set_option linter.unusedVariables false

theorem mask_u64 {x : Int} (i : Nat) (hi : i ≤ 64) (h0 : 0 ≤ x) (h1 : x < 18446744073709551616) : bits .and .u64 x (2 ^ i - 1) = x % 2 ^ i := bits_mask .u64 64 (by decide) wraps_u64 i hi x h0 (by simpa using h1)
theorem and63 {x : Int} (h0 : 0 ≤ x) (h1 : x < 18446744073709551616) : bits .and .u64 x 63 = x % 64 := mask_u64 6 (by decide) h0 h1
theorem andNot1 (x : Int) (h0 : -9223372036854775808 ≤ x) (h1 : x ≤ 9223372036854775807) : bits .andNot .i64 x 1 = x - x % 2 := by
 have e : bits .andNot .i64 x 1 = IntKind.i64.wrap ((BitVec.ofInt 64 x &&& ~~~ BitVec.ofInt 64 1).toNat : Int) := rfl
 have h2 : ∀ v : BitVec 64, (v &&& ~~~ BitVec.ofInt 64 1).toNat = v.toNat - v.toNat % 2 := by
  intro v
  have hlt := v.isLt
  have : (v &&& ~~~ BitVec.ofInt 64 1).toNat = v.toNat &&& (18446744073709551614 : Nat) := by
   rw [BitVec.toNat_and]
   rfl
  rw [this]
  apply Nat.eq_of_testBit_eq
  intro i
  rw [Nat.testBit_and]
  have hm : v.toNat - v.toNat % 2 = 2 * (v.toNat / 2) := by omega
  rw [hm]
  cases i with
  | zero =>
   have h1 : Nat.testBit 18446744073709551614 0 = false := by decide
   have h2 : Nat.testBit (2 * (v.toNat / 2)) 0 = false := by simp [Nat.testBit_zero]
   rw [h1, h2, Bool.and_false]
  | succ j =>
   have h2 : Nat.testBit (2 * (v.toNat / 2)) (j + 1) = Nat.testBit v.toNat (j + 1) := by
    rw [Nat.testBit_succ, Nat.testBit_succ]
    congr 1
    omega
   rw [h2]
   by_cases hj : j + 1 < 64
   ·
    have : Nat.testBit 18446744073709551614 (j + 1) = true := by
     have : ∀ j : Fin 63, Nat.testBit 18446744073709551614 (j.val + 1) = true := by decide +kernel
     exact this ⟨j, by omega⟩
    rw [this, Bool.and_true]
   ·
    have : Nat.testBit v.toNat (j + 1) = false := Nat.testBit_lt_two_pow (Nat.lt_of_lt_of_le hlt (Nat.pow_le_pow_right (by decide) (by omega)))
    rw [this, Bool.false_and]
 rw [e, h2, IntKind.wrap_i64]
 have := toNat64 x
 omega

/-! ### cuts -/
/-- The lowest bits of a number, without a sign and with one: of 8, 16, 32. -/
def lows (b : Int) (n : Int) : Int := if b = 8 then n % 256 else if b = 16 then n % 65536 else n % 4294967296
def cutv (b : Int) (signed : Bool) (n : Int) : Int :=
 if signed = true then (if b = 8 then (n + 128) % 256 - 128 else if b = 16 then (n + 32768) % 65536 - 32768 else (n + 2147483648) % 4294967296 - 2147483648) else lows b n
theorem wrap_i8 (n : Int) : IntKind.i8.wrap n = (n + 128) % 256 - 128 := by
 simp [IntKind.wrap, IntKind.bits, IntKind.signed]
 split <;> omega
theorem wrap_i16 (n : Int) : IntKind.i16.wrap n = (n + 32768) % 65536 - 32768 := by
 simp [IntKind.wrap, IntKind.bits, IntKind.signed]
 split <;> omega
theorem wrap_u16 (n : Int) : IntKind.u16.wrap n = n % 65536 := by simp [IntKind.wrap, IntKind.bits, IntKind.signed]
theorem i8_of (n : Int) : wrap64 (IntKind.i8.wrap n) = (n + 128) % 256 - 128 := by rw [wrap_i8, w64 (by omega) (by omega)]
theorem i16_of (n : Int) : wrap64 (IntKind.i16.wrap n) = (n + 32768) % 65536 - 32768 := by rw [wrap_i16, w64 (by omega) (by omega)]
theorem u16_of (n : Int) : wrap64 (IntKind.u16.wrap n) = n % 65536 := by rw [wrap_u16, w64 (by omega) (by omega)]
theorem i32_of (n : Int) : wrap64 (wrap32 n) = (n + 2147483648) % 4294967296 - 2147483648 := by
 rw [w64 (by unfold wrap32; omega) (by unfold wrap32; omega)]
 unfold wrap32
 rfl

/-- The reference's way: a mask, and the sign's bits set again. -/
theorem ref_cut (n : Int) (i : Nat) (hi : i = 8 ∨ i = 16 ∨ i = 32) :
  bits .and .u64 (IntKind.u64.wrap n) (IntKind.u64.wrap (shl .u64 1 (i : Int) - 1)) = n % 2 ^ i ∧
  ∀ r, 0 ≤ r → r < 2 ^ i → bits .or .u64 r (shl .u64 18446744073709551615 (i : Int)) = r + (18446744073709551616 - 2 ^ i) ∧ shr .u64 r (wrap64 ((i : Int) - 1)) = r / 2 ^ (i - 1) := by
 have hn0 : 0 ≤ IntKind.u64.wrap n := by rw [IntKind.wrap_u64]; omega
 have hn1 : IntKind.u64.wrap n < 18446744073709551616 := by rw [IntKind.wrap_u64]; omega
 rcases hi with rfl | rfl | rfl
 ·
  refine ⟨?_, fun r h0 h1 => ⟨?_, ?_⟩⟩
  ·
   rw [show IntKind.u64.wrap (shl .u64 1 ((8 : Nat) : Int) - 1) = 2 ^ 8 - 1 from by decide +kernel, mask_u64 8 (by decide) hn0 hn1, IntKind.wrap_u64]
   omega
  ·
   rw [show shl .u64 18446744073709551615 ((8 : Nat) : Int) = 72057594037927935 * 2 ^ 8 from by decide +kernel, or_add h0 h1 (by decide) (by decide) (by decide)]
   omega
  ·
   rw [show wrap64 (((8 : Nat) : Int) - 1) = 7 from by decide +kernel]
   rfl
 ·
  refine ⟨?_, fun r h0 h1 => ⟨?_, ?_⟩⟩
  ·
   rw [show IntKind.u64.wrap (shl .u64 1 ((16 : Nat) : Int) - 1) = 2 ^ 16 - 1 from by decide +kernel, mask_u64 16 (by decide) hn0 hn1, IntKind.wrap_u64]
   omega
  ·
   rw [show shl .u64 18446744073709551615 ((16 : Nat) : Int) = 281474976710655 * 2 ^ 16 from by decide +kernel, or_add h0 h1 (by decide) (by decide) (by decide)]
   omega
  ·
   rw [show wrap64 (((16 : Nat) : Int) - 1) = 15 from by decide +kernel]
   rfl
 ·
  refine ⟨?_, fun r h0 h1 => ⟨?_, ?_⟩⟩
  ·
   rw [show IntKind.u64.wrap (shl .u64 1 ((32 : Nat) : Int) - 1) = 2 ^ 32 - 1 from by decide +kernel, mask_u64 32 (by decide) hn0 hn1, IntKind.wrap_u64]
   omega
  ·
   rw [show shl .u64 18446744073709551615 ((32 : Nat) : Int) = 4294967295 * 2 ^ 32 from by decide +kernel, or_add h0 h1 (by decide) (by decide) (by decide)]
   omega
  ·
   rw [show wrap64 (((32 : Nat) : Int) - 1) = 31 from by decide +kernel]
   rfl

/-! ### shifts -/
/-- By k places, 0 ≤ k < 64: to the left (0), to the right with the sign (1), without (2). -/
def shv (kind n k : Int) : Int := if kind = 0 then wrap64 (n * 2 ^ k.toNat) else if kind = 1 then n / 2 ^ k.toNat else wrap64 (n % 18446744073709551616 / 2 ^ k.toNat)
theorem by64 (by_ : Int) : (IntKind.u64.wrap by_).tmod 64 = by_ % 64 ∧ bits .and .u64 (IntKind.u64.wrap by_) 63 = by_ % 64 := by
 have h0 : 0 ≤ IntKind.u64.wrap by_ := by rw [IntKind.wrap_u64]; omega
 have h1 : IntKind.u64.wrap by_ < 18446744073709551616 := by rw [IntKind.wrap_u64]; omega
 rw [Int.tmod_eq_emod_of_nonneg h0, and63 h0 h1, IntKind.wrap_u64]
 omega
theorem shl_of {n k : Int} (h0 : 0 ≤ k) (h1 : k < 64) : shl .i64 n k = wrap64 (n * 2 ^ k.toNat) := by
 unfold shl
 rw [show min k.toNat IntKind.i64.bits = k.toNat by simp only [IntKind.bits]; omega, IntKind.wrap_i64]
 unfold wrap64
 rfl
theorem shr_of (kd : IntKind) {n k : Int} (hk : kd.bits = 64) (h0 : 0 ≤ k) (h1 : k < 64) : shr kd n k = n / 2 ^ k.toNat := by
 unfold shr
 rw [show min k.toNat kd.bits = k.toNat by omega]
theorem shv_lo (kind n k : Int) (h0 : -9223372036854775808 ≤ n) (h1 : n ≤ 9223372036854775807) : -9223372036854775808 ≤ shv kind n k ∧ shv kind n k ≤ 9223372036854775807 := by
 unfold shv
 split
 ·
  unfold wrap64; omega
 ·
  split
  ·
   have hp : (0 : Int) < 2 ^ k.toNat := Int.pow_pos (by decide)
   constructor
   ·
    exact (Int.le_ediv_iff_mul_le hp).2 (by
     have : (-9223372036854775808 : Int) * 2 ^ k.toNat ≤ -9223372036854775808 * 1 := Int.mul_le_mul_of_nonpos_left (by decide) (by omega)
     omega)
   ·
    rcases (show n < 0 ∨ 0 ≤ n by omega) with h | h
    ·
     have := Int.ediv_neg_of_neg_of_pos h hp
     omega
    ·
     exact Int.le_trans (Int.ediv_le_self _ h) h1
  ·
   unfold wrap64; omega
theorem pow_succ {k : Int} (h0 : 0 ≤ k) : (2 : Int) ^ (k + 1).toNat = 2 ^ k.toNat * 2 := by
 rw [show (k + 1).toNat = k.toNat + 1 by omega, Int.pow_succ]
theorem wrap64_mul (x c : Int) : wrap64 (wrap64 x * c) = wrap64 (x * c) := by
 have h : wrap64 x = x - 18446744073709551616 * ((x + 9223372036854775808) / 18446744073709551616) := by unfold wrap64; omega
 unfold wrap64 at *
 rw [h, Int.sub_mul, Int.mul_assoc]
 generalize (x + 9223372036854775808) / 18446744073709551616 * c = q
 omega
theorem shv0 (n k : Int) : shv 0 n k = wrap64 (n * 2 ^ k.toNat) := by simp [shv]
theorem shv1 (n k : Int) : shv 1 n k = n / 2 ^ k.toNat := by simp [shv]
theorem shv2 (n k : Int) : shv 2 n k = wrap64 (n % 18446744073709551616 / 2 ^ k.toNat) := by simp [shv]
theorem two1 : (2 : Int) ^ (1 : Int).toNat = 2 := rfl
/-- One place more. -/
theorem shv_succ (kind n k : Int) (hk : kind = 0 ∨ kind = 1 ∨ kind = 2) (h0 : 0 ≤ k) : shv kind (shv kind n k) 1 = shv kind n (k + 1) := by
 have hp : (0 : Int) < 2 ^ k.toNat := Int.pow_pos (by decide)
 rcases hk with rfl | rfl | rfl
 ·
  rw [shv0, shv0, shv0, pow_succ h0, two1, wrap64_mul, Int.mul_assoc]
 ·
  rw [shv1, shv1, shv1, pow_succ h0, two1, Int.ediv_ediv_of_nonneg (Int.le_of_lt hp)]
 ·
  rw [shv2, shv2, shv2, pow_succ h0, two1, ← Int.ediv_ediv_of_nonneg (Int.le_of_lt hp)]
  have h1 : 0 ≤ n % 18446744073709551616 / 2 ^ k.toNat := Int.ediv_nonneg (by omega) (Int.le_of_lt hp)
  have h2 : n % 18446744073709551616 / 2 ^ k.toNat ≤ n % 18446744073709551616 := Int.ediv_le_self _ (by omega)
  generalize n % 18446744073709551616 / 2 ^ k.toNat = q at *
  congr 1
  unfold wrap64
  omega
theorem shv_zero (kind n : Int) (h0 : -9223372036854775808 ≤ n) (h1 : n ≤ 9223372036854775807) : shv kind n 0 = n := by
 unfold shv wrap64
 simp
 split
 ·
  omega
 ·
  split <;> omega
theorem shv_twice {v : Int} (h0 : -9223372036854775808 ≤ v) (h1 : v ≤ 9223372036854775807) :
  shv 0 v 1 = wrap64 (v + v) ∧ wrap64 (shv 1 v 1 + shv 1 v 1) = bits .andNot .i64 v 1 ∧ IntKind.u64.wrap (shv 2 v 1) = IntKind.u64.wrap ((IntKind.u64.wrap v).tdiv 2) := by
 refine ⟨?_, ?_, ?_⟩
 ·
  rw [shv0, two1]
  congr 1
  omega
 ·
  rw [shv1, two1, andNot1 v h0 h1, w64 (by omega) (by omega)]
  omega
 ·
  rw [shv2, two1, Int.tdiv_eq_ediv_of_nonneg (by rw [IntKind.wrap_u64]; omega)]
  simp only [IntKind.wrap_u64]
  unfold wrap64
  omega
end Go.Proofs.Ytchgjkfnmifgkaa.Math
