/- Keys and records as bytes: what they are written as, what any bytes begin with, and that the one undoes the other. -/
import Derived.Test.YtgchbhepnfnhpaaMath3
namespace Go.Proofs.Ytgchbhepnfnhpaa.Math
open Go.RowKit Go.Proofs.YtgchbhepnfnhpaaW.PrintWords Go.Proofs.YtgchbhepnfnhpaaW.PrintLast Go.Proofs.YtgchbhepnfnhpaaW.PrintMore
set_option linter.unusedVariables false

abbrev nobytes : ByteArray := ⟨#[]⟩
theorem bs_nil : bytesOf nobytes = [] := rfl
def keybytes (a : Int) (b : ByteArray) : ByteArray := strOfNums (nbytes a) ++ strOfNums (nbytes b.size) ++ b
def recbytes (a : Int) (b : ByteArray) (v : Int) : ByteArray := keybytes a b ++ strOfNums (nbytes v)

def keytake (s : ByteArray) : Int × ByteArray × Int × Int :=
  if (took s).2.2 = 0 then
    (let t := took (s.extract (took s).2.1.toNat s.size)
     if t.2.2 = 0 then
      (if t.1 < 0 ∨ 64 < t.1 then (0, nobytes, 0, 2) else
       if (s.size : Int) - ((took s).2.1 + t.2.1) < t.1 then (0, nobytes, 0, 6) else
        ((took s).1, s.extract ((took s).2.1 + t.2.1).toNat ((took s).2.1 + t.2.1 + t.1).toNat, (took s).2.1 + t.2.1 + t.1, 0))
     else (0, nobytes, 0, t.2.2))
  else (0, nobytes, 0, (took s).2.2)
def rectake (s : ByteArray) : Int × ByteArray × Int × Int × Int :=
  if (keytake s).2.2.2 = 0 then
    (let t := took (s.extract (keytake s).2.2.1.toNat s.size)
     if t.2.2 = 0 then ((keytake s).1, (keytake s).2.1, t.1, (keytake s).2.2.1 + t.2.1, 0) else (0, nobytes, 0, 0, t.2.2))
  else (0, nobytes, 0, 0, (keytake s).2.2.2)

/-- What is taken lies within. -/
theorem took_in {s : ByteArray} (h : (took s).2.2 = 0) : 0 < (took s).2.1 ∧ (took s).2.1 ≤ s.size ∧ (took s).2.1 ≤ 10 ∧ -9223372036854775808 ≤ (took s).1 ∧ (took s).1 ≤ 9223372036854775807 := by
  obtain ⟨m, j, e, hh⟩ : ∃ m j e, took s = (m, j, e) := ⟨_, _, _, rfl⟩
  rw [hh] at h ⊢
  obtain rfl : e = 0 := h
  rw [took_bs] at hh
  obtain ⟨h1, h2, h3, h4, h5, _⟩ := nbytes_took (bs_range s) hh
  rw [bytesOf_length] at h4
  exact ⟨h3, h4, h5, h1, h2⟩
theorem ext_size {s : ByteArray} {n : Int} (h0 : 0 ≤ n) (h1 : n ≤ s.size) : ((s.extract n.toNat s.size).size : Int) = s.size - n := by
  rw [ByteArray.size_extract]
  omega
theorem keytake_in {s : ByteArray} (h : (keytake s).2.2.2 = 0) : 0 < (keytake s).2.2.1 ∧ (keytake s).2.2.1 ≤ s.size ∧ (keytake s).2.1.size ≤ 64 ∧ -9223372036854775808 ≤ (keytake s).1 ∧ (keytake s).1 ≤ 9223372036854775807 := by
  unfold keytake at h ⊢
  by_cases h1 : (took s).2.2 = 0
  · obtain ⟨a1, a2, a3, a4, a5⟩ := took_in h1
    rw [if_pos h1] at h ⊢
    generalize hs : s.extract (took s).2.1.toNat s.size = s' at *
    have hs' : (s'.size : Int) = s.size - (took s).2.1 := by rw [← hs]; exact ext_size (by omega) a2
    simp only at h ⊢
    by_cases h2 : (took s').2.2 = 0
    · obtain ⟨b1, b2, b3, b4, b5⟩ := took_in h2
      rw [if_pos h2] at h ⊢
      by_cases h3 : (took s').1 < 0 ∨ 64 < (took s').1
      · rw [if_pos h3] at h
        simp at h
      · rw [if_neg h3] at h ⊢
        by_cases h4 : (s.size : Int) - ((took s).2.1 + (took s').2.1) < (took s').1
        · rw [if_pos h4] at h
          simp at h
        · rw [if_neg h4]
          dsimp only
          refine ⟨by omega, by omega, ?_, a4, a5⟩
          rw [ByteArray.size_extract]
          omega
    · rw [if_neg h2] at h
      exact absurd h h2
  · rw [if_neg h1] at h
    exact absurd h h1
theorem rectake_in {s : ByteArray} (h : (rectake s).2.2.2.2 = 0) : 0 < (rectake s).2.2.2.1 ∧ (rectake s).2.2.2.1 ≤ s.size := by
  unfold rectake at h ⊢
  by_cases h1 : (keytake s).2.2.2 = 0
  · obtain ⟨a1, a2, _⟩ := keytake_in h1
    rw [if_pos h1] at h ⊢
    generalize hs : s.extract (keytake s).2.2.1.toNat s.size = s' at *
    have hs' : (s'.size : Int) = s.size - (keytake s).2.2.1 := by rw [← hs]; exact ext_size (by omega) a2
    simp only at h ⊢
    by_cases h2 : (took s').2.2 = 0
    · obtain ⟨b1, b2, _⟩ := took_in h2
      rw [if_pos h2]
      show 0 < (keytake s).2.2.1 + (took s').2.1 ∧ (keytake s).2.2.1 + (took s').2.1 ≤ s.size
      omega
    · rw [if_neg h2] at h
      exact absurd h h2
  · rw [if_neg h1] at h
    exact absurd h h1

/-! ### written, and taken -/
theorem size_num {n : Int} (h0 : -9223372036854775808 ≤ n) (h1 : n ≤ 9223372036854775807) : (strOfNums (nbytes n)).size ≤ 10 ∧ 0 < (strOfNums (nbytes n)).size := by
  rw [strOfNums_size]
  exact nbytes_length h0 h1
theorem took_num {n : Int} (h0 : -9223372036854775808 ≤ n) (h1 : n ≤ 9223372036854775807) (r : ByteArray) : took (strOfNums (nbytes n) ++ r) = (n, ((strOfNums (nbytes n)).size : Int), 0) := by
  rw [took_bs, bs_append, bs_nbytes, tookL_nbytes h0 h1, strOfNums_size]
theorem ext_append (a b : ByteArray) : (a ++ b).extract (a.size : Int).toNat (a ++ b).size = b := by
  apply bs_inj
  rw [bs_extract, bs_append, Int.toNat_natCast, List.take_of_length_le (by rw [List.length_append, bytesOf_length, bytesOf_length, ByteArray.size_append]; omega), ← bytesOf_length a, List.drop_left]
theorem keytake_bytes {a : Int} (h0 : -9223372036854775808 ≤ a) (h1 : a ≤ 9223372036854775807) {b : ByteArray} (hb : b.size ≤ 64) (r : ByteArray) : keytake (keybytes a b ++ r) = (a, b, ((keybytes a b).size : Int), 0) := by
  have e : keybytes a b ++ r = strOfNums (nbytes a) ++ (strOfNums (nbytes b.size) ++ (b ++ r)) := by
    unfold keybytes
    rw [ByteArray.append_assoc, ByteArray.append_assoc]
  have k : keybytes a b = strOfNums (nbytes a) ++ strOfNums (nbytes b.size) ++ b := rfl
  have t1 : took (keybytes a b ++ r) = (a, ((strOfNums (nbytes a)).size : Int), 0) := by rw [e]; exact took_num h0 h1 _
  have t2 : took ((keybytes a b ++ r).extract ((strOfNums (nbytes a)).size : Int).toNat (keybytes a b ++ r).size) = ((b.size : Int), ((strOfNums (nbytes b.size)).size : Int), 0) := by
    rw [e, ext_append]
    exact took_num (by omega) (by omega) _
  unfold keytake
  rw [t1]
  simp only [if_true]
  rw [t2]
  simp only [if_true]
  have hsz : (keybytes a b).size = (strOfNums (nbytes a)).size + (strOfNums (nbytes b.size)).size + b.size := by rw [k, ByteArray.size_append, ByteArray.size_append]
  have hall : (keybytes a b ++ r).size = (keybytes a b).size + r.size := ByteArray.size_append
  rw [if_neg (by omega), if_neg (by rw [hall, hsz]; omega)]
  refine Prod.ext rfl (Prod.ext ?_ (Prod.ext ?_ rfl))
  · show (keybytes a b ++ r).extract _ _ = b
    apply bs_inj
    rw [bs_extract, bs_append, k, bs_append, bs_append]
    generalize hx : bytesOf (strOfNums (nbytes a)) = x
    generalize hy : bytesOf (strOfNums (nbytes b.size)) = y
    have hxl : x.length = (strOfNums (nbytes a)).size := by rw [← hx, bytesOf_length]
    have hyl : y.length = (strOfNums (nbytes b.size)).size := by rw [← hy, bytesOf_length]
    have hbl := bytesOf_length b
    rw [show (((strOfNums (nbytes a)).size : Int) + ((strOfNums (nbytes b.size)).size : Int) + (b.size : Int)).toNat = (x ++ y ++ bytesOf b).length by simp only [List.length_append]; omega, List.take_left, show (((strOfNums (nbytes a)).size : Int) + ((strOfNums (nbytes b.size)).size : Int)).toNat = (x ++ y).length by simp only [List.length_append]; omega, List.drop_left]
  · dsimp only
    rw [hsz]
    omega
theorem rectake_bytes {a v : Int} (h0 : -9223372036854775808 ≤ a) (h1 : a ≤ 9223372036854775807) (g0 : -9223372036854775808 ≤ v) (g1 : v ≤ 9223372036854775807) {b : ByteArray} (hb : b.size ≤ 64) (r : ByteArray) :
    rectake (recbytes a b v ++ r) = (a, b, v, ((recbytes a b v).size : Int), 0) := by
  have e : recbytes a b v ++ r = keybytes a b ++ (strOfNums (nbytes v) ++ r) := by
    unfold recbytes
    rw [ByteArray.append_assoc]
  have t1 : keytake (recbytes a b v ++ r) = (a, b, ((keybytes a b).size : Int), 0) := by rw [e]; exact keytake_bytes h0 h1 hb _
  have t2 : took ((recbytes a b v ++ r).extract ((keybytes a b).size : Int).toNat (recbytes a b v ++ r).size) = (v, ((strOfNums (nbytes v)).size : Int), 0) := by
    rw [e, ext_append]
    exact took_num g0 g1 _
  unfold rectake
  rw [t1]
  simp only [if_true]
  rw [t2]
  simp only [if_true]
  refine Prod.ext rfl (Prod.ext rfl (Prod.ext rfl (Prod.ext ?_ rfl)))
  show ((keybytes a b).size : Int) + _ = ((recbytes a b v).size : Int)
  unfold recbytes
  rw [ByteArray.size_append]
  omega
theorem recbytes_size {a v : Int} (h0 : -9223372036854775808 ≤ a) (h1 : a ≤ 9223372036854775807) (g0 : -9223372036854775808 ≤ v) (g1 : v ≤ 9223372036854775807) {b : ByteArray} (hb : b.size ≤ 140737488351232) :
    (recbytes a b v).size ≤ 30 + b.size ∧ 0 < (recbytes a b v).size := by
  have s1 := size_num h0 h1
  have s2 := size_num g0 g1
  have s3 := size_num (n := b.size) (by omega) (by omega)
  unfold recbytes keybytes
  simp only [ByteArray.size_append]
  omega
end Go.Proofs.Ytgchbhepnfnhpaa.Math
