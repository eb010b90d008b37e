/- Records and lists of them, in plain Lean: what the program's functions and the page's come to, the same on both sides; what is written is taken back. -/
import Derived.Test.YtgchbhepnfnhpaaTyQRec
import Derived.Test.YtgchbhepnfnhpaaRgRec
import Derived.Test.YtgchbhepnfnhpaaQRecx5
import Derived.Test.YtgchbhepnfnhpaaQRecx7
namespace Go.Proofs.Ytgchbhepnfnhpaa.QRec
open Go.RowKit Go.Proofs.Ytgchbhepnfnhpaa Go.Proofs.YtgchbhepnfnhpaaW.PrintWords Go.Proofs.YtgchbhepnfnhpaaW.PrintLast Go.Proofs.YtgchbhepnfnhpaaW.PrintMore Go.Proofs.Ytgchbhepnfnhpaa.Math
set_option linter.unusedVariables false
set_option linter.unusedSimpArgs false

theorem good_rd {l : List S32} (h : ∀ y ∈ l, Good32 y) {i : Int} (h0 : 0 ≤ i) (h1 : i < l.length) : Good32 (rd_T32 l i) := by
  unfold rd_T32
  have hl : i.toNat < l.length := by omega
  rw [List.getD_eq_getElem?_getD, List.getElem?_eq_getElem hl]
  exact h _ (List.getElem_mem hl)
theorem drop_rd {l : List S32} {i : Int} (h0 : 0 ≤ i) (h1 : i < l.length) : l.drop i.toNat = rd_T32 l i :: l.drop (i + 1).toNat := by
  have hl : i.toNat < l.length := by omega
  rw [List.drop_eq_getElem_cons hl, show (i + 1).toNat = i.toNat + 1 by omega]
  congr 1
  unfold rd_T32
  rw [List.getD_eq_getElem?_getD, List.getElem?_eq_getElem hl]
  rfl
theorem good_i {r : S32} (h : Good32 r) : (-9223372036854775808 ≤ r.f0.f0 ∧ r.f0.f0 ≤ 9223372036854775807) ∧ r.f0.f1.size ≤ 140737488351232 ∧ -9223372036854775808 ≤ r.f1 ∧ r.f1 ≤ 9223372036854775807 := by
  obtain ⟨⟨h1, h2⟩, h3⟩ := h
  exact ⟨wf_i64 h1, h2, wf_i64 h3⟩

/-! ### one record -/
def rb (r : S32) : ByteArray := recbytes r.f0.f0 r.f0.f1 r.f1
theorem rec_bytes_ev {a v : Int} (h0 : -9223372036854775808 ≤ a) (h1 : a ≤ 9223372036854775807) (g0 : -9223372036854775808 ≤ v) (g1 : v ≤ 9223372036854775807) {b : ByteArray} (hb : b.size ≤ 140737488351232) :
    Ev (fun k => rec_Bytes.f k a b v) (if b.size ≤ 64 then (recbytes a b v, 0) else (nobytes, 1)) := by
  unfold rec_Bytes.f
  have hk : Ev (fun k => key_Bytes.f k a b) (if b.size ≤ 64 then (keybytes a b, 0) else (nobytes, 1)) := by
    unfold key_Bytes.f key_Check.f
    by_cases h : b.size ≤ 64
    · rw [if_pos h, if_neg (by omega)]
      simp only [Option.bind_some, if_true]
      have s1 := size_num h0 h1
      have s2 := size_num (n := b.size) (by omega) (by omega)
      refine Ev.bind (f := fun k (x : ByteArray) => (num_Bytes.f k (b.size : Int)).bind fun y => if x.size + y.size ≤ 9223372036854775807 then (if x.size + y.size + b.size ≤ 9223372036854775807 then (some ((x ++ y) ++ b, 0)) else (none)) else (none)) (bytes_ev h0 h1) ?_
      refine Ev.bind (f := fun k (y : ByteArray) => if (strOfNums (nbytes a)).size + y.size ≤ 9223372036854775807 then (if (strOfNums (nbytes a)).size + y.size + b.size ≤ 9223372036854775807 then (some ((strOfNums (nbytes a) ++ y) ++ b, 0)) else (none)) else (none)) (bytes_ev (n := b.size) (by omega) (by omega)) ?_
      exact evPos (by omega) (evPos (by omega) (Ev.now _))
    · rw [if_neg h, if_pos (by omega)]
      simp only [Option.bind_some]
      exact evNeg (by decide) (Ev.now _)
  refine Ev.bind (f := fun k (x : ByteArray × Int) => if x.2 = 0 then ((num_Bytes.f k v).bind fun y => (if x.1.size + y.size ≤ 9223372036854775807 then (some (x.1 ++ y, 0)) else (none))) else (some ((⟨#[]⟩ : ByteArray), x.2))) hk ?_
  by_cases h : b.size ≤ 64
  · simp only [if_pos h, if_true]
    have s1 := size_num h0 h1
    have s2 := size_num (n := b.size) (by omega) (by omega)
    have s3 := size_num g0 g1
    refine Ev.bind (f := fun k (y : ByteArray) => (if (keybytes a b).size + y.size ≤ 9223372036854775807 then (some (keybytes a b ++ y, 0)) else (none))) (bytes_ev g0 g1) ?_
    refine evPos ?_ (Ev.now _)
    unfold keybytes
    simp only [ByteArray.size_append]
    omega
  · simp only [if_neg h]
    exact evNeg (by decide) (Ev.now _)
theorem refrec_ev {a v : Int} (h0 : -9223372036854775808 ≤ a) (h1 : a ≤ 9223372036854775807) (g0 : -9223372036854775808 ≤ v) (g1 : v ≤ 9223372036854775807) {b : ByteArray} (hb : b.size ≤ 140737488351232) :
    Ev (fun k => thresherref3_Rec.f k a b v) (recbytes a b v) := by
  unfold thresherref3_Rec.f
  have s1 := size_num h0 h1
  have s2 := size_num (n := b.size) (by omega) (by omega)
  have s3 := size_num g0 g1
  have hk : Ev (fun k => thresherref3_Bytes.f k a b) (keybytes a b) := by
    unfold thresherref3_Bytes.f
    refine Ev.bind (f := fun k (x : ByteArray) => (thresherref1_Bytes.f k (b.size : Int)).bind fun y => if x.size + y.size ≤ 9223372036854775807 then (if x.size + y.size + b.size ≤ 9223372036854775807 then (some ((x ++ y) ++ b)) else (none)) else (none)) (refbytes_ev h0 h1) ?_
    refine Ev.bind (f := fun k (y : ByteArray) => if (strOfNums (nbytes a)).size + y.size ≤ 9223372036854775807 then (if (strOfNums (nbytes a)).size + y.size + b.size ≤ 9223372036854775807 then (some ((strOfNums (nbytes a) ++ y) ++ b)) else (none)) else (none)) (refbytes_ev (n := b.size) (by omega) (by omega)) ?_
    exact evPos (by omega) (evPos (by omega) (Ev.now _))
  refine Ev.bind (f := fun k (x : ByteArray) => ((thresherref1_Bytes.f k v).bind fun y => (if x.size + y.size ≤ 9223372036854775807 then (some (x ++ y)) else (none)))) hk ?_
  refine Ev.bind (f := fun k (y : ByteArray) => (if (keybytes a b).size + y.size ≤ 9223372036854775807 then (some (keybytes a b ++ y)) else (none))) (refbytes_ev g0 g1) ?_
  refine evPos ?_ (Ev.now _)
  unfold keybytes
  simp only [ByteArray.size_append]
  omega

/-! ### heavy -/
theorem weight_l0 (l : List S32) (hl : ∀ y ∈ l, Good32 y) (hlen : l.length ≤ 4398046510976) : ∀ (d : Nat) (i n : Int), 0 ≤ i → i ≤ l.length → l.length - i = d → 0 ≤ n → n ≤ 4611686018427387904 → ∃ r, Ev (fun k => thresherlaw0_RecsWeight.l0 k l n i) r := by
  intro d
  induction d with
  | zero =>
    intro i n h0 h1 hd n0 n1
    refine ⟨n, Ev.step (f := fun _ => some n) (fun k => ?_) (Ev.now _)⟩
    simp only [thresherlaw0_RecsWeight.l0]
    rw [if_neg (by omega)]
  | succ d ih =>
    intro i n h0 h1 hd n0 n1
    by_cases hn : n < 1048576
    · have hg := good_i (good_rd hl h0 (by omega))
      obtain ⟨r, hr⟩ := ih (i + 1) (n + ((rd_T32 l i).f0.f1).size) (by omega) (by omega) (by omega) (by omega) (by omega)
      refine ⟨r, Ev.step (f := fun k => thresherlaw0_RecsWeight.l0 k l (n + ((rd_T32 l i).f0.f1).size) (i + 1)) (fun k => ?_) hr⟩
      simp only [thresherlaw0_RecsWeight.l0]
      rw [if_pos (by omega), if_pos hn, if_pos h0, w64 (by omega) (by omega), w64 (by omega) (by omega)]
    · refine ⟨n, Ev.step (f := fun _ => some n) (fun k => ?_) (Ev.now _)⟩
      simp only [thresherlaw0_RecsWeight.l0]
      rw [if_pos (by omega), if_neg hn]
theorem weight_ev (l : List S32) (hl : ∀ y ∈ l, Good32 y) (hlen : l.length ≤ 4398046510976) : ∃ r, Ev (fun k => thresherlaw0_RecsWeight.f k l) r :=
  weight_l0 l hl hlen l.length 0 l.length (by omega) (by omega) (by omega) (by omega) (by omega)

/-! ### all records of a text -/
def recall : Nat → ByteArray → List S32 → List S32 × Int
  | 0, _, acc => (acc, 0)
  | d + 1, s, acc => if s.size = 0 then (acc, 0) else if acc.length = 64 then ([], 2) else
    if (rectake s).2.2.2.2 = 0 then recall d (s.extract (rectake s).2.2.2.1.toNat s.size) (acc ++ [⟨⟨(rectake s).1, (rectake s).2.1⟩, (rectake s).2.2.1⟩]) else ([], (rectake s).2.2.2.2)
def allrecs (s : ByteArray) : List S32 × Int := if 8192 < s.size then ([], 2) else recall 66 s []
theorem nil_iff (s : ByteArray) : s.toList = ([] : List UInt8) ↔ s.size = 0 := by
  rw [Lib.toList_data, ← data_length s, List.length_eq_zero_iff]
theorem recall_ev : ∀ (d : Nat) (s : ByteArray) (acc : List S32), s.size ≤ 8192 → acc.length + d = 66 → acc.length ≤ 64 → Ev (fun k => rec_All.l0 k s acc) (recall d s acc) := by
  intro d
  induction d with
  | zero => intro s acc hs hl h64; omega
  | succ d ih =>
    intro s acc hs hl h64
    by_cases h0 : s.size = 0
    · refine Ev.step (f := fun _ => some (acc, 0)) (fun k => ?_) (by simp only [recall]; rw [if_pos h0]; exact Ev.now _)
      simp only [rec_All.l0]
      rw [if_pos ((nil_iff s).2 h0)]
    · have hne : ¬ s.toList = ([] : List UInt8) := fun h => h0 ((nil_iff s).1 h)
      by_cases h1 : acc.length = 64
      · refine Ev.step (f := fun _ => some ([], 2)) (fun k => ?_) (by simp only [recall]; rw [if_neg h0, if_pos h1]; exact Ev.now _)
        simp only [rec_All.l0]
        rw [if_neg hne, if_pos (by omega)]
      · refine Ev.step (f := fun k => (rec_Take.f k s).bind fun b => (if b.2.2.2.2 = 0 then (if acc.length < 4398046511104 then (if 0 ≤ b.2.2.2.1 then (if b.2.2.2.1 ≤ (s.size : Int) then (rec_All.l0 k (s.extract (b.2.2.2.1 : Int).toNat s.size) (acc ++ [(⟨(⟨b.1, b.2.1⟩ : S30), b.2.2.1⟩ : S32)])) else (none)) else (none)) else (none)) else (some (([] : List (S32)), b.2.2.2.2)))) (fun k => ?_) ?_
        · simp only [rec_All.l0]
          rw [if_neg hne, if_neg (by omega)]
        · refine Ev.bind (f := fun k (b : Int × ByteArray × Int × Int × Int) => (if b.2.2.2.2 = 0 then (if acc.length < 4398046511104 then (if 0 ≤ b.2.2.2.1 then (if b.2.2.2.1 ≤ (s.size : Int) then (rec_All.l0 k (s.extract (b.2.2.2.1 : Int).toNat s.size) (acc ++ [(⟨(⟨b.1, b.2.1⟩ : S30), b.2.2.1⟩ : S32)])) else (none)) else (none)) else (none)) else (some (([] : List (S32)), b.2.2.2.2)))) (rec_take_ev s (by omega)) ?_
          simp only [recall]
          rw [if_neg h0, if_neg h1]
          by_cases h2 : (rectake s).2.2.2.2 = 0
          · obtain ⟨g1, g2⟩ := rectake_in h2
            rw [if_pos h2]
            refine evPos h2 (evPos (by omega) (evPos (by omega) (evPos g2 ?_)))
            refine ih _ _ ?_ (by simp; omega) (by simp; omega)
            have := ext_size (s := s) (n := (rectake s).2.2.2.1) (by omega) g2
            omega
          · rw [if_neg h2]
            exact evNeg h2 (Ev.now _)
theorem refrecall_ev : ∀ (d : Nat) (s : ByteArray) (acc : List S32), s.size ≤ 8192 → acc.length + d = 66 → acc.length ≤ 64 → Ev (fun k => thresherref3_All.l0 k s acc) (recall d s acc) := by
  intro d
  induction d with
  | zero => intro s acc hs hl h64; omega
  | succ d ih =>
    intro s acc hs hl h64
    by_cases h0 : s.size = 0
    · refine Ev.step (f := fun _ => some (acc, 0)) (fun k => ?_) (by simp only [recall]; rw [if_pos h0]; exact Ev.now _)
      simp only [thresherref3_All.l0]
      rw [if_neg (by omega)]
    · by_cases h1 : acc.length = 64
      · refine Ev.step (f := fun _ => some ([], 2)) (fun k => ?_) (by simp only [recall]; rw [if_neg h0, if_pos h1]; exact Ev.now _)
        simp only [thresherref3_All.l0]
        rw [if_pos (by omega), if_pos (by omega)]
      · refine Ev.step (f := fun k => (thresherref3_TakeRec.f k s).bind fun b => (if b.2.2.2.2 = 0 then (if acc.length < 4398046511104 then (if 0 ≤ b.2.2.2.1 then (if b.2.2.2.1 ≤ (s.size : Int) then (thresherref3_All.l0 k (s.extract (b.2.2.2.1 : Int).toNat s.size) (acc ++ [(⟨(⟨b.1, b.2.1⟩ : S30), b.2.2.1⟩ : S32)])) else (none)) else (none)) else (none)) else (some (([] : List (S32)), b.2.2.2.2)))) (fun k => ?_) ?_
        · simp only [thresherref3_All.l0]
          rw [if_pos (by omega), if_neg (by omega)]
        · refine Ev.bind (f := fun k (b : Int × ByteArray × Int × Int × Int) => (if b.2.2.2.2 = 0 then (if acc.length < 4398046511104 then (if 0 ≤ b.2.2.2.1 then (if b.2.2.2.1 ≤ (s.size : Int) then (thresherref3_All.l0 k (s.extract (b.2.2.2.1 : Int).toNat s.size) (acc ++ [(⟨(⟨b.1, b.2.1⟩ : S30), b.2.2.1⟩ : S32)])) else (none)) else (none)) else (none)) else (some (([] : List (S32)), b.2.2.2.2)))) (refrec_take_ev s (by omega)) ?_
          simp only [recall]
          rw [if_neg h0, if_neg h1]
          by_cases h2 : (rectake s).2.2.2.2 = 0
          · obtain ⟨g1, g2⟩ := rectake_in h2
            rw [if_pos h2]
            refine evPos h2 (evPos (by omega) (evPos (by omega) (evPos g2 ?_)))
            refine ih _ _ ?_ (by simp; omega) (by simp; omega)
            have := ext_size (s := s) (n := (rectake s).2.2.2.1) (by omega) g2
            omega
          · rw [if_neg h2]
            exact evNeg h2 (Ev.now _)
theorem all_ev (s : ByteArray) : Ev (fun k => rec_All.f k s) (allrecs s) := by
  unfold rec_All.f allrecs
  by_cases h : 8192 < s.size
  · rw [if_pos h]
    exact evPos (by omega) (Ev.now _)
  · rw [if_neg h]
    exact evNeg (by omega) (recall_ev 66 s [] (by omega) rfl (by simp))
theorem refall_ev (s : ByteArray) : Ev (fun k => thresherref3_All.f k s) (allrecs s) := by
  unfold thresherref3_All.f allrecs
  by_cases h : 8192 < s.size
  · rw [if_pos h]
    exact evPos (by omega) (Ev.now _)
  · rw [if_neg h]
    exact evNeg (by omega) (refrecall_ev 66 s [] (by omega) rfl (by simp))

/-! ### a text of records -/
def text : List S32 → ByteArray → ByteArray × Int
  | [], acc => if 8192 < acc.size then (nobytes, 2) else (acc, 0)
  | r :: rs, acc => if r.f0.f1.size ≤ 64 then text rs (acc ++ rb r) else (nobytes, 1)
def textof (l : List S32) : ByteArray × Int := if 64 < l.length then (nobytes, 2) else text l nobytes
theorem rb_size {r : S32} (h : Good32 r) : (rb r).size ≤ 30 + r.f0.f1.size ∧ 0 < (rb r).size := by
  obtain ⟨⟨a0, a1⟩, b, v0, v1⟩ := good_i h
  exact recbytes_size a0 a1 v0 v1 b
theorem text_l0 (l : List S32) (hl : ∀ y ∈ l, Good32 y) (hlen : l.length ≤ 64) : ∀ (d : Nat) (i : Int) (acc : ByteArray), 0 ≤ i → i ≤ l.length → l.length - i = d → acc.size ≤ i * 94 →
    Ev (fun k => rec_Text.l0 k acc l (l.length : Int) i) (text (l.drop i.toNat) acc) := by
  intro d
  induction d with
  | zero =>
    intro i acc h0 h1 hd ha
    rw [List.drop_eq_nil_of_le (by omega)]
    refine Ev.step (f := fun _ => some (text [] acc)) (fun k => ?_) (Ev.now _)
    simp only [rec_Text.l0, text]
    rw [if_neg (by omega)]
    by_cases h : 8192 < acc.size
    · rw [if_pos (by omega), if_pos h]
    · rw [if_neg (by omega), if_neg h]
  | succ d ih =>
    intro i acc h0 h1 hd ha
    have hg := good_rd hl h0 (by omega)
    obtain ⟨⟨a0, a1⟩, hb, v0, v1⟩ := good_i hg
    have hsz := (rb_size hg).1
    rw [drop_rd h0 (by omega)]
    generalize hr : rd_T32 l i = r at *
    refine Ev.step (f := fun k => (rec_Bytes.f k r.f0.f0 r.f0.f1 r.f1).bind fun b => (if b.2 = 0 then (if acc.size + b.1.size ≤ 9223372036854775807 then (rec_Text.l0 k (acc ++ b.1) l (l.length : Int) (wrap64 (i + 1))) else (none)) else (some ((⟨#[]⟩ : ByteArray), b.2)))) (fun k => ?_) ?_
    · simp only [rec_Text.l0]
      rw [if_pos (by omega), if_pos h0, if_pos (by omega), hr]
    · refine Ev.bind (f := fun k (b : ByteArray × Int) => (if b.2 = 0 then (if acc.size + b.1.size ≤ 9223372036854775807 then (rec_Text.l0 k (acc ++ b.1) l (l.length : Int) (wrap64 (i + 1))) else (none)) else (some ((⟨#[]⟩ : ByteArray), b.2)))) (rec_bytes_ev a0 a1 v0 v1 hb) ?_
      simp only [text]
      by_cases h : r.f0.f1.size ≤ 64
      · simp only [if_pos h, if_true]
        refine evPos (by show acc.size + (rb r).size ≤ _; omega) ?_
        rw [w64 (by omega) (by omega)]
        exact ih (i + 1) (acc ++ rb r) (by omega) (by omega) (by omega) (by rw [ByteArray.size_append]; omega)
      · simp only [if_neg h]
        exact evNeg (by decide) (Ev.now _)
theorem reftext_l0 (l : List S32) (hl : ∀ y ∈ l, Good32 y) (hlen : l.length ≤ 64) : ∀ (d : Nat) (i : Int) (acc : ByteArray), 0 ≤ i → i ≤ l.length → l.length - i = d → acc.size ≤ i * 94 →
    Ev (fun k => thresherref3_Text.l0 k l acc i) (text (l.drop i.toNat) acc) := by
  intro d
  induction d with
  | zero =>
    intro i acc h0 h1 hd ha
    rw [List.drop_eq_nil_of_le (by omega)]
    refine Ev.step (f := fun _ => some (text [] acc)) (fun k => ?_) (Ev.now _)
    simp only [thresherref3_Text.l0, text]
    rw [if_neg (by omega)]
    by_cases h : 8192 < acc.size
    · rw [if_pos (by omega), if_pos h]
    · rw [if_neg (by omega), if_neg h]
  | succ d ih =>
    intro i acc h0 h1 hd ha
    have hg := good_rd hl h0 (by omega)
    obtain ⟨⟨a0, a1⟩, hb, v0, v1⟩ := good_i hg
    have hsz := (rb_size hg).1
    rw [drop_rd h0 (by omega)]
    generalize hr : rd_T32 l i = r at *
    simp only [text]
    by_cases h : r.f0.f1.size ≤ 64
    · refine Ev.step (f := fun k => (thresherref3_Rec.f k r.f0.f0 r.f0.f1 r.f1).bind fun b => (if acc.size + b.size ≤ 9223372036854775807 then (thresherref3_Text.l0 k l (acc ++ b) (wrap64 (i + 1))) else (none))) (fun k => ?_) ?_
      · simp only [thresherref3_Text.l0, thresherref3_Key.f, Option.bind_some]
        rw [if_pos (by omega), if_pos h0, hr, if_pos (by simp; omega)]
      · refine Ev.bind (f := fun k (b : ByteArray) => (if acc.size + b.size ≤ 9223372036854775807 then (thresherref3_Text.l0 k l (acc ++ b) (wrap64 (i + 1))) else (none))) (refrec_ev a0 a1 v0 v1 hb) ?_
        rw [if_pos h]
        refine evPos (by show acc.size + (rb r).size ≤ _; omega) ?_
        rw [w64 (by omega) (by omega)]
        exact ih (i + 1) (acc ++ rb r) (by omega) (by omega) (by omega) (by rw [ByteArray.size_append]; omega)
    · refine Ev.step (f := fun k => some (nobytes, 1)) (fun k => ?_) (by rw [if_neg h]; exact Ev.now _)
      simp only [thresherref3_Text.l0, thresherref3_Key.f, Option.bind_some]
      rw [if_pos (by omega), if_pos h0, hr, if_neg (by simp; omega)]
theorem text_ev (l : List S32) (hl : ∀ y ∈ l, Good32 y) : Ev (fun k => rec_Text.f k l) (textof l) := by
  unfold rec_Text.f textof
  by_cases h : 64 < l.length
  · rw [if_pos h]
    exact evPos (by omega) (Ev.now _)
  · rw [if_neg h]
    exact evNeg (by omega) (text_l0 l hl (by omega) l.length 0 nobytes (by omega) (by omega) (by omega) (by decide))
theorem reftext_ev (l : List S32) (hl : ∀ y ∈ l, Good32 y) : Ev (fun k => thresherref3_Text.f k l) (textof l) := by
  unfold thresherref3_Text.f textof
  by_cases h : 64 < l.length
  · rw [if_pos h]
    exact evPos (by omega) (Ev.now _)
  · rw [if_neg h]
    exact evNeg (by omega) (reftext_l0 l hl (by omega) l.length 0 nobytes (by omega) (by omega) (by omega) (by decide))

/-! ### helpers of the statements -/
theorem eta_rec (r : S32) : (⟨(⟨r.f0.f0, r.f0.f1⟩ : S30), r.f1⟩ : S32) = r := rfl
theorem copy_l0 (l : List S32) (hlen : l.length ≤ 4398046510976) : ∀ (d : Nat) (i : Int) (acc : List S32), 0 ≤ i → i ≤ l.length → l.length - i = d → acc.length = i.toNat → Ev (fun k => thresherref0_CopyRecs.l0 k l acc i) (acc ++ l.drop i.toNat) := by
  intro d
  induction d with
  | zero =>
    intro i acc h0 h1 hd ha
    rw [List.drop_eq_nil_of_le (by omega), List.append_nil]
    refine Ev.step (f := fun _ => some acc) (fun k => ?_) (Ev.now _)
    simp only [thresherref0_CopyRecs.l0]
    rw [if_neg (by omega)]
  | succ d ih =>
    intro i acc h0 h1 hd ha
    refine Ev.step (f := fun k => thresherref0_CopyRecs.l0 k l (acc ++ [rd_T32 l i]) (i + 1)) (fun k => ?_) ?_
    · simp only [thresherref0_CopyRecs.l0, eta_rec]
      rw [if_pos (by omega), if_pos h0, if_pos (by omega), w64 (by omega) (by omega)]
    · have := ih (i + 1) (acc ++ [rd_T32 l i]) (by omega) (by omega) (by omega) (by simp; omega)
      rw [drop_rd h0 (by omega)]
      simpa using this
theorem copy_ev (l : List S32) (hlen : l.length ≤ 4398046510976) : Ev (fun k => thresherref0_CopyRecs.f k l) l := by
  have := copy_l0 l hlen l.length 0 [] (by omega) (by omega) (by omega) rfl
  exact Ev.congr (f := fun k => thresherref0_CopyRecs.l0 k l [] 0) (fun _ => rfl) (by simpa using this)
theorem eqrecs_l0 (l : List S32) (hlen : l.length ≤ 9223372036854775806) : ∀ (d : Nat) (i : Int), 0 ≤ i → i ≤ l.length → l.length - i = d → Ev (fun k => thresherref0_EqRecs.l0 k l l i) true := by
  intro d
  induction d with
  | zero =>
    intro i h0 h1 hd
    refine Ev.step (f := fun _ => some true) (fun k => ?_) (Ev.now _)
    simp only [thresherref0_EqRecs.l0]
    rw [if_neg (by omega)]
  | succ d ih =>
    intro i h0 h1 hd
    refine Ev.step (f := fun k => thresherref0_EqRecs.l0 k l l (i + 1)) (fun k => ?_) (ih (i + 1) (by omega) (by omega) (by omega))
    simp only [thresherref0_EqRecs.l0]
    rw [if_pos (by omega), if_pos h0, if_pos (by omega), w64 (by omega) (by omega)]
    simp
theorem eqrecs_ev (l : List S32) (hlen : l.length ≤ 9223372036854775806) : Ev (fun k => thresherref0_EqRecs.f k l l) true := by
  unfold thresherref0_EqRecs.f
  exact evPos rfl (eqrecs_l0 l hlen l.length 0 (by omega) (by omega) (by omega))
theorem recall_length : ∀ (d : Nat) (s : ByteArray) (acc : List S32), acc.length ≤ 64 → (recall d s acc).1.length ≤ 64 := by
  intro d
  induction d with
  | zero => intro s acc h; exact h
  | succ d ih =>
    intro s acc h
    simp only [recall]
    split
    · exact h
    · split
      · simp
      · split
        · exact ih _ _ (by simp; omega)
        · simp
theorem allrecs_length (s : ByteArray) : (allrecs s).1.length ≤ 64 := by
  unfold allrecs
  split
  · simp
  · exact recall_length 66 s [] (by simp)
theorem text_size : ∀ (l : List S32) (acc : ByteArray), (text l acc).1.size ≤ 8192
  | [], acc => by
    simp only [text]
    split
    · decide
    · show acc.size ≤ 8192
      omega
  | r :: rs, acc => by
    simp only [text]
    split
    · exact text_size rs _
    · decide
theorem textof_size (l : List S32) : (textof l).1.size ≤ 8192 := by
  unfold textof
  split
  · decide
  · exact text_size l _
theorem spoil_l0 : ∀ (d : Nat) (l : List S32) (i : Int), l.length ≤ 9223372036854775806 → 0 ≤ i → i ≤ l.length → l.length - i = d → ∃ r, Ev (fun k => thresherlaw0_Recs.l0 k l i) r := by
  intro d
  induction d with
  | zero =>
    intro l i hl h0 h1 hd
    refine ⟨l, Ev.step (f := fun _ => some l) (fun k => ?_) (Ev.now _)⟩
    simp only [thresherlaw0_Recs.l0]
    rw [if_neg (by omega)]
  | succ d ih =>
    intro l i hl h0 h1 hd
    obtain ⟨r, hr⟩ := ih (l.set i.toNat ⟨⟨0, nobytes⟩, -99⟩) (i + 1) (by rw [List.length_set]; omega) (by omega) (by rw [List.length_set]; omega) (by rw [List.length_set]; omega)
    refine ⟨r, Ev.step (f := fun k => thresherlaw0_Recs.l0 k (l.set i.toNat ⟨⟨0, nobytes⟩, -99⟩) (i + 1)) (fun k => ?_) hr⟩
    simp only [thresherlaw0_Recs.l0]
    rw [if_pos (by omega), if_pos h0, w64 (by omega) (by omega)]
theorem spoil_ev (l : List S32) (hl : l.length ≤ 9223372036854775806) : ∃ r, Ev (fun k => thresherlaw0_Recs.f k l) r := spoil_l0 l.length l 0 hl (by omega) (by omega) (by omega)
theorem wakes_ev : Ev (fun k => thresherlaw4_wakes.f k) true := Ev.of thresherlaw4_wakes.mono (k := 40) (by decide +kernel)
theorem heavy_ev (l : List S32) (hl : ∀ y ∈ l, Good32 y) (hlen : l.length ≤ 4398046510976) (x : ByteArray) : ∃ b, Ev (fun k => thresherlaw4_heavy.f k l x) b ∧ (b = false → x.size ≤ 20000) := by
  obtain ⟨r, hr⟩ := weight_ev l hl hlen
  by_cases h : r > 9000
  · refine ⟨true, ?_, by simp⟩
    unfold thresherlaw4_heavy.f
    refine Ev.bind (f := fun k (t : Int) => if t > 9000 then (some true) else (some (decide ((x.size : Int) > 20000)))) hr ?_
    simp only [if_pos h]
    exact Ev.now _
  · refine ⟨decide ((x.size : Int) > 20000), ?_, by simp; omega⟩
    unfold thresherlaw4_heavy.f
    refine Ev.bind (f := fun k (t : Int) => if t > 9000 then (some true) else (some (decide ((x.size : Int) > 20000)))) hr ?_
    simp only [if_neg h]
    exact Ev.now _

/-! ### written, and taken back -/
def cat : List S32 → ByteArray
  | [] => nobytes
  | r :: rs => rb r ++ cat rs
theorem text_cat : ∀ (l : List S32) (acc : ByteArray), (text l acc).2 = 0 → (text l acc).1 = acc ++ cat l ∧ (acc ++ cat l).size ≤ 8192 ∧ ∀ r ∈ l, r.f0.f1.size ≤ 64
  | [], acc, h => by
    simp only [text] at h ⊢
    by_cases h1 : 8192 < acc.size
    · rw [if_pos h1] at h
      simp at h
    · rw [if_neg h1]
      have : acc ++ cat [] = acc := by
        apply bs_inj
        rw [bs_append]
        simp [cat, bs_nil]
      rw [this]
      exact ⟨rfl, by omega, by simp⟩
  | r :: rs, acc, h => by
    simp only [text] at h ⊢
    by_cases h1 : r.f0.f1.size ≤ 64
    · rw [if_pos h1] at h ⊢
      obtain ⟨e1, e2, e3⟩ := text_cat rs (acc ++ rb r) h
      have : acc ++ cat (r :: rs) = acc ++ rb r ++ cat rs := by simp only [cat]; rw [ByteArray.append_assoc]
      rw [this]
      refine ⟨e1, e2, fun y hy => ?_⟩
      rcases List.mem_cons.1 hy with rfl | hy
      · exact h1
      · exact e3 y hy
    · rw [if_neg h1] at h
      simp at h
theorem nobytes_append (s : ByteArray) : nobytes ++ s = s := by
  apply bs_inj
  rw [bs_append]
  rfl
theorem recall_cat : ∀ (rs : List S32) (d : Nat) (acc : List S32), (∀ y ∈ rs, Good32 y) → (∀ r ∈ rs, r.f0.f1.size ≤ 64) → acc.length + rs.length ≤ 64 → acc.length + d = 66 → recall d (cat rs) acc = (acc ++ rs, 0)
  | [], d, acc, hg, hk, h64, hd => by
    obtain ⟨d, rfl⟩ : ∃ e, d = e + 1 := ⟨d - 1, by simp at h64; omega⟩
    have e : (cat ([] : List S32)).size = 0 := rfl
    simp only [recall]
    rw [if_pos e, List.append_nil]
  | r :: rs, d, acc, hg, hk, h64, hd => by
    simp only [List.length_cons] at h64
    obtain ⟨d, rfl⟩ : ∃ e, d = e + 1 := ⟨d - 1, by omega⟩
    have hr := hg r List.mem_cons_self
    obtain ⟨⟨a0, a1⟩, hb, v0, v1⟩ := good_i hr
    have hs := (rb_size hr).2
    have ht : rectake (cat (r :: rs)) = (r.f0.f0, r.f0.f1, r.f1, ((rb r).size : Int), 0) := rectake_bytes a0 a1 v0 v1 (hk r List.mem_cons_self) (cat rs)
    have hsz : ¬ (cat (r :: rs)).size = 0 := by
      simp only [cat, ByteArray.size_append]
      omega
    simp only [recall]
    rw [if_neg hsz, if_neg (by omega), ht]
    simp only [if_true]
    have e : (cat (r :: rs)).extract ((rb r).size : Int).toNat (cat (r :: rs)).size = cat rs := ext_append (rb r) (cat rs)
    rw [e, recall_cat rs d _ (fun y hy => hg y (List.mem_cons_of_mem _ hy)) (fun y hy => hk y (List.mem_cons_of_mem _ hy)) (by simp; omega) (by simp; omega)]
    simp
theorem all_text {l : List S32} (hl : ∀ y ∈ l, Good32 y) (h : (textof l).2 = 0) : allrecs (textof l).1 = (l, 0) := by
  unfold textof at h ⊢
  by_cases h1 : 64 < l.length
  · rw [if_pos h1] at h
    simp at h
  · rw [if_neg h1] at h ⊢
    obtain ⟨e1, e2, e3⟩ := text_cat l nobytes h
    rw [e1, nobytes_append]
    rw [nobytes_append] at e2
    unfold allrecs
    rw [if_neg (by omega), recall_cat l 66 [] hl e3 (by simp; omega) rfl]
    rfl
end Go.Proofs.Ytgchbhepnfnhpaa.QRec
