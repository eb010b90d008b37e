-- Printed for this claim by a turned copy of the kit's print (wip/patch_print.py): a text of this session.
import Derived.Test.YtgchbhepnfnhpaaQRecx0
import Derived.Test.YtgchbhepnfnhpaaQRecx1
import Derived.Test.YtgchbhepnfnhpaaQRecx2
import Derived.Test.YtgchbhepnfnhpaaQRecx3
import Derived.Test.YtgchbhepnfnhpaaQRecx4
import Derived.Test.YtgchbhepnfnhpaaQRecx5
namespace Go.Proofs.Ytgchbhepnfnhpaa.QRec
open Go.RowKit Go.Proofs.YtgchbhepnfnhpaaW.PrintWords Go.Proofs.YtgchbhepnfnhpaaW.PrintLast Go.Proofs.YtgchbhepnfnhpaaW.PrintMore
attribute [local go_sem] max2_int min2_int max_two min_two max_three min_three max_four min_four   -- for this text's walks alone
set_option linter.unusedVariables false
set_option linter.unusedSimpArgs false

attribute [local go_sem high] eqA32
/-! ### thresherlaw4_RecBytes: function 3 -/
mutual
def thresherlaw4_RecBytes.l0 : Nat → Int → List (S32) → ByteArray → Option (Bool)
  | 0, _, _, _ => none
  | k + 1, x3, x186000, x186001 => if x3 < (x186000.length : Int) then (thresherlaw4_RecBytes.j1 k x3 (decide (x3 < 15)) x186000 x186001) else (thresherlaw4_RecBytes.j1 k x3 false x186000 x186001)
def thresherlaw4_RecBytes.j1 : Nat → Int → Bool → List (S32) → ByteArray → Option (Bool)
  | 0, _, _, _, _ => none
  | k + 1, x3, x27, x186000, x186001 => if x27 = true then (if 0 ≤ x3 then (if x3 < (x186000.length : Int) then ((rec_Bytes.f k ((rd_T32 x186000 x3).f0.f0) ((rd_T32 x186000 x3).f0.f1) ((rd_T32 x186000 x3).f1)).bind fun bt188 => ((thresherref3_Key.f ((rd_T32 x186000 x3).f0.f0) ((rd_T32 x186000 x3).f0.f1)).bind fun t191 => (if t191 = true then ((thresherref3_Rec.f k ((rd_T32 x186000 x3).f0.f0) ((rd_T32 x186000 x3).f0.f1) ((rd_T32 x186000 x3).f1)).bind fun t193 => (thresherlaw4_RecBytes.j2 k x3 bt188.1 bt188.2 0 t193 x186000 x186001)) else (thresherlaw4_RecBytes.j2 k x3 bt188.1 bt188.2 1 (⟨#[]⟩ : ByteArray) x186000 x186001)))) else (none)) else (none)) else ((rec_Take.f k x186001).bind fun bt203 => ((thresherref3_TakeRec.f k x186001).bind fun bt209 => (if ((bt203.1 == bt209.1 && (bt203.2.1.toList == bt209.2.1.toList)) && (bt203.2.2.1 == bt209.2.2.1)) = true then (if bt203.2.2.2.1 = bt209.2.2.2.1 then ((thresherlaw4_num.f bt203.2.2.2.2).bind fun t215 => (if t215 = bt209.2.2.2.2 then ((thresherlaw4_wakes.f k).bind fun t216 => (some t216)) else (some false))) else (some false)) else (some false))))
def thresherlaw4_RecBytes.j2 : Nat → Int → ByteArray → Int → Int → ByteArray → List (S32) → ByteArray → Option (Bool)
  | 0, _, _, _, _, _, _, _ => none
  | k + 1, x3, x4, x5, x6, x7, x186000, x186001 => (thresherlaw4_num.f x5).bind fun t194 => (if t194 = x6 then (thresherlaw4_RecBytes.j3 k x3 x4 x6 (x4.toList != x7.toList) x186000 x186001) else (thresherlaw4_RecBytes.j3 k x3 x4 x6 true x186000 x186001))
def thresherlaw4_RecBytes.j3 : Nat → Int → ByteArray → Int → Bool → List (S32) → ByteArray → Option (Bool)
  | 0, _, _, _, _, _, _ => none
  | k + 1, x3, x4, x6, x60, x186000, x186001 => if x60 = true then (some false) else (if x4.size + x186001.size ≤ 9223372036854775807 then ((rec_Take.f k (x4 ++ x186001)).bind fun bt195 => (if x6 = 0 then ((thresherlaw4_num.f bt195.2.2.2.2).bind fun t201 => (if t201 = 0 then (if 0 ≤ x3 then (if x3 < (x186000.length : Int) then (if ((!(bt195.1 == ((rd_T32 x186000 x3).f0.f0)) || (!(bt195.2.1.toList == (((rd_T32 x186000 x3).f0.f1).toList)))) || (!(bt195.2.2.1 == ((rd_T32 x186000 x3).f1)))) = true then (some false) else (if bt195.2.2.2.1 = (x4.size : Int) then (thresherlaw4_RecBytes.l0 k (wrap64 (x3 + 1)) x186000 x186001) else (some false))) else (none)) else (none)) else (some false))) else (thresherlaw4_RecBytes.l0 k (wrap64 (x3 + 1)) x186000 x186001))) else (none))
end
def thresherlaw4_RecBytes.f (k : Nat) (l0_0 : List (S32)) (a0_1 : ByteArray) : Option (Bool) := (thresherlaw4_heavy.f k l0_0 a0_1).bind fun t186 => (if t186 = true then (some true) else (thresherlaw4_RecBytes.l0 k 0 l0_0 a0_1))
theorem thresherlaw4_RecBytes.mono_l : ∀ k, (∀ y0 y1 y2, LeO (thresherlaw4_RecBytes.l0 k y0 y1 y2) (thresherlaw4_RecBytes.l0 (k + 1) y0 y1 y2)) ∧ (∀ y0 y1 y2 y3, LeO (thresherlaw4_RecBytes.j1 k y0 y1 y2 y3) (thresherlaw4_RecBytes.j1 (k + 1) y0 y1 y2 y3)) ∧ (∀ y0 y1 y2 y3 y4 y5 y6, LeO (thresherlaw4_RecBytes.j2 k y0 y1 y2 y3 y4 y5 y6) (thresherlaw4_RecBytes.j2 (k + 1) y0 y1 y2 y3 y4 y5 y6)) ∧ (∀ y0 y1 y2 y3 y4 y5, LeO (thresherlaw4_RecBytes.j3 k y0 y1 y2 y3 y4 y5) (thresherlaw4_RecBytes.j3 (k + 1) y0 y1 y2 y3 y4 y5))
  | 0 => ⟨fun _ _ _ r h => by simp [thresherlaw4_RecBytes.l0] at h, fun _ _ _ _ r h => by simp [thresherlaw4_RecBytes.j1] at h, fun _ _ _ _ _ _ _ r h => by simp [thresherlaw4_RecBytes.j2] at h, fun _ _ _ _ _ _ r h => by simp [thresherlaw4_RecBytes.j3] at h⟩
  | k + 1 => by
    obtain ⟨ih0, ih1, ih2, ih3⟩ := thresherlaw4_RecBytes.mono_l k
    refine ⟨?_, ?_, ?_, ?_⟩
    · intro y0 y1 y2
      unfold thresherlaw4_RecBytes.l0
      repeat' first
      | (with_reducible exact ih0 _ _ _)
      | (with_reducible exact ih1 _ _ _ _)
      | (with_reducible exact ih2 _ _ _ _ _ _ _)
      | (with_reducible exact ih3 _ _ _ _ _ _)
      | (with_reducible exact rec_Bytes.mono _ _ _ _)
      | (with_reducible exact rec_Take.mono _ _)
      | (with_reducible exact thresherlaw4_heavy.mono _ _ _)
      | (with_reducible exact thresherlaw4_wakes.mono _)
      | (with_reducible exact thresherref3_Rec.mono _ _ _ _)
      | (with_reducible exact thresherref3_TakeRec.mono _ _)
      | (with_reducible exact LeO.refl _)
      | (with_reducible exact LeO.none _)
      | (with_reducible refine LeO.ite ?_ ?_)
      | (with_reducible refine LeO.bind ?_ (fun _ => ?_))
      | exact ih0 _ _ _
      | exact ih1 _ _ _ _
      | exact ih2 _ _ _ _ _ _ _
      | exact ih3 _ _ _ _ _ _
      | exact rec_Bytes.mono _ _ _ _
      | exact rec_Take.mono _ _
      | exact thresherlaw4_heavy.mono _ _ _
      | exact thresherlaw4_wakes.mono _
      | exact thresherref3_Rec.mono _ _ _ _
      | exact thresherref3_TakeRec.mono _ _
      | exact LeO.none _
      | refine LeO.ite ?_ ?_
      | refine LeO.bind ?_ (fun _ => ?_)
    · intro y0 y1 y2 y3
      unfold thresherlaw4_RecBytes.j1
      repeat' first
      | (with_reducible exact ih0 _ _ _)
      | (with_reducible exact ih1 _ _ _ _)
      | (with_reducible exact ih2 _ _ _ _ _ _ _)
      | (with_reducible exact ih3 _ _ _ _ _ _)
      | (with_reducible exact rec_Bytes.mono _ _ _ _)
      | (with_reducible exact rec_Take.mono _ _)
      | (with_reducible exact thresherlaw4_heavy.mono _ _ _)
      | (with_reducible exact thresherlaw4_wakes.mono _)
      | (with_reducible exact thresherref3_Rec.mono _ _ _ _)
      | (with_reducible exact thresherref3_TakeRec.mono _ _)
      | (with_reducible exact LeO.refl _)
      | (with_reducible exact LeO.none _)
      | (with_reducible refine LeO.ite ?_ ?_)
      | (with_reducible refine LeO.bind ?_ (fun _ => ?_))
      | exact ih0 _ _ _
      | exact ih1 _ _ _ _
      | exact ih2 _ _ _ _ _ _ _
      | exact ih3 _ _ _ _ _ _
      | exact rec_Bytes.mono _ _ _ _
      | exact rec_Take.mono _ _
      | exact thresherlaw4_heavy.mono _ _ _
      | exact thresherlaw4_wakes.mono _
      | exact thresherref3_Rec.mono _ _ _ _
      | exact thresherref3_TakeRec.mono _ _
      | exact LeO.none _
      | refine LeO.ite ?_ ?_
      | refine LeO.bind ?_ (fun _ => ?_)
    · intro y0 y1 y2 y3 y4 y5 y6
      unfold thresherlaw4_RecBytes.j2
      repeat' first
      | (with_reducible exact ih0 _ _ _)
      | (with_reducible exact ih1 _ _ _ _)
      | (with_reducible exact ih2 _ _ _ _ _ _ _)
      | (with_reducible exact ih3 _ _ _ _ _ _)
      | (with_reducible exact rec_Bytes.mono _ _ _ _)
      | (with_reducible exact rec_Take.mono _ _)
      | (with_reducible exact thresherlaw4_heavy.mono _ _ _)
      | (with_reducible exact thresherlaw4_wakes.mono _)
      | (with_reducible exact thresherref3_Rec.mono _ _ _ _)
      | (with_reducible exact thresherref3_TakeRec.mono _ _)
      | (with_reducible exact LeO.refl _)
      | (with_reducible exact LeO.none _)
      | (with_reducible refine LeO.ite ?_ ?_)
      | (with_reducible refine LeO.bind ?_ (fun _ => ?_))
      | exact ih0 _ _ _
      | exact ih1 _ _ _ _
      | exact ih2 _ _ _ _ _ _ _
      | exact ih3 _ _ _ _ _ _
      | exact rec_Bytes.mono _ _ _ _
      | exact rec_Take.mono _ _
      | exact thresherlaw4_heavy.mono _ _ _
      | exact thresherlaw4_wakes.mono _
      | exact thresherref3_Rec.mono _ _ _ _
      | exact thresherref3_TakeRec.mono _ _
      | exact LeO.none _
      | refine LeO.ite ?_ ?_
      | refine LeO.bind ?_ (fun _ => ?_)
    · intro y0 y1 y2 y3 y4 y5
      unfold thresherlaw4_RecBytes.j3
      repeat' first
      | (with_reducible exact ih0 _ _ _)
      | (with_reducible exact ih1 _ _ _ _)
      | (with_reducible exact ih2 _ _ _ _ _ _ _)
      | (with_reducible exact ih3 _ _ _ _ _ _)
      | (with_reducible exact rec_Bytes.mono _ _ _ _)
      | (with_reducible exact rec_Take.mono _ _)
      | (with_reducible exact thresherlaw4_heavy.mono _ _ _)
      | (with_reducible exact thresherlaw4_wakes.mono _)
      | (with_reducible exact thresherref3_Rec.mono _ _ _ _)
      | (with_reducible exact thresherref3_TakeRec.mono _ _)
      | (with_reducible exact LeO.refl _)
      | (with_reducible exact LeO.none _)
      | (with_reducible refine LeO.ite ?_ ?_)
      | (with_reducible refine LeO.bind ?_ (fun _ => ?_))
      | exact ih0 _ _ _
      | exact ih1 _ _ _ _
      | exact ih2 _ _ _ _ _ _ _
      | exact ih3 _ _ _ _ _ _
      | exact rec_Bytes.mono _ _ _ _
      | exact rec_Take.mono _ _
      | exact thresherlaw4_heavy.mono _ _ _
      | exact thresherlaw4_wakes.mono _
      | exact thresherref3_Rec.mono _ _ _ _
      | exact thresherref3_TakeRec.mono _ _
      | exact LeO.none _
      | refine LeO.ite ?_ ?_
      | refine LeO.bind ?_ (fun _ => ?_)
theorem thresherlaw4_RecBytes.mono : ∀ a0 a1 k, LeO (thresherlaw4_RecBytes.f k a0 a1) (thresherlaw4_RecBytes.f (k + 1) a0 a1) := by
  intro a0 a1 k
  obtain ⟨ih0, ih1, ih2, ih3⟩ := thresherlaw4_RecBytes.mono_l k
  unfold thresherlaw4_RecBytes.f
  repeat' first
      | (with_reducible exact ih0 _ _ _)
      | (with_reducible exact ih1 _ _ _ _)
      | (with_reducible exact ih2 _ _ _ _ _ _ _)
      | (with_reducible exact ih3 _ _ _ _ _ _)
      | (with_reducible exact rec_Bytes.mono _ _ _ _)
      | (with_reducible exact rec_Take.mono _ _)
      | (with_reducible exact thresherlaw4_heavy.mono _ _ _)
      | (with_reducible exact thresherlaw4_wakes.mono _)
      | (with_reducible exact thresherref3_Rec.mono _ _ _ _)
      | (with_reducible exact thresherref3_TakeRec.mono _ _)
      | (with_reducible exact LeO.refl _)
      | (with_reducible exact LeO.none _)
      | (with_reducible refine LeO.ite ?_ ?_)
      | (with_reducible refine LeO.bind ?_ (fun _ => ?_))
      | exact ih0 _ _ _
      | exact ih1 _ _ _ _
      | exact ih2 _ _ _ _ _ _ _
      | exact ih3 _ _ _ _ _ _
      | exact rec_Bytes.mono _ _ _ _
      | exact rec_Take.mono _ _
      | exact thresherlaw4_heavy.mono _ _ _
      | exact thresherlaw4_wakes.mono _
      | exact thresherref3_Rec.mono _ _ _ _
      | exact thresherref3_TakeRec.mono _ _
      | exact LeO.none _
      | refine LeO.ite ?_ ?_
      | refine LeO.bind ?_ (fun _ => ?_)

end Go.Proofs.Ytgchbhepnfnhpaa.QRec
