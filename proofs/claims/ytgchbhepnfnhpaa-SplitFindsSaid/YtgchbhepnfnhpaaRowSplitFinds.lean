/- Proved here: whatever its argument, the Go function thresher/thresherlaw12.SplitFinds returns true, and its argument reads behind the call as it read before. Conditions: none. -/
import Derived.Test.YtgchbhepnfnhpaaRows
import Derived.Test.YtgchbhepnfnhpaaPureSplitFinds
import Derived.WalkKit
import Derived.ProofKit
import Derived.OpenShut
import Derived.ShutString
import Derived.ChangeOld
import Derived.Below
import Derived.SizedLaws
namespace Go.Proofs.Ytgchbhepnfnhpaa.QSplit.SplitFindsRow
open Go.ChangeShapes Go.WideShapes Go.ChangeAt Go.RowKit Go.Proofs.Ytgchbhepnfnhpaa Go.Proofs.YtgchbhepnfnhpaaW.PrintWords
set_option linter.unusedVariables false
theorem own : ownKnob Try.prog.godebug = none := by kernel_rfl
theorem laidOut : laidOutB Try.prog = true := by kernel_rfl
set_option maxRecDepth 100000 in
theorem lifted (os : Os) (started : os.Started) (H : Type) (enc : TypeId × Value → H) :
    ReturnsInHanded {} Try.checked os 7 .any (Rows.splitFindsSpec.pre6 enc Try.prog Try.f7 Rows.splitFindsRow.domain false) (Rows.splitFindsSpec.post enc Try.prog Try.f7 false true false false) := by
  refine returnsInHanded_of_change_sized (C := Try.checked) own started (by kernel_rfl) Try.func7
    (ChangeSpec.witness6 (enc := enc) (C := Try.checked) false ⟨#[], #[.agg #[.int .i64 0, .slice none 0 0, .int .i64 0, .int .i64 0, .slice none 0 0]], []⟩ 8 (by kernel_rfl) (by kernel_rfl) (by kernel_rfl) (by kernel_rfl)) ?_
  intro W base args ds gs before hval0 hW hcnd hsz0 _
  have hsz : (DataW.weightsEach Try.prog (Try.f7.params.toList ++ Rows.splitFindsSpec.plain.varTypes Try.prog) (ds ++ gs)).all (· ≤ reachBytes) = true := hsz0
  have hval : ∀ (j : Nat) t v, Try.f7.params[j]? = some t → args[j]? = some v → Value.okWide Try.prog W .any base t v := hval0
  have hW' := hW
  obtain ⟨p, q, hA0, hV, rfl, hfz, hnd⟩ := hW
  have hA : DataW.TrodAll enc Try.prog W 0 (fun _ => true) true Try.f7.params.toList args.toList ds p := hA0
  rw [Try.params7] at hA hval hsz
  obtain ⟨v0, vs0, d0, ds0, p0, q0, hargs, rfl, rfl, h0, r0⟩ := trodAll_cons hA
  obtain ⟨rfl, rfl, rfl⟩ := trodAll_nil r0
  obtain rfl : args = #[v0] := by cases args; simp_all
  obtain ⟨rfl, rfl⟩ := trodVars_none hV
  have k0 := h0
  have lt0 : ∀ x ∈ p0, x.block < W.heap.size := by obtain ⟨m, hm⟩ := k0; exact DataW.trod_lt m _ _ _ hm
  obtain ⟨fuel0, hf0⟩ := h0
  obtain ⟨cs0, rfl, hcs0⟩ := okWide_struct Try.underlying57 (hval 0 57 v0 rfl rfl)
  obtain ⟨a0, hK0, hg0⟩ := (Opens.struct (fun x => x) (fun y => y) (fun _ => rfl) _ (by intro y h; exact h) Try.underlying57 (by kernel_rfl) (Opens.cons rfl (by kernel_rfl) (Opens.struct (fun x => x) (fun y => y) (fun _ => rfl) _ (by intro y h; exact h) Try.underlying54 (by kernel_rfl) (Opens.cons rfl (by kernel_rfl) (Opens.int Try.underlying3) (Opens.cons rfl (by kernel_rfl) (Opens.slice Try.underlying52 (by kernel_rfl) (B := 48) (by kernel_rfl) open61) (Opens.cons rfl (by kernel_rfl) (Opens.int Try.underlying3) (Opens.last rfl (by kernel_rfl) (Opens.int Try.underlying3)))))) (Opens.last rfl (by kernel_rfl) (Opens.slice Try.underlying55 (by kernel_rfl) (B := 8) (by kernel_rfl) (Opens.int Try.underlying3))))).go fuel0 _ _ hf0 (Opens.small_of hsz (j := 0) rfl rfl)
  obtain ⟨_, _, he0, ⟨_, _, rfl, rfl, ⟨_, _, rfl, ⟨A0_1, c0_1, rfl, hl0_1, hr0_1⟩, ⟨_, _, rfl, rfl, rfl⟩⟩⟩, ⟨A0_2, c0_2, rfl, hl0_2, hr0_2⟩⟩ := hK0
  obtain rfl : cs0 = #[.int .i64 a0.1.1, .slice A0_1 a0.1.2.1.length c0_1, .int .i64 a0.1.2.2.1, .int .i64 a0.1.2.2.2, .slice A0_2 a0.2.length c0_2] := by
    have he' : cs0.toList = [.int .i64 a0.1.1, .slice A0_1 a0.1.2.1.length c0_1, .int .i64 a0.1.2.2.1, .int .i64 a0.1.2.2.2, .slice A0_2 a0.2.length c0_2] := he0
    cases cs0
    simpa using he'
  clear hA0 hval0 hsz0 hsz
  obtain ⟨k, hk⟩ := Pure.SplitFinds (a0.1.1) (a0.1.2.1) (a0.1.2.2.1) (a0.1.2.2.2) (a0.2) (hg0.1.1) (hg0.1.2.1) (hg0.1.2.2.1) (hg0.1.2.2.2) (hg0.2)
  refine (thresherlaw12_SplitFinds.calls k (a0.1.1) _ _ (a0.1.2.1) (a0.1.2.2.1) (a0.1.2.2.2) _ _ (a0.2) true W hr0_1 hl0_1 hr0_2 hl0_2 hk).mono fun e W' he' => ?_
  have he : e = .returned (.bool true) := he'.1
  have bel : Below W.heap.size W W' := he'.2
  subst he
  exact ⟨_, rfl, _, _, _, [], _, [], hW', trodAll_mk1 (shut_bool Try.underlying4 _), (trodAll_cons_mk (Below.trod laidOut (by kernel_rfl) (of_decide_eq_true (by kernel_rfl)) k0 bel lt0) trodAll_mk0), rfl, bel.frame _, fun h => by cases h⟩
theorem over : Rows.splitFindsRow.holds Try.pinned (OpenSpec.ofChange Rows.splitFindsSpec) :=
  OpenClaim.holds_of_wide 7 Try.f7 rfl rfl rfl rfl rfl rfl rfl ⟨rfl, rfl, rfl, rfl, rfl⟩ rfl rfl rfl rfl rfl (by kernel_rfl) Try.func7 (by kernel_rfl)
    (of_decide_eq_true (by kernel_rfl)) (by unfold Func.isWrapper; first | (rw [if_pos (by decide +kernel)]; kernel_rfl) | (rw [if_neg (by decide +kernel)]; exact ⟨rfl, rfl⟩))
    (fun os started H enc _ => lifted os started H enc)
theorem proved : Rows.SplitFindsSaid := over
end Go.Proofs.Ytgchbhepnfnhpaa.QSplit.SplitFindsRow
namespace Go.Proofs.Ytgchbhepnfnhpaa
/-- The row, under a short name, for the claim. -/
theorem splitFinds_holds : Rows.SplitFindsSaid := QSplit.SplitFindsRow.proved
#print axioms splitFinds_holds
end Go.Proofs.Ytgchbhepnfnhpaa
