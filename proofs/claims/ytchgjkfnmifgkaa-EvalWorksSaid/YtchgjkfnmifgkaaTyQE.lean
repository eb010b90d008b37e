/- What is known of the data of each type that comes in: bounds; and how they are opened. -/
import Derived.Test.YtchgjkfnmifgkaaQEx0
import Derived.Test.YtchgjkfnmifgkaaOpensRec
import Derived.KernelRfl
namespace Go.Proofs.Ytchgjkfnmifgkaa.QE
open Go.RowKit Go.Proofs.Ytchgjkfnmifgkaa Go.Proofs.YtchgjkfnmifgkaaW.PrintWords Go.Proofs.YtchgjkfnmifgkaaW.PrintLast Go.Proofs.YtchgjkfnmifgkaaW.PrintMore
set_option linter.unusedVariables false
inductive Good34 : S34 → Prop
  | mk {x : S34} (h : ((Lit.int .i64 x.f0).wf = true) ∧ ((Lit.int .i64 x.f1).wf = true) ∧ (x.f2.length ≤ maxLen ∧ x.f2.length * 40 ≤ 140737488351232)) (hs : ∀ y ∈ x.f2, Good34 y) : Good34 x
theorem open34N : ∀ N, Opens.OpensN N Try.prog 34 k34 Good34
  | 0 => Opens.OpensN.zero
  | N + 1 => (Opens.OpensN.struct (N := N + 1) (fun y => (⟨y.1, y.2.1, y.2.2⟩ : S34)) Good34 (by
    intro w y cs h
    obtain ⟨_, _, rfl, rfl, ⟨_, _, rfl, rfl, A, c, rfl, hl, hr⟩⟩ := h
    exact k34_mk w (⟨y.1, y.2.1, y.2.2⟩ : S34) hl hr) (by
    intro y h
    exact Good34.mk ⟨h.1, h.2.1, ⟨h.2.2.1, h.2.2.2.1⟩⟩ (fun z hz => h.2.2.2.2 z hz)) Try.underlying34 (by kernel_rfl) (Opens.FieldsN.cons rfl (by kernel_rfl) (Opens.OpensN.of (Opens.int Try.underlying3)) (Opens.FieldsN.cons rfl (by kernel_rfl) (Opens.OpensN.of (Opens.int Try.underlying2)) (Opens.FieldsN.last rfl (by kernel_rfl) (Opens.OpensN.slice Try.underlying23 (by kernel_rfl) (B := 40) (by kernel_rfl) (open34N N)))))).le (by omega)
theorem open34 : Opens.Opens Try.prog 34 k34 Good34 := Opens.OpensN.all open34N
def Good48 (x : S48) : Prop := ((Lit.int .i64 x.f0).wf = true) ∧ (x.f1.size ≤ 140737488351232)
theorem open48 : Opens.Opens Try.prog 48 k48 Good48 := Opens.struct (fun x : S48 => (x.f0, x.f1)) (fun y => ⟨y.1, y.2⟩) (fun _ => rfl) Good48 (by intro y h; exact h) Try.underlying48 (by kernel_rfl) (Opens.cons rfl (by kernel_rfl) (Opens.int Try.underlying2) (Opens.last rfl (by kernel_rfl) (Opens.string Try.underlying9)))
def Good50 (x : S50) : Prop := (Good48 x.f0) ∧ ((Lit.int .i64 x.f1).wf = true)
theorem open50 : Opens.Opens Try.prog 50 k50 Good50 := Opens.struct (fun x : S50 => (x.f0, x.f1)) (fun y => ⟨y.1, y.2⟩) (fun _ => rfl) Good50 (by intro y h; exact h) Try.underlying50 (by kernel_rfl) (Opens.cons rfl (by kernel_rfl) open48 (Opens.last rfl (by kernel_rfl) (Opens.int Try.underlying2)))
end Go.Proofs.Ytchgjkfnmifgkaa.QE
