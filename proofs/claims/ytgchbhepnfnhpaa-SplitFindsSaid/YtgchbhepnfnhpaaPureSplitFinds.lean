/- The law SplitFinds, in plain Lean. -/
import Derived.Test.YtgchbhepnfnhpaaFindsLaw
import Derived.Test.YtgchbhepnfnhpaaPrSplitFinds
namespace Go.Proofs.Ytgchbhepnfnhpaa.QSplit.Pure
open Go.RowKit Go.Proofs.Ytgchbhepnfnhpaa Go.Proofs.YtgchbhepnfnhpaaW.PrintWords Go.Proofs.YtgchbhepnfnhpaaW.PrintLast Go.Proofs.YtgchbhepnfnhpaaW.PrintMore Go.Proofs.Ytgchbhepnfnhpaa.Math Go.Proofs.Ytgchbhepnfnhpaa.QSplit
set_option linter.unusedVariables false
theorem SplitFinds : SplitFindsPure := by
  intro sites l again over ids hsi hl hag hov hid
  have ha := wf_i64 hag
  have hlen : l.length ≤ 2932031007317 := by have := hl.2.1; omega
  obtain ⟨b, hb, hb'⟩ := heavy_ev l hl.2.2 hlen sites again over ids
  refine Ev.rounds (g := fun k => thresherlaw12_SplitFinds.f k sites l again over ids) ?_
  refine Ev.congr (f := fun k => (thresherlaw12_Heavy.f k sites l again over ids).bind fun t => (if t = true then (some true) else ((thresherref11_Config.f k sites l again over).bind fun c => ((split_Check.f k sites l again over).bind fun u => ((thresherlaw12_num.f u).bind fun v => (if ((v == 0) != c) = true then (some false) else (thresherlaw12_SplitFinds.l0 k c ((0 : Nat) : Int) sites l again over ids))))))) (fun k => rfl) (Ev.bind hb ?_)
  cases b with
  | true => simpa using Ev.now _
  | false =>
    simp only [if_neg (show ¬ (false = true) by decide)]
    refine Ev.bind (config_ev l hl.2.2 sites again over ha) (Ev.bind (check_ev l hl.2.2 sites again over ha) ?_)
    simp only [thresherlaw12_num.f, Option.bind_some]
    exact Ev.congr (fun n => if_neg (by rw [chk_same]; decide)) (finds_l0 sites l again over hl.2.2 hlen ha ids (hb' rfl) 12 0 rfl)
end Go.Proofs.Ytgchbhepnfnhpaa.QSplit.Pure
