/- An answer, evaluated. -/
import Derived.Test.YtccbadojfbdegaaGreatDoorAns
/- An answer, evaluated. -/
namespace Go.Rev
open Go.Ab Go.Proofs
theorem kRunC0_good : kRunC0.good = true := by kernel_rfl
set_option maxRecDepth 1000000 in
theorem kRunC_ev0 : agrees kRunC0 (ev (envR [payRule] [(seed (.atom 0) (.atom 2), false)] mRun) 1000000 (.call kRunC0.f kRunC0.args kRunC0.heap)) = true := by kernel_rfl
end Go.Rev
