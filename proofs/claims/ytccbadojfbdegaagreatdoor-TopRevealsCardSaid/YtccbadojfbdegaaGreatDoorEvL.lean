/- An answer, evaluated. -/
import Derived.Test.YtccbadojfbdegaaGreatDoorAns
/- An answer, evaluated. -/
namespace Go.Rev
open Go.Ab Go.Proofs
theorem kRunC1_good : kRunC1.good = true := by kernel_rfl
set_option maxRecDepth 1000000 in
theorem kRunC_ev1 : agrees kRunC1 (ev (envR [payRule] [(seed (.atom 0) (.atom 2), true)] mRun) 1000000 (.call kRunC1.f kRunC1.args kRunC1.heap)) = true := by kernel_rfl
end Go.Rev
