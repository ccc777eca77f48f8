/- An answer, evaluated. -/
import Derived.Test.YtccbadojfbdegaaGreatDoorAns
/- An answer, evaluated. -/
namespace Go.Rev
open Go.Ab Go.Proofs
set_option maxRecDepth 1000000 in
theorem kRunB1_ev1 : agrees kRunB1 (ev (envR [payRule, (yT (.atom 1), yT (.atom 2), true)] [(seed (.atom 0) (.atom 2), true)] mRun) 1000000 (.call kRunB1.f kRunB1.args kRunB1.heap)) = true := by kernel_rfl
end Go.Rev
