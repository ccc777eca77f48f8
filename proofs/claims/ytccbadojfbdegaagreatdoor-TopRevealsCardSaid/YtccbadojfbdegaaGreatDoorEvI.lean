/- An answer, evaluated. -/
import Derived.Test.YtccbadojfbdegaaGreatDoorAns
/- An answer, evaluated. -/
namespace Go.Rev
open Go.Ab Go.Proofs
set_option maxRecDepth 1000000 in
theorem kRunB2_ev1 : agrees kRunB2 (ev (envR [payRule, (yT (.atom 1), yT (.atom 2), false), (yT (.atom 1), yT (.lit []), true)] [(seed (.atom 0) (.lit []), true)] mRun) 1000000 (.call kRunB2.f kRunB2.args kRunB2.heap)) = true := by kernel_rfl
end Go.Rev
