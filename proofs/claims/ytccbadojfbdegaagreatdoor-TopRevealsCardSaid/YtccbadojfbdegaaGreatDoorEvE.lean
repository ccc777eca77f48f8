/- An answer, evaluated. -/
import Derived.Test.YtccbadojfbdegaaGreatDoorAns
/- An answer, evaluated. -/
namespace Go.Rev
open Go.Ab Go.Proofs
set_option maxRecDepth 1000000 in
theorem kRunA_ev1 : agrees kRunA (ev (envR [payRule] [(seed (.atom 0) (.atom 1), true)] mRun) 1000000 (.call kRunA.f kRunA.args kRunA.heap)) = true := by kernel_rfl
end Go.Rev
