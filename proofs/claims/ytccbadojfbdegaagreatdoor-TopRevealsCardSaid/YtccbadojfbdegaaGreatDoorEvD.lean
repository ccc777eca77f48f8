/- An answer, evaluated. -/
import Derived.Test.YtccbadojfbdegaaGreatDoorAns
/- An answer, evaluated. -/
namespace Go.Rev
open Go.Ab Go.Proofs
theorem kRunA_good : kRunA.good = true := by kernel_rfl
set_option maxRecDepth 1000000 in
theorem kRunA_ev0 : agrees kRunA (ev (envR [payRule] [(seed (.atom 0) (.atom 1), false)] mRun) 1000000 (.call kRunA.f kRunA.args kRunA.heap)) = true := by kernel_rfl
end Go.Rev
