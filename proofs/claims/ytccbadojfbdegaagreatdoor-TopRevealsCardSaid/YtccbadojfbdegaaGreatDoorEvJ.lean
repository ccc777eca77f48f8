/- An answer, evaluated. -/
import Derived.Test.YtccbadojfbdegaaGreatDoorAns
/- An answer, evaluated. -/
namespace Go.Rev
open Go.Ab Go.Proofs
theorem kRunB3_good : kRunB3.good = true := by kernel_rfl
set_option maxRecDepth 1000000 in
theorem kRunB3_ev : agrees kRunB3 (ev (envR [payRule, (yT (.atom 1), yT (.atom 2), false), (yT (.atom 1), yT (.lit []), false)] [] mRun) 1000000 (.call kRunB3.f kRunB3.args kRunB3.heap)) = true := by kernel_rfl
end Go.Rev
