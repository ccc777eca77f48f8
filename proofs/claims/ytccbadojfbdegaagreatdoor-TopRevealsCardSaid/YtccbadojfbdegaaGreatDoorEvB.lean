/- An answer, evaluated. -/
import Derived.Test.YtccbadojfbdegaaGreatDoorAns
/- An answer, evaluated. -/
namespace Go.Rev
open Go.Ab Go.Proofs
theorem kDrawn_good : kDrawn.good = true := by kernel_rfl
set_option maxRecDepth 1000000 in
theorem kDrawn_ev0 : agrees kDrawn (ev (envR [payRule] [(seed (.lit [49]) (.lit [50]), false)] mRun) 1000000 (.call kDrawn.f kDrawn.args kDrawn.heap)) = true := by kernel_rfl
end Go.Rev
