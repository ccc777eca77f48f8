/- Answers evaluated: the texts of hall and rules. -/
import Derived.Test.YtccbadojfbdegaaGreatDoorAns
/- An answer, evaluated. -/
namespace Go.Rev
open Go.Ab Go.Proofs
theorem kClasses_good : kClasses.good = true := by kernel_rfl
set_option maxRecDepth 1000000 in
theorem kClasses_ev : agrees kClasses (ev (envR [] [] noMore) 1000000 (.call kClasses.f kClasses.args kClasses.heap)) = true := by kernel_rfl
end Go.Rev
/- An answer, evaluated. -/
namespace Go.Rev
open Go.Ab Go.Proofs
theorem kPlan_good : kPlan.good = true := by kernel_rfl
set_option maxRecDepth 1000000 in
theorem kPlan_ev : agrees kPlan (ev (envR [] [] mClasses) 1000000 (.call kPlan.f kPlan.args kPlan.heap)) = true := by kernel_rfl
end Go.Rev
/- An answer, evaluated. -/
namespace Go.Rev
open Go.Ab Go.Proofs
theorem kRules_good : kRules.good = true := by kernel_rfl
set_option maxRecDepth 1000000 in
theorem kRules_ev : agrees kRules (ev (envR [] [] mClasses) 1000000 (.call kRules.f kRules.args kRules.heap)) = true := by kernel_rfl
end Go.Rev
/- An answer, evaluated. -/
namespace Go.Rev
open Go.Ab Go.Proofs
theorem kBuild_good : kBuild.good = true := by kernel_rfl
set_option maxRecDepth 1000000 in
theorem kBuild_ev : agrees kBuild (ev (envR [] [] mLex) 1000000 (.call kBuild.f kBuild.args kBuild.heap)) = true := by kernel_rfl
end Go.Rev
