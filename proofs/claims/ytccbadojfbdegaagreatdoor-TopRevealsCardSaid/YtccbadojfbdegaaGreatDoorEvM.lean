/- The law evaluated. -/
import Derived.Test.YtccbadojfbdegaaGreatDoorAns
/- The law, evaluated: at three texts of which only this is known: whether digests are the same, and how the last draw falls. -/
namespace Go.Rev
open Go.Ab Go.Proofs
noncomputable def rulesT (c e s : Bool) : List (AStr × AStr × Bool) :=
  [payRule, (.atom 2, .atom 1, false), (yT (.atom 1), yT (.atom 2), c), (yT (.atom 1), yT (.lit []), e), (xsT (.atom 0) (.atom 1), xsT (.atom 0) (.atom 2), s), (jsT (.atom 0) (.atom 1), jsT (.atom 0) (.atom 2), false)]
noncomputable def kRunB (c e : Bool) : Know := bif c then kRunB1 else bif e then kRunB2 else kRunB3
noncomputable def mTop (c e d : Bool) : More := orElse kDrawn (orElse kRunA (orElse (kRunB c e) (orElse (kRunC d) noMore)))
noncomputable def envT (c e s d : Bool) : Env := envR (rulesT c e s) [(seed (.atom 0) (.atom 2), d)] (mTop c e d)
set_option maxRecDepth 1000000
theorem top_ev0000 : isTrue (ev (envT false false false false) 1000000 (.call 3 [.str (.atom 0), .str (.atom 1), .str (.atom 2)] H0)) = true := by kernel_rfl
theorem top_ev0001 : isTrue (ev (envT false false false true) 1000000 (.call 3 [.str (.atom 0), .str (.atom 1), .str (.atom 2)] H0)) = true := by kernel_rfl
theorem top_ev0010 : isTrue (ev (envT false false true false) 1000000 (.call 3 [.str (.atom 0), .str (.atom 1), .str (.atom 2)] H0)) = true := by kernel_rfl
theorem top_ev0011 : isTrue (ev (envT false false true true) 1000000 (.call 3 [.str (.atom 0), .str (.atom 1), .str (.atom 2)] H0)) = true := by kernel_rfl
theorem top_ev0100 : isTrue (ev (envT false true false false) 1000000 (.call 3 [.str (.atom 0), .str (.atom 1), .str (.atom 2)] H0)) = true := by kernel_rfl
theorem top_ev0101 : isTrue (ev (envT false true false true) 1000000 (.call 3 [.str (.atom 0), .str (.atom 1), .str (.atom 2)] H0)) = true := by kernel_rfl
theorem top_ev0110 : isTrue (ev (envT false true true false) 1000000 (.call 3 [.str (.atom 0), .str (.atom 1), .str (.atom 2)] H0)) = true := by kernel_rfl
theorem top_ev0111 : isTrue (ev (envT false true true true) 1000000 (.call 3 [.str (.atom 0), .str (.atom 1), .str (.atom 2)] H0)) = true := by kernel_rfl
theorem top_ev1000 : isTrue (ev (envT true false false false) 1000000 (.call 3 [.str (.atom 0), .str (.atom 1), .str (.atom 2)] H0)) = true := by kernel_rfl
theorem top_ev1001 : isTrue (ev (envT true false false true) 1000000 (.call 3 [.str (.atom 0), .str (.atom 1), .str (.atom 2)] H0)) = true := by kernel_rfl
theorem top_ev1010 : isTrue (ev (envT true false true false) 1000000 (.call 3 [.str (.atom 0), .str (.atom 1), .str (.atom 2)] H0)) = true := by kernel_rfl
theorem top_ev1011 : isTrue (ev (envT true false true true) 1000000 (.call 3 [.str (.atom 0), .str (.atom 1), .str (.atom 2)] H0)) = true := by kernel_rfl
theorem top_ev1100 : isTrue (ev (envT true true false false) 1000000 (.call 3 [.str (.atom 0), .str (.atom 1), .str (.atom 2)] H0)) = true := by kernel_rfl
theorem top_ev1101 : isTrue (ev (envT true true false true) 1000000 (.call 3 [.str (.atom 0), .str (.atom 1), .str (.atom 2)] H0)) = true := by kernel_rfl
theorem top_ev1110 : isTrue (ev (envT true true true false) 1000000 (.call 3 [.str (.atom 0), .str (.atom 1), .str (.atom 2)] H0)) = true := by kernel_rfl
theorem top_ev1111 : isTrue (ev (envT true true true true) 1000000 (.call 3 [.str (.atom 0), .str (.atom 1), .str (.atom 2)] H0)) = true := by kernel_rfl
theorem top_ev (c e s d : Bool) : isTrue (ev (envT c e s d) 1000000 (.call 3 [.str (.atom 0), .str (.atom 1), .str (.atom 2)] H0)) = true := by
  cases c <;> cases e <;> cases s <;> cases d
  · exact top_ev0000
  · exact top_ev0001
  · exact top_ev0010
  · exact top_ev0011
  · exact top_ev0100
  · exact top_ev0101
  · exact top_ev0110
  · exact top_ev0111
  · exact top_ev1000
  · exact top_ev1001
  · exact top_ev1010
  · exact top_ev1011
  · exact top_ev1100
  · exact top_ev1101
  · exact top_ev1110
  · exact top_ev1111
end Go.Rev
