/- Words and walks that the law's proof uses: each printed function's contract. Conditions: none beyond the statement's own. -/
import Derived.Test.YtcbbflemaefeeaaCFnLeavesOfPTx0
import Derived.Test.YtcbbflemaefeeaaCFnLeavesOfPTx4
import Derived.Test.YtcbbflemaefeeaaCFnLeavesOfPTx14
import Derived.Test.YtcbbflemaefeeaaCFnLeavesOfPTx5
import Derived.Test.YtcbbflemaefeeaaCFnLeavesOfPTx8
import Derived.Test.YtcbbflemaefeeaaCFnLeavesOfPTx10
import Derived.Test.YtcbbflemaefeeaaCFnLeavesOfPTx13
namespace Go.Proofs.Ytcbbflemaefeeaa.PT
open Go.RowKit Go.Proofs.YtcbbflemaefeeaaW.PrintWords Go.Proofs.YtcbbflemaefeeaaW.PrintLast Go.Proofs.YtcbbflemaefeeaaW.PrintMore
attribute [local go_sem] max2_int min2_int max_two min_two max_three min_three max_four min_four   -- for this text's walks alone
set_option linter.unusedVariables false
set_option linter.unusedSimpArgs false
def laws_FnGroupDepth.T12 : Bool × List (List Nat × List Nat) := (true,[([],[]),([],[]),([],[]),([],[]),([2,3],[2,3]),([4],[4]),([1,5],[1,5]),([0,6],[0,6]),([7,6,0,1,2,3,4,5,6,7],[0,7])])
def laws_FnGroupDepth.B12 : List Nat := [0,0,0,0,12,28,62,127,255]
theorem laws_FnGroupDepth.tab12 : rtab .any (opsOf Try.f5 12) = laws_FnGroupDepth.T12 := by kernel_rfl
theorem laws_FnGroupDepth.bits12 : waitsOk laws_FnGroupDepth.T12.2 laws_FnGroupDepth.B12 = true := by kernel_rfl
end Go.Proofs.Ytcbbflemaefeeaa.PT
