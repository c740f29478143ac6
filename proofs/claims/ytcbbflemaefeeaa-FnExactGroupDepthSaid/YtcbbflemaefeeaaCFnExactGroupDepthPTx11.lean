/- Words and walks that the law's proof uses: each printed function's contract. Conditions: none beyond the statement's own. -/
import Derived.Test.YtcbbflemaefeeaaCFnExactGroupDepthPTx0
import Derived.Test.YtcbbflemaefeeaaCFnExactGroupDepthPTx10
namespace Go.Proofs.Ytcbbflemaefeeaa.PT
open Go.RowKit Go.Proofs.YtcbbflemaefeeaaW.PrintWords Go.Proofs.YtcbbflemaefeeaaW.PrintLast Go.Proofs.YtcbbflemaefeeaaW.PrintMore
attribute [local go_sem] max2_int min2_int max_two min_two max_three min_three max_four min_four   -- for this text's walks alone
set_option linter.unusedVariables false
set_option linter.unusedSimpArgs false
def spec_goodTree.T7 : Bool × List (List Nat × List Nat) := (true, [([], []), ([0], [0]), ([], []), ([], []), ([2, 3], [2, 3]), ([4], [4]), ([], []), ([], []), ([], []), ([7, 8], [7, 8]), ([], []), ([10], [10]), ([9, 11], [9, 11]), ([6, 12, 9], [6, 12]), ([5, 13], [5, 13]), ([14], [14]), ([1, 15, 13], [1, 15]), ([0, 1, 2, 3, 4, 5, 6, 7, 8, 9, 10, 11, 12, 13, 14, 15, 16], []), ([17, 16, 16, 0, 1, 2, 3, 4, 5, 6, 7, 8, 9, 10, 11, 12, 13, 14, 15, 16], [16, 17])])
def spec_goodTree.B7 : List Nat := [0, 1, 0, 0, 12, 28, 0, 0, 0, 384, 0, 1024, 3968, 8128, 16380, 32764, 65535, 131071, 262143]
theorem spec_goodTree.tab7 : rtab .any (opsOf Try.f61 7) = spec_goodTree.T7 := by kernel_rfl
theorem spec_goodTree.bits7 : waitsOk spec_goodTree.T7.2 spec_goodTree.B7 = true := by kernel_rfl
end Go.Proofs.Ytcbbflemaefeeaa.PT
