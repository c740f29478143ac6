/-
  No cell of these rows narrows 'for every input' (looked for: loops, veiled, ifaces, maps, wideKeys, modest, calm, conditions, laid).
  DERIVED. THE GIVEN ROWS OF THIS SEAT. 10 by the template 'for every input the law returns true; each argument reads behind the call as it read before'; 0 by the template 'total and deterministic' (their statements: YtimogbghkmhhgaaTotals.lean).
  GIVEN WITH THE SEED: the statements are not yours to turn. If you find one false, say at which input.
  Laid BY PROGRAM, IN A SANDBOX (cutbox-rows.mjs): the forced cells as the released guide's own fill.sh prints them over the translation 2b769d393afe6b5e… (all of the seat's roots in one cut). By AI agents, Wed Nov 11 2026. No macro, syntax, notation, axiom, sorry.
-/
import Derived.Test.YtimogbghkmhhgaaChecked
import GoSem.Claim
import GoSem.ClaimJoined
import GoSem.ClaimMapViews
import Derived.JoinedTies
import Derived.KernelRfl
namespace Go.Proofs.Ytimogbghkmhhgaa
/- THE CELL 'sum', in the pinned program and in every row, IS THE sha256 OF THE DUMP (.gsa) THAT YtimogbghkmhhgaaProg.lean LOADS. Nothing in Lean hashes anything: it is a label: what it is worth is what the hold of that sum in a sandbox is worth. -/
noncomputable def Try.pinned : Pinned := { name := "ytimogbghkmhhgaa", sum := "2b769d393afe6b5ede681a04b4385d1b4b22f6ab29e353f02abee3ea9f8bae87", checked := Try.checked }
namespace Rows
def none {H : Type} : Left H := { results := [], args := [] }

/-- 'laws.FnUnfoldTrace': WHATEVER THE INPUT: true; the input reads as it did. -/
def fnUnfoldTraceSpec : ChangeSpec := { name := "fnUnfoldTrace", fn := fun _ => fun
  | [d] => { results := [.lit (.bool true)], args := [d] }
  | _ => none }
def fnUnfoldTraceRow : OpenClaim := { program := "ytimogbghkmhhgaa", sum := "2b769d393afe6b5ede681a04b4385d1b4b22f6ab29e353f02abee3ea9f8bae87", func := "loop.example/faultcleanup/laws.FnUnfoldTrace", spec := "fnUnfoldTrace", unfollowed := true, recurses := true, apart := false }
def FnUnfoldTraceSaid : Prop := fnUnfoldTraceRow.holds Try.pinned (OpenSpec.ofChange fnUnfoldTraceSpec)

/-- ITS FALSE NEIGHBOUR: 'it returns false'. Refute it at one input. -/
def fnUnfoldTraceWrong : ChangeSpec := { name := "fnUnfoldTrace", fn := fun _ => fun
  | [d] => { results := [.lit (.bool false)], args := [d] }
  | _ => none }
def FnUnfoldTraceWrongFalsely : Prop := fnUnfoldTraceRow.holds Try.pinned (OpenSpec.ofChange fnUnfoldTraceWrong)

/-- 'laws.FnCallFrom': WHATEVER THE INPUT: true; the input reads as it did. -/
def fnCallFromSpec : ChangeSpec := { name := "fnCallFrom", fn := fun _ => fun
  | [d] => { results := [.lit (.bool true)], args := [d] }
  | _ => none }
def fnCallFromRow : OpenClaim := { program := "ytimogbghkmhhgaa", sum := "2b769d393afe6b5ede681a04b4385d1b4b22f6ab29e353f02abee3ea9f8bae87", func := "loop.example/faultcleanup/laws.FnCallFrom", spec := "fnCallFrom", unfollowed := true, recurses := true, apart := false }
def FnCallFromSaid : Prop := fnCallFromRow.holds Try.pinned (OpenSpec.ofChange fnCallFromSpec)

/-- ITS FALSE NEIGHBOUR: 'it returns false'. Refute it at one input. -/
def fnCallFromWrong : ChangeSpec := { name := "fnCallFrom", fn := fun _ => fun
  | [d] => { results := [.lit (.bool false)], args := [d] }
  | _ => none }
def FnCallFromWrongFalsely : Prop := fnCallFromRow.holds Try.pinned (OpenSpec.ofChange fnCallFromWrong)

/-- 'laws.FnExactCallFrom': WHATEVER THE INPUT: true; the input reads as it did. -/
def fnExactCallFromSpec : ChangeSpec := { name := "fnExactCallFrom", fn := fun _ => fun
  | [d1, d2] => { results := [.lit (.bool true)], args := [d1, d2] }
  | _ => none }
def fnExactCallFromRow : OpenClaim := { program := "ytimogbghkmhhgaa", sum := "2b769d393afe6b5ede681a04b4385d1b4b22f6ab29e353f02abee3ea9f8bae87", func := "loop.example/faultcleanup/laws.FnExactCallFrom", spec := "fnExactCallFrom", unfollowed := true, recurses := true, apart := false }
def FnExactCallFromSaid : Prop := fnExactCallFromRow.holds Try.pinned (OpenSpec.ofChange fnExactCallFromSpec)

/-- ITS FALSE NEIGHBOUR: 'it returns false'. Refute it at one input. -/
def fnExactCallFromWrong : ChangeSpec := { name := "fnExactCallFrom", fn := fun _ => fun
  | [d1, d2] => { results := [.lit (.bool false)], args := [d1, d2] }
  | _ => none }
def FnExactCallFromWrongFalsely : Prop := fnExactCallFromRow.holds Try.pinned (OpenSpec.ofChange fnExactCallFromWrong)

/-- 'laws.FnExactWithHead': WHATEVER THE INPUT: true; the input reads as it did. -/
def fnExactWithHeadSpec : ChangeSpec := { name := "fnExactWithHead", fn := fun _ => fun
  | [d1, d2, d3] => { results := [.lit (.bool true)], args := [d1, d2, d3] }
  | _ => none }
def fnExactWithHeadRow : OpenClaim := { program := "ytimogbghkmhhgaa", sum := "2b769d393afe6b5ede681a04b4385d1b4b22f6ab29e353f02abee3ea9f8bae87", func := "loop.example/faultcleanup/laws.FnExactWithHead", spec := "fnExactWithHead", unfollowed := true, recurses := true, apart := false }
def FnExactWithHeadSaid : Prop := fnExactWithHeadRow.holds Try.pinned (OpenSpec.ofChange fnExactWithHeadSpec)

/-- ITS FALSE NEIGHBOUR: 'it returns false'. Refute it at one input. -/
def fnExactWithHeadWrong : ChangeSpec := { name := "fnExactWithHead", fn := fun _ => fun
  | [d1, d2, d3] => { results := [.lit (.bool false)], args := [d1, d2, d3] }
  | _ => none }
def FnExactWithHeadWrongFalsely : Prop := fnExactWithHeadRow.holds Try.pinned (OpenSpec.ofChange fnExactWithHeadWrong)

/-- 'laws.FnHideFuncs': WHATEVER THE INPUT: true; the input reads as it did. -/
def fnHideFuncsSpec : ChangeSpec := { name := "fnHideFuncs", fn := fun _ => fun
  | [d] => { results := [.lit (.bool true)], args := [d] }
  | _ => none }
def fnHideFuncsRow : OpenClaim := { program := "ytimogbghkmhhgaa", sum := "2b769d393afe6b5ede681a04b4385d1b4b22f6ab29e353f02abee3ea9f8bae87", func := "loop.example/faultcleanup/laws.FnHideFuncs", spec := "fnHideFuncs", unfollowed := true, recurses := true, apart := false }
def FnHideFuncsSaid : Prop := fnHideFuncsRow.holds Try.pinned (OpenSpec.ofChange fnHideFuncsSpec)

/-- ITS FALSE NEIGHBOUR: 'it returns false'. Refute it at one input. -/
def fnHideFuncsWrong : ChangeSpec := { name := "fnHideFuncs", fn := fun _ => fun
  | [d] => { results := [.lit (.bool false)], args := [d] }
  | _ => none }
def FnHideFuncsWrongFalsely : Prop := fnHideFuncsRow.holds Try.pinned (OpenSpec.ofChange fnHideFuncsWrong)

/-- 'laws.FnWithHead': WHATEVER THE INPUT: true; the input reads as it did. -/
def fnWithHeadSpec : ChangeSpec := { name := "fnWithHead", fn := fun _ => fun
  | [d] => { results := [.lit (.bool true)], args := [d] }
  | _ => none }
def fnWithHeadRow : OpenClaim := { program := "ytimogbghkmhhgaa", sum := "2b769d393afe6b5ede681a04b4385d1b4b22f6ab29e353f02abee3ea9f8bae87", func := "loop.example/faultcleanup/laws.FnWithHead", spec := "fnWithHead", unfollowed := true, recurses := true, apart := false }
def FnWithHeadSaid : Prop := fnWithHeadRow.holds Try.pinned (OpenSpec.ofChange fnWithHeadSpec)

/-- ITS FALSE NEIGHBOUR: 'it returns false'. Refute it at one input. -/
def fnWithHeadWrong : ChangeSpec := { name := "fnWithHead", fn := fun _ => fun
  | [d] => { results := [.lit (.bool false)], args := [d] }
  | _ => none }
def FnWithHeadWrongFalsely : Prop := fnWithHeadRow.holds Try.pinned (OpenSpec.ofChange fnWithHeadWrong)

/-- 'laws.FnExactFoldTrace': WHATEVER THE INPUT: true; the input reads as it did. -/
def fnExactFoldTraceSpec : ChangeSpec := { name := "fnExactFoldTrace", fn := fun _ => fun
  | [d] => { results := [.lit (.bool true)], args := [d] }
  | _ => none }
def fnExactFoldTraceRow : OpenClaim := { program := "ytimogbghkmhhgaa", sum := "2b769d393afe6b5ede681a04b4385d1b4b22f6ab29e353f02abee3ea9f8bae87", func := "loop.example/faultcleanup/laws.FnExactFoldTrace", spec := "fnExactFoldTrace", unfollowed := true, recurses := true, apart := false }
def FnExactFoldTraceSaid : Prop := fnExactFoldTraceRow.holds Try.pinned (OpenSpec.ofChange fnExactFoldTraceSpec)

/-- ITS FALSE NEIGHBOUR: 'it returns false'. Refute it at one input. -/
def fnExactFoldTraceWrong : ChangeSpec := { name := "fnExactFoldTrace", fn := fun _ => fun
  | [d] => { results := [.lit (.bool false)], args := [d] }
  | _ => none }
def FnExactFoldTraceWrongFalsely : Prop := fnExactFoldTraceRow.holds Try.pinned (OpenSpec.ofChange fnExactFoldTraceWrong)

/-- 'laws.FnLessHead': WHATEVER THE INPUT: true; the input reads as it did. -/
def fnLessHeadSpec : ChangeSpec := { name := "fnLessHead", fn := fun _ => fun
  | [d] => { results := [.lit (.bool true)], args := [d] }
  | _ => none }
def fnLessHeadRow : OpenClaim := { program := "ytimogbghkmhhgaa", sum := "2b769d393afe6b5ede681a04b4385d1b4b22f6ab29e353f02abee3ea9f8bae87", func := "loop.example/faultcleanup/laws.FnLessHead", spec := "fnLessHead", unfollowed := true, recurses := true, apart := false }
def FnLessHeadSaid : Prop := fnLessHeadRow.holds Try.pinned (OpenSpec.ofChange fnLessHeadSpec)

/-- ITS FALSE NEIGHBOUR: 'it returns false'. Refute it at one input. -/
def fnLessHeadWrong : ChangeSpec := { name := "fnLessHead", fn := fun _ => fun
  | [d] => { results := [.lit (.bool false)], args := [d] }
  | _ => none }
def FnLessHeadWrongFalsely : Prop := fnLessHeadRow.holds Try.pinned (OpenSpec.ofChange fnLessHeadWrong)

/-- 'laws.FnExactHideFuncs': WHATEVER THE INPUT: true; the input reads as it did. -/
def fnExactHideFuncsSpec : ChangeSpec := { name := "fnExactHideFuncs", fn := fun _ => fun
  | [d1, d2] => { results := [.lit (.bool true)], args := [d1, d2] }
  | _ => none }
def fnExactHideFuncsRow : OpenClaim := { program := "ytimogbghkmhhgaa", sum := "2b769d393afe6b5ede681a04b4385d1b4b22f6ab29e353f02abee3ea9f8bae87", func := "loop.example/faultcleanup/laws.FnExactHideFuncs", spec := "fnExactHideFuncs", unfollowed := true, recurses := true, apart := false }
def FnExactHideFuncsSaid : Prop := fnExactHideFuncsRow.holds Try.pinned (OpenSpec.ofChange fnExactHideFuncsSpec)

/-- ITS FALSE NEIGHBOUR: 'it returns false'. Refute it at one input. -/
def fnExactHideFuncsWrong : ChangeSpec := { name := "fnExactHideFuncs", fn := fun _ => fun
  | [d1, d2] => { results := [.lit (.bool false)], args := [d1, d2] }
  | _ => none }
def FnExactHideFuncsWrongFalsely : Prop := fnExactHideFuncsRow.holds Try.pinned (OpenSpec.ofChange fnExactHideFuncsWrong)

/-- 'laws.FnFoldTrace': WHATEVER THE INPUT: true; the input reads as it did. -/
def fnFoldTraceSpec : ChangeSpec := { name := "fnFoldTrace", fn := fun _ => fun
  | [d] => { results := [.lit (.bool true)], args := [d] }
  | _ => none }
def fnFoldTraceRow : OpenClaim := { program := "ytimogbghkmhhgaa", sum := "2b769d393afe6b5ede681a04b4385d1b4b22f6ab29e353f02abee3ea9f8bae87", func := "loop.example/faultcleanup/laws.FnFoldTrace", spec := "fnFoldTrace", unfollowed := true, recurses := true, apart := false }
def FnFoldTraceSaid : Prop := fnFoldTraceRow.holds Try.pinned (OpenSpec.ofChange fnFoldTraceSpec)

/-- ITS FALSE NEIGHBOUR: 'it returns false'. Refute it at one input. -/
def fnFoldTraceWrong : ChangeSpec := { name := "fnFoldTrace", fn := fun _ => fun
  | [d] => { results := [.lit (.bool false)], args := [d] }
  | _ => none }
def FnFoldTraceWrongFalsely : Prop := fnFoldTraceRow.holds Try.pinned (OpenSpec.ofChange fnFoldTraceWrong)

/- THE SECOND FORM. 'bulk': how many values and letters a reading holds, each counted each time it is reached (what is shared counts as often as it is met; a slice's spare places count too). A statement '..UptoSaid' is the law's where the arguments, and the package variables that the reading takes, are together of bulk at most 1048576: NARROWER than '..Said'. Prove '..Said' where nothing that the law and all that it calls make is longer than what came in: it says more and counts as full. Else prove '..UptoSaid'. A law counts once. -/
mutual
def uptoBulk {H : Type} : DataW H → Nat
  | .lit (.string bytes) => bytes.length + 1
  | .lit _ => 1
  | .nil => 1
  | .ptr d => uptoBulk d + 1
  | .slice elems spare => uptoBulkAll elems + uptoBulkAll spare + 1
  | .agg parts => uptoBulkAll parts + 1
  | .iface _ d => uptoBulk d + 1
  | .map entries => uptoBulkEntries entries + 1
  | .held _ => 1
def uptoBulkAll {H : Type} : List (DataW H) → Nat
  | [] => 0
  | d :: r => uptoBulk d + uptoBulkAll r
def uptoBulkEntries {H : Type} : List (Lit × DataW H) → Nat
  | [] => 0
  | x :: r => uptoBulkEntry x + uptoBulkEntries r
def uptoBulkEntry {H : Type} : Lit × DataW H → Nat
  | (.string bytes, d) => bytes.length + uptoBulk d + 1
  | (_, d) => uptoBulk d + 1
 end
def uptoSmall : (H : Type) → List (DataW H) → Bool := fun _ ds => decide (uptoBulkAll ds ≤ 1048576)
def OpenSpec.upto (s : _root_.Go.ChangeSpec) : _root_.Go.OpenSpec := { _root_.Go.OpenSpec.ofChange s with cond := some uptoSmall }

/-- 'laws.FnUnfoldTrace', WHERE WHAT IT READS IS OF BULK AT MOST 1048576: true; the input reads as it did. -/
def fnUnfoldTraceUptoRow : OpenClaim := { program := "ytimogbghkmhhgaa", sum := "2b769d393afe6b5ede681a04b4385d1b4b22f6ab29e353f02abee3ea9f8bae87", func := "loop.example/faultcleanup/laws.FnUnfoldTrace", spec := "fnUnfoldTrace", unfollowed := true, recurses := true, apart := false, narrowed := true }
def FnUnfoldTraceUptoSaid : Prop := fnUnfoldTraceUptoRow.holds Try.pinned (OpenSpec.upto fnUnfoldTraceSpec)

/-- 'laws.FnCallFrom', WHERE WHAT IT READS IS OF BULK AT MOST 1048576: true; the input reads as it did. -/
def fnCallFromUptoRow : OpenClaim := { program := "ytimogbghkmhhgaa", sum := "2b769d393afe6b5ede681a04b4385d1b4b22f6ab29e353f02abee3ea9f8bae87", func := "loop.example/faultcleanup/laws.FnCallFrom", spec := "fnCallFrom", unfollowed := true, recurses := true, apart := false, narrowed := true }
def FnCallFromUptoSaid : Prop := fnCallFromUptoRow.holds Try.pinned (OpenSpec.upto fnCallFromSpec)

/-- 'laws.FnExactCallFrom', WHERE WHAT IT READS IS OF BULK AT MOST 1048576: true; the input reads as it did. -/
def fnExactCallFromUptoRow : OpenClaim := { program := "ytimogbghkmhhgaa", sum := "2b769d393afe6b5ede681a04b4385d1b4b22f6ab29e353f02abee3ea9f8bae87", func := "loop.example/faultcleanup/laws.FnExactCallFrom", spec := "fnExactCallFrom", unfollowed := true, recurses := true, apart := false, narrowed := true }
def FnExactCallFromUptoSaid : Prop := fnExactCallFromUptoRow.holds Try.pinned (OpenSpec.upto fnExactCallFromSpec)

/-- 'laws.FnExactWithHead', WHERE WHAT IT READS IS OF BULK AT MOST 1048576: true; the input reads as it did. -/
def fnExactWithHeadUptoRow : OpenClaim := { program := "ytimogbghkmhhgaa", sum := "2b769d393afe6b5ede681a04b4385d1b4b22f6ab29e353f02abee3ea9f8bae87", func := "loop.example/faultcleanup/laws.FnExactWithHead", spec := "fnExactWithHead", unfollowed := true, recurses := true, apart := false, narrowed := true }
def FnExactWithHeadUptoSaid : Prop := fnExactWithHeadUptoRow.holds Try.pinned (OpenSpec.upto fnExactWithHeadSpec)

/-- 'laws.FnHideFuncs', WHERE WHAT IT READS IS OF BULK AT MOST 1048576: true; the input reads as it did. -/
def fnHideFuncsUptoRow : OpenClaim := { program := "ytimogbghkmhhgaa", sum := "2b769d393afe6b5ede681a04b4385d1b4b22f6ab29e353f02abee3ea9f8bae87", func := "loop.example/faultcleanup/laws.FnHideFuncs", spec := "fnHideFuncs", unfollowed := true, recurses := true, apart := false, narrowed := true }
def FnHideFuncsUptoSaid : Prop := fnHideFuncsUptoRow.holds Try.pinned (OpenSpec.upto fnHideFuncsSpec)

/-- 'laws.FnWithHead', WHERE WHAT IT READS IS OF BULK AT MOST 1048576: true; the input reads as it did. -/
def fnWithHeadUptoRow : OpenClaim := { program := "ytimogbghkmhhgaa", sum := "2b769d393afe6b5ede681a04b4385d1b4b22f6ab29e353f02abee3ea9f8bae87", func := "loop.example/faultcleanup/laws.FnWithHead", spec := "fnWithHead", unfollowed := true, recurses := true, apart := false, narrowed := true }
def FnWithHeadUptoSaid : Prop := fnWithHeadUptoRow.holds Try.pinned (OpenSpec.upto fnWithHeadSpec)

/-- 'laws.FnExactFoldTrace', WHERE WHAT IT READS IS OF BULK AT MOST 1048576: true; the input reads as it did. -/
def fnExactFoldTraceUptoRow : OpenClaim := { program := "ytimogbghkmhhgaa", sum := "2b769d393afe6b5ede681a04b4385d1b4b22f6ab29e353f02abee3ea9f8bae87", func := "loop.example/faultcleanup/laws.FnExactFoldTrace", spec := "fnExactFoldTrace", unfollowed := true, recurses := true, apart := false, narrowed := true }
def FnExactFoldTraceUptoSaid : Prop := fnExactFoldTraceUptoRow.holds Try.pinned (OpenSpec.upto fnExactFoldTraceSpec)

/-- 'laws.FnLessHead', WHERE WHAT IT READS IS OF BULK AT MOST 1048576: true; the input reads as it did. -/
def fnLessHeadUptoRow : OpenClaim := { program := "ytimogbghkmhhgaa", sum := "2b769d393afe6b5ede681a04b4385d1b4b22f6ab29e353f02abee3ea9f8bae87", func := "loop.example/faultcleanup/laws.FnLessHead", spec := "fnLessHead", unfollowed := true, recurses := true, apart := false, narrowed := true }
def FnLessHeadUptoSaid : Prop := fnLessHeadUptoRow.holds Try.pinned (OpenSpec.upto fnLessHeadSpec)

/-- 'laws.FnExactHideFuncs', WHERE WHAT IT READS IS OF BULK AT MOST 1048576: true; the input reads as it did. -/
def fnExactHideFuncsUptoRow : OpenClaim := { program := "ytimogbghkmhhgaa", sum := "2b769d393afe6b5ede681a04b4385d1b4b22f6ab29e353f02abee3ea9f8bae87", func := "loop.example/faultcleanup/laws.FnExactHideFuncs", spec := "fnExactHideFuncs", unfollowed := true, recurses := true, apart := false, narrowed := true }
def FnExactHideFuncsUptoSaid : Prop := fnExactHideFuncsUptoRow.holds Try.pinned (OpenSpec.upto fnExactHideFuncsSpec)

/-- 'laws.FnFoldTrace', WHERE WHAT IT READS IS OF BULK AT MOST 1048576: true; the input reads as it did. -/
def fnFoldTraceUptoRow : OpenClaim := { program := "ytimogbghkmhhgaa", sum := "2b769d393afe6b5ede681a04b4385d1b4b22f6ab29e353f02abee3ea9f8bae87", func := "loop.example/faultcleanup/laws.FnFoldTrace", spec := "fnFoldTrace", unfollowed := true, recurses := true, apart := false, narrowed := true }
def FnFoldTraceUptoSaid : Prop := fnFoldTraceUptoRow.holds Try.pinned (OpenSpec.upto fnFoldTraceSpec)

end Rows
end Go.Proofs.Ytimogbghkmhhgaa
