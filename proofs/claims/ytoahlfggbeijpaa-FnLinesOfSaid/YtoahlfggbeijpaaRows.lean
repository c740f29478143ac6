/-
  No cell of these rows narrows 'for every input' (looked for: loops, veiled, ifaces, maps, wideKeys, modest, calm, conditions, laid).
  DERIVED. THE GIVEN ROWS OF THIS SEAT. 12 by the template 'for every input the law returns true; each argument reads behind the call as it read before'; 0 by the template 'total and deterministic' (their statements: YtoahlfggbeijpaaTotals.lean).
  GIVEN WITH THE SEED: the statements are not yours to turn. If you find one false, say at which input.
  Laid BY PROGRAM, IN A SANDBOX (cutbox-rows.mjs): the forced cells as the released guide's own fill.sh prints them over the translation fc1bca14f3346d18… (all of the seat's roots in one cut). By AI agents, Wed Nov 11 2026. No macro, syntax, notation, axiom, sorry.
-/
import Derived.Test.YtoahlfggbeijpaaChecked
import GoSem.Claim
import GoSem.ClaimJoined
import GoSem.ClaimMapViews
import Derived.JoinedTies
import Derived.KernelRfl
namespace Go.Proofs.Ytoahlfggbeijpaa
/- THE CELL 'sum', in the pinned program and in every row, IS THE sha256 OF THE DUMP (.gsa) THAT YtoahlfggbeijpaaProg.lean LOADS. Nothing in Lean hashes anything: it is a label: what it is worth is what the hold of that sum in a sandbox is worth. -/
noncomputable def Try.pinned : Pinned := { name := "ytoahlfggbeijpaa", sum := "fc1bca14f3346d180e69f625e6ecba8992900d8f8b0e297e150230f57d899832", checked := Try.checked }
namespace Rows
def none {H : Type} : Left H := { results := [], args := [] }

/-- 'laws.FnExactValidTrace': WHATEVER THE INPUT: true; the input reads as it did. -/
def fnExactValidTraceSpec : ChangeSpec := { name := "fnExactValidTrace", fn := fun _ => fun
  | [d] => { results := [.lit (.bool true)], args := [d] }
  | _ => none }
def fnExactValidTraceRow : OpenClaim := { program := "ytoahlfggbeijpaa", sum := "fc1bca14f3346d180e69f625e6ecba8992900d8f8b0e297e150230f57d899832", func := "loop.example/faultcleanup/laws.FnExactValidTrace", spec := "fnExactValidTrace", unfollowed := true, recurses := true, apart := false }
def FnExactValidTraceSaid : Prop := fnExactValidTraceRow.holds Try.pinned (OpenSpec.ofChange fnExactValidTraceSpec)

/-- ITS FALSE NEIGHBOUR: 'it returns false'. Refute it at one input. -/
def fnExactValidTraceWrong : ChangeSpec := { name := "fnExactValidTrace", fn := fun _ => fun
  | [d] => { results := [.lit (.bool false)], args := [d] }
  | _ => none }
def FnExactValidTraceWrongFalsely : Prop := fnExactValidTraceRow.holds Try.pinned (OpenSpec.ofChange fnExactValidTraceWrong)

/-- 'laws.FnValidTrace': WHATEVER THE INPUT: true; the input reads as it did. -/
def fnValidTraceSpec : ChangeSpec := { name := "fnValidTrace", fn := fun _ => fun
  | [d] => { results := [.lit (.bool true)], args := [d] }
  | _ => none }
def fnValidTraceRow : OpenClaim := { program := "ytoahlfggbeijpaa", sum := "fc1bca14f3346d180e69f625e6ecba8992900d8f8b0e297e150230f57d899832", func := "loop.example/faultcleanup/laws.FnValidTrace", spec := "fnValidTrace", unfollowed := true, recurses := true, apart := false }
def FnValidTraceSaid : Prop := fnValidTraceRow.holds Try.pinned (OpenSpec.ofChange fnValidTraceSpec)

/-- ITS FALSE NEIGHBOUR: 'it returns false'. Refute it at one input. -/
def fnValidTraceWrong : ChangeSpec := { name := "fnValidTrace", fn := fun _ => fun
  | [d] => { results := [.lit (.bool false)], args := [d] }
  | _ => none }
def FnValidTraceWrongFalsely : Prop := fnValidTraceRow.holds Try.pinned (OpenSpec.ofChange fnValidTraceWrong)

/-- 'laws.FnExactCommonHead': WHATEVER THE INPUT: true; the input reads as it did. -/
def fnExactCommonHeadSpec : ChangeSpec := { name := "fnExactCommonHead", fn := fun _ => fun
  | [d1, d2] => { results := [.lit (.bool true)], args := [d1, d2] }
  | _ => none }
def fnExactCommonHeadRow : OpenClaim := { program := "ytoahlfggbeijpaa", sum := "fc1bca14f3346d180e69f625e6ecba8992900d8f8b0e297e150230f57d899832", func := "loop.example/faultcleanup/laws.FnExactCommonHead", spec := "fnExactCommonHead", unfollowed := true, recurses := true, apart := false }
def FnExactCommonHeadSaid : Prop := fnExactCommonHeadRow.holds Try.pinned (OpenSpec.ofChange fnExactCommonHeadSpec)

/-- ITS FALSE NEIGHBOUR: 'it returns false'. Refute it at one input. -/
def fnExactCommonHeadWrong : ChangeSpec := { name := "fnExactCommonHead", fn := fun _ => fun
  | [d1, d2] => { results := [.lit (.bool false)], args := [d1, d2] }
  | _ => none }
def FnExactCommonHeadWrongFalsely : Prop := fnExactCommonHeadRow.holds Try.pinned (OpenSpec.ofChange fnExactCommonHeadWrong)

/-- 'laws.FnTrimTrace': WHATEVER THE INPUT: true; the input reads as it did. -/
def fnTrimTraceSpec : ChangeSpec := { name := "fnTrimTrace", fn := fun _ => fun
  | [d] => { results := [.lit (.bool true)], args := [d] }
  | _ => none }
def fnTrimTraceRow : OpenClaim := { program := "ytoahlfggbeijpaa", sum := "fc1bca14f3346d180e69f625e6ecba8992900d8f8b0e297e150230f57d899832", func := "loop.example/faultcleanup/laws.FnTrimTrace", spec := "fnTrimTrace", unfollowed := true, recurses := true, apart := false }
def FnTrimTraceSaid : Prop := fnTrimTraceRow.holds Try.pinned (OpenSpec.ofChange fnTrimTraceSpec)

/-- ITS FALSE NEIGHBOUR: 'it returns false'. Refute it at one input. -/
def fnTrimTraceWrong : ChangeSpec := { name := "fnTrimTrace", fn := fun _ => fun
  | [d] => { results := [.lit (.bool false)], args := [d] }
  | _ => none }
def FnTrimTraceWrongFalsely : Prop := fnTrimTraceRow.holds Try.pinned (OpenSpec.ofChange fnTrimTraceWrong)

/-- 'laws.FnLessHeadSame': WHATEVER THE INPUT: true; the input reads as it did. -/
def fnLessHeadSameSpec : ChangeSpec := { name := "fnLessHeadSame", fn := fun _ => fun
  | [d] => { results := [.lit (.bool true)], args := [d] }
  | _ => none }
def fnLessHeadSameRow : OpenClaim := { program := "ytoahlfggbeijpaa", sum := "fc1bca14f3346d180e69f625e6ecba8992900d8f8b0e297e150230f57d899832", func := "loop.example/faultcleanup/laws.FnLessHeadSame", spec := "fnLessHeadSame", unfollowed := true, recurses := true, apart := false }
def FnLessHeadSameSaid : Prop := fnLessHeadSameRow.holds Try.pinned (OpenSpec.ofChange fnLessHeadSameSpec)

/-- ITS FALSE NEIGHBOUR: 'it returns false'. Refute it at one input. -/
def fnLessHeadSameWrong : ChangeSpec := { name := "fnLessHeadSame", fn := fun _ => fun
  | [d] => { results := [.lit (.bool false)], args := [d] }
  | _ => none }
def FnLessHeadSameWrongFalsely : Prop := fnLessHeadSameRow.holds Try.pinned (OpenSpec.ofChange fnLessHeadSameWrong)

/-- 'laws.FnExactLinesOf': WHATEVER THE INPUT: true; the input reads as it did. -/
def fnExactLinesOfSpec : ChangeSpec := { name := "fnExactLinesOf", fn := fun _ => fun
  | [d1, d2] => { results := [.lit (.bool true)], args := [d1, d2] }
  | _ => none }
def fnExactLinesOfRow : OpenClaim := { program := "ytoahlfggbeijpaa", sum := "fc1bca14f3346d180e69f625e6ecba8992900d8f8b0e297e150230f57d899832", func := "loop.example/faultcleanup/laws.FnExactLinesOf", spec := "fnExactLinesOf", unfollowed := true, recurses := true, apart := false }
def FnExactLinesOfSaid : Prop := fnExactLinesOfRow.holds Try.pinned (OpenSpec.ofChange fnExactLinesOfSpec)

/-- ITS FALSE NEIGHBOUR: 'it returns false'. Refute it at one input. -/
def fnExactLinesOfWrong : ChangeSpec := { name := "fnExactLinesOf", fn := fun _ => fun
  | [d1, d2] => { results := [.lit (.bool false)], args := [d1, d2] }
  | _ => none }
def FnExactLinesOfWrongFalsely : Prop := fnExactLinesOfRow.holds Try.pinned (OpenSpec.ofChange fnExactLinesOfWrong)

/-- 'laws.FnExactTrimTrace': WHATEVER THE INPUT: true; the input reads as it did. -/
def fnExactTrimTraceSpec : ChangeSpec := { name := "fnExactTrimTrace", fn := fun _ => fun
  | [d1, d2] => { results := [.lit (.bool true)], args := [d1, d2] }
  | _ => none }
def fnExactTrimTraceRow : OpenClaim := { program := "ytoahlfggbeijpaa", sum := "fc1bca14f3346d180e69f625e6ecba8992900d8f8b0e297e150230f57d899832", func := "loop.example/faultcleanup/laws.FnExactTrimTrace", spec := "fnExactTrimTrace", unfollowed := true, recurses := true, apart := false }
def FnExactTrimTraceSaid : Prop := fnExactTrimTraceRow.holds Try.pinned (OpenSpec.ofChange fnExactTrimTraceSpec)

/-- ITS FALSE NEIGHBOUR: 'it returns false'. Refute it at one input. -/
def fnExactTrimTraceWrong : ChangeSpec := { name := "fnExactTrimTrace", fn := fun _ => fun
  | [d1, d2] => { results := [.lit (.bool false)], args := [d1, d2] }
  | _ => none }
def FnExactTrimTraceWrongFalsely : Prop := fnExactTrimTraceRow.holds Try.pinned (OpenSpec.ofChange fnExactTrimTraceWrong)

/-- 'laws.FnExactLessHead': WHATEVER THE INPUT: true; the input reads as it did. -/
def fnExactLessHeadSpec : ChangeSpec := { name := "fnExactLessHead", fn := fun _ => fun
  | [d1, d2] => { results := [.lit (.bool true)], args := [d1, d2] }
  | _ => none }
def fnExactLessHeadRow : OpenClaim := { program := "ytoahlfggbeijpaa", sum := "fc1bca14f3346d180e69f625e6ecba8992900d8f8b0e297e150230f57d899832", func := "loop.example/faultcleanup/laws.FnExactLessHead", spec := "fnExactLessHead", unfollowed := true, recurses := true, apart := false }
def FnExactLessHeadSaid : Prop := fnExactLessHeadRow.holds Try.pinned (OpenSpec.ofChange fnExactLessHeadSpec)

/-- ITS FALSE NEIGHBOUR: 'it returns false'. Refute it at one input. -/
def fnExactLessHeadWrong : ChangeSpec := { name := "fnExactLessHead", fn := fun _ => fun
  | [d1, d2] => { results := [.lit (.bool false)], args := [d1, d2] }
  | _ => none }
def FnExactLessHeadWrongFalsely : Prop := fnExactLessHeadRow.holds Try.pinned (OpenSpec.ofChange fnExactLessHeadWrong)

/-- 'laws.FnCommonHead': WHATEVER THE INPUT: true; the input reads as it did. -/
def fnCommonHeadSpec : ChangeSpec := { name := "fnCommonHead", fn := fun _ => fun
  | [d] => { results := [.lit (.bool true)], args := [d] }
  | _ => none }
def fnCommonHeadRow : OpenClaim := { program := "ytoahlfggbeijpaa", sum := "fc1bca14f3346d180e69f625e6ecba8992900d8f8b0e297e150230f57d899832", func := "loop.example/faultcleanup/laws.FnCommonHead", spec := "fnCommonHead", unfollowed := true, recurses := true, apart := false }
def FnCommonHeadSaid : Prop := fnCommonHeadRow.holds Try.pinned (OpenSpec.ofChange fnCommonHeadSpec)

/-- ITS FALSE NEIGHBOUR: 'it returns false'. Refute it at one input. -/
def fnCommonHeadWrong : ChangeSpec := { name := "fnCommonHead", fn := fun _ => fun
  | [d] => { results := [.lit (.bool false)], args := [d] }
  | _ => none }
def FnCommonHeadWrongFalsely : Prop := fnCommonHeadRow.holds Try.pinned (OpenSpec.ofChange fnCommonHeadWrong)

/-- 'laws.FnExactInnerTrace': WHATEVER THE INPUT: true; the input reads as it did. -/
def fnExactInnerTraceSpec : ChangeSpec := { name := "fnExactInnerTrace", fn := fun _ => fun
  | [d1, d2] => { results := [.lit (.bool true)], args := [d1, d2] }
  | _ => none }
def fnExactInnerTraceRow : OpenClaim := { program := "ytoahlfggbeijpaa", sum := "fc1bca14f3346d180e69f625e6ecba8992900d8f8b0e297e150230f57d899832", func := "loop.example/faultcleanup/laws.FnExactInnerTrace", spec := "fnExactInnerTrace", unfollowed := true, recurses := true, apart := false }
def FnExactInnerTraceSaid : Prop := fnExactInnerTraceRow.holds Try.pinned (OpenSpec.ofChange fnExactInnerTraceSpec)

/-- ITS FALSE NEIGHBOUR: 'it returns false'. Refute it at one input. -/
def fnExactInnerTraceWrong : ChangeSpec := { name := "fnExactInnerTrace", fn := fun _ => fun
  | [d1, d2] => { results := [.lit (.bool false)], args := [d1, d2] }
  | _ => none }
def FnExactInnerTraceWrongFalsely : Prop := fnExactInnerTraceRow.holds Try.pinned (OpenSpec.ofChange fnExactInnerTraceWrong)

/-- 'laws.FnLinesOf': WHATEVER THE INPUT: true; the input reads as it did. -/
def fnLinesOfSpec : ChangeSpec := { name := "fnLinesOf", fn := fun _ => fun
  | [d] => { results := [.lit (.bool true)], args := [d] }
  | _ => none }
def fnLinesOfRow : OpenClaim := { program := "ytoahlfggbeijpaa", sum := "fc1bca14f3346d180e69f625e6ecba8992900d8f8b0e297e150230f57d899832", func := "loop.example/faultcleanup/laws.FnLinesOf", spec := "fnLinesOf", unfollowed := true, recurses := true, apart := false }
def FnLinesOfSaid : Prop := fnLinesOfRow.holds Try.pinned (OpenSpec.ofChange fnLinesOfSpec)

/-- ITS FALSE NEIGHBOUR: 'it returns false'. Refute it at one input. -/
def fnLinesOfWrong : ChangeSpec := { name := "fnLinesOf", fn := fun _ => fun
  | [d] => { results := [.lit (.bool false)], args := [d] }
  | _ => none }
def FnLinesOfWrongFalsely : Prop := fnLinesOfRow.holds Try.pinned (OpenSpec.ofChange fnLinesOfWrong)

/-- 'laws.FnInnerTrace': WHATEVER THE INPUT: true; the input reads as it did. -/
def fnInnerTraceSpec : ChangeSpec := { name := "fnInnerTrace", fn := fun _ => fun
  | [d] => { results := [.lit (.bool true)], args := [d] }
  | _ => none }
def fnInnerTraceRow : OpenClaim := { program := "ytoahlfggbeijpaa", sum := "fc1bca14f3346d180e69f625e6ecba8992900d8f8b0e297e150230f57d899832", func := "loop.example/faultcleanup/laws.FnInnerTrace", spec := "fnInnerTrace", unfollowed := true, recurses := true, apart := false }
def FnInnerTraceSaid : Prop := fnInnerTraceRow.holds Try.pinned (OpenSpec.ofChange fnInnerTraceSpec)

/-- ITS FALSE NEIGHBOUR: 'it returns false'. Refute it at one input. -/
def fnInnerTraceWrong : ChangeSpec := { name := "fnInnerTrace", fn := fun _ => fun
  | [d] => { results := [.lit (.bool false)], args := [d] }
  | _ => none }
def FnInnerTraceWrongFalsely : Prop := fnInnerTraceRow.holds Try.pinned (OpenSpec.ofChange fnInnerTraceWrong)

/- THE SECOND FORM. 'bulk': how many values and letters a reading holds, each counted each time it is reached (what is shared counts as often as it is met; a slice's spare places count too). A statement '..UptoSaid' is the law's where the arguments, and the package variables that the reading takes, are together of bulk at most 1048576: NARROWER than '..Said'. Prove '..Said' where nothing that the law and all that it calls make is longer than what came in: it says more and counts as full. Else prove '..UptoSaid'. A law counts once. -/
mutual
def uptoBulk {H : Type} : DataW H → Nat
  | .lit (.string bytes) => bytes.length + 1
  | .lit _ => 1
  | .nil => 1
  | .ptr d => uptoBulk d + 1
  | .slice elems spare => uptoBulkAll elems + uptoBulkAll spare + 1
  | .agg parts => uptoBulkAll parts + 1
  | .iface _ d => uptoBulk d + 1
  | .map entries => uptoBulkEntries entries + 1
  | .held _ => 1
def uptoBulkAll {H : Type} : List (DataW H) → Nat
  | [] => 0
  | d :: r => uptoBulk d + uptoBulkAll r
def uptoBulkEntries {H : Type} : List (Lit × DataW H) → Nat
  | [] => 0
  | x :: r => uptoBulkEntry x + uptoBulkEntries r
def uptoBulkEntry {H : Type} : Lit × DataW H → Nat
  | (.string bytes, d) => bytes.length + uptoBulk d + 1
  | (_, d) => uptoBulk d + 1
 end
def uptoSmall : (H : Type) → List (DataW H) → Bool := fun _ ds => decide (uptoBulkAll ds ≤ 1048576)
def OpenSpec.upto (s : _root_.Go.ChangeSpec) : _root_.Go.OpenSpec := { _root_.Go.OpenSpec.ofChange s with cond := some uptoSmall }

/-- 'laws.FnExactValidTrace', WHERE WHAT IT READS IS OF BULK AT MOST 1048576: true; the input reads as it did. -/
def fnExactValidTraceUptoRow : OpenClaim := { program := "ytoahlfggbeijpaa", sum := "fc1bca14f3346d180e69f625e6ecba8992900d8f8b0e297e150230f57d899832", func := "loop.example/faultcleanup/laws.FnExactValidTrace", spec := "fnExactValidTrace", unfollowed := true, recurses := true, apart := false, narrowed := true }
def FnExactValidTraceUptoSaid : Prop := fnExactValidTraceUptoRow.holds Try.pinned (OpenSpec.upto fnExactValidTraceSpec)

/-- 'laws.FnValidTrace', WHERE WHAT IT READS IS OF BULK AT MOST 1048576: true; the input reads as it did. -/
def fnValidTraceUptoRow : OpenClaim := { program := "ytoahlfggbeijpaa", sum := "fc1bca14f3346d180e69f625e6ecba8992900d8f8b0e297e150230f57d899832", func := "loop.example/faultcleanup/laws.FnValidTrace", spec := "fnValidTrace", unfollowed := true, recurses := true, apart := false, narrowed := true }
def FnValidTraceUptoSaid : Prop := fnValidTraceUptoRow.holds Try.pinned (OpenSpec.upto fnValidTraceSpec)

/-- 'laws.FnExactCommonHead', WHERE WHAT IT READS IS OF BULK AT MOST 1048576: true; the input reads as it did. -/
def fnExactCommonHeadUptoRow : OpenClaim := { program := "ytoahlfggbeijpaa", sum := "fc1bca14f3346d180e69f625e6ecba8992900d8f8b0e297e150230f57d899832", func := "loop.example/faultcleanup/laws.FnExactCommonHead", spec := "fnExactCommonHead", unfollowed := true, recurses := true, apart := false, narrowed := true }
def FnExactCommonHeadUptoSaid : Prop := fnExactCommonHeadUptoRow.holds Try.pinned (OpenSpec.upto fnExactCommonHeadSpec)

/-- 'laws.FnTrimTrace', WHERE WHAT IT READS IS OF BULK AT MOST 1048576: true; the input reads as it did. -/
def fnTrimTraceUptoRow : OpenClaim := { program := "ytoahlfggbeijpaa", sum := "fc1bca14f3346d180e69f625e6ecba8992900d8f8b0e297e150230f57d899832", func := "loop.example/faultcleanup/laws.FnTrimTrace", spec := "fnTrimTrace", unfollowed := true, recurses := true, apart := false, narrowed := true }
def FnTrimTraceUptoSaid : Prop := fnTrimTraceUptoRow.holds Try.pinned (OpenSpec.upto fnTrimTraceSpec)

/-- 'laws.FnLessHeadSame', WHERE WHAT IT READS IS OF BULK AT MOST 1048576: true; the input reads as it did. -/
def fnLessHeadSameUptoRow : OpenClaim := { program := "ytoahlfggbeijpaa", sum := "fc1bca14f3346d180e69f625e6ecba8992900d8f8b0e297e150230f57d899832", func := "loop.example/faultcleanup/laws.FnLessHeadSame", spec := "fnLessHeadSame", unfollowed := true, recurses := true, apart := false, narrowed := true }
def FnLessHeadSameUptoSaid : Prop := fnLessHeadSameUptoRow.holds Try.pinned (OpenSpec.upto fnLessHeadSameSpec)

/-- 'laws.FnExactLinesOf', WHERE WHAT IT READS IS OF BULK AT MOST 1048576: true; the input reads as it did. -/
def fnExactLinesOfUptoRow : OpenClaim := { program := "ytoahlfggbeijpaa", sum := "fc1bca14f3346d180e69f625e6ecba8992900d8f8b0e297e150230f57d899832", func := "loop.example/faultcleanup/laws.FnExactLinesOf", spec := "fnExactLinesOf", unfollowed := true, recurses := true, apart := false, narrowed := true }
def FnExactLinesOfUptoSaid : Prop := fnExactLinesOfUptoRow.holds Try.pinned (OpenSpec.upto fnExactLinesOfSpec)

/-- 'laws.FnExactTrimTrace', WHERE WHAT IT READS IS OF BULK AT MOST 1048576: true; the input reads as it did. -/
def fnExactTrimTraceUptoRow : OpenClaim := { program := "ytoahlfggbeijpaa", sum := "fc1bca14f3346d180e69f625e6ecba8992900d8f8b0e297e150230f57d899832", func := "loop.example/faultcleanup/laws.FnExactTrimTrace", spec := "fnExactTrimTrace", unfollowed := true, recurses := true, apart := false, narrowed := true }
def FnExactTrimTraceUptoSaid : Prop := fnExactTrimTraceUptoRow.holds Try.pinned (OpenSpec.upto fnExactTrimTraceSpec)

/-- 'laws.FnExactLessHead', WHERE WHAT IT READS IS OF BULK AT MOST 1048576: true; the input reads as it did. -/
def fnExactLessHeadUptoRow : OpenClaim := { program := "ytoahlfggbeijpaa", sum := "fc1bca14f3346d180e69f625e6ecba8992900d8f8b0e297e150230f57d899832", func := "loop.example/faultcleanup/laws.FnExactLessHead", spec := "fnExactLessHead", unfollowed := true, recurses := true, apart := false, narrowed := true }
def FnExactLessHeadUptoSaid : Prop := fnExactLessHeadUptoRow.holds Try.pinned (OpenSpec.upto fnExactLessHeadSpec)

/-- 'laws.FnCommonHead', WHERE WHAT IT READS IS OF BULK AT MOST 1048576: true; the input reads as it did. -/
def fnCommonHeadUptoRow : OpenClaim := { program := "ytoahlfggbeijpaa", sum := "fc1bca14f3346d180e69f625e6ecba8992900d8f8b0e297e150230f57d899832", func := "loop.example/faultcleanup/laws.FnCommonHead", spec := "fnCommonHead", unfollowed := true, recurses := true, apart := false, narrowed := true }
def FnCommonHeadUptoSaid : Prop := fnCommonHeadUptoRow.holds Try.pinned (OpenSpec.upto fnCommonHeadSpec)

/-- 'laws.FnExactInnerTrace', WHERE WHAT IT READS IS OF BULK AT MOST 1048576: true; the input reads as it did. -/
def fnExactInnerTraceUptoRow : OpenClaim := { program := "ytoahlfggbeijpaa", sum := "fc1bca14f3346d180e69f625e6ecba8992900d8f8b0e297e150230f57d899832", func := "loop.example/faultcleanup/laws.FnExactInnerTrace", spec := "fnExactInnerTrace", unfollowed := true, recurses := true, apart := false, narrowed := true }
def FnExactInnerTraceUptoSaid : Prop := fnExactInnerTraceUptoRow.holds Try.pinned (OpenSpec.upto fnExactInnerTraceSpec)

/-- 'laws.FnLinesOf', WHERE WHAT IT READS IS OF BULK AT MOST 1048576: true; the input reads as it did. -/
def fnLinesOfUptoRow : OpenClaim := { program := "ytoahlfggbeijpaa", sum := "fc1bca14f3346d180e69f625e6ecba8992900d8f8b0e297e150230f57d899832", func := "loop.example/faultcleanup/laws.FnLinesOf", spec := "fnLinesOf", unfollowed := true, recurses := true, apart := false, narrowed := true }
def FnLinesOfUptoSaid : Prop := fnLinesOfUptoRow.holds Try.pinned (OpenSpec.upto fnLinesOfSpec)

/-- 'laws.FnInnerTrace', WHERE WHAT IT READS IS OF BULK AT MOST 1048576: true; the input reads as it did. -/
def fnInnerTraceUptoRow : OpenClaim := { program := "ytoahlfggbeijpaa", sum := "fc1bca14f3346d180e69f625e6ecba8992900d8f8b0e297e150230f57d899832", func := "loop.example/faultcleanup/laws.FnInnerTrace", spec := "fnInnerTrace", unfollowed := true, recurses := true, apart := false, narrowed := true }
def FnInnerTraceUptoSaid : Prop := fnInnerTraceUptoRow.holds Try.pinned (OpenSpec.upto fnInnerTraceSpec)

end Rows
end Go.Proofs.Ytoahlfggbeijpaa
