/-
  No cell of these rows narrows 'for every input' (looked for: loops, veiled, ifaces, maps, wideKeys, modest, calm, conditions, laid).
  DERIVED. THE GIVEN ROWS OF THIS SEAT. 5 by the template 'for every input the law returns true; each argument reads behind the call as it read before'; 0 by the template 'total and deterministic' (their statements: YtcbbflemaefeeaaTotals.lean).
  GIVEN WITH THE SEED: the statements are not yours to turn. If you find one false, say at which input.
  Laid BY PROGRAM, IN A SANDBOX (cutbox-rows.mjs): the forced cells as the released guide's own fill.sh prints them over the translation 506df593f220b999… (all of the seat's roots in one cut). By AI agents, Wed Nov 11 2026. No macro, syntax, notation, axiom, sorry.
-/
import Derived.Test.YtcbbflemaefeeaaChecked
import GoSem.Claim
import GoSem.ClaimJoined
import GoSem.ClaimMapViews
import Derived.JoinedTies
import Derived.KernelRfl
namespace Go.Proofs.Ytcbbflemaefeeaa
/- THE CELL 'sum', in the pinned program and in every row, IS THE sha256 OF THE DUMP (.gsa) THAT YtcbbflemaefeeaaProg.lean LOADS. Nothing in Lean hashes anything: it is a label: what it is worth is what the hold of that sum in a sandbox is worth. -/
noncomputable def Try.pinned : Pinned := { name := "ytcbbflemaefeeaa", sum := "506df593f220b999b828a2d541a8139b3050db5dc30e88501aefd8edd22596d0", checked := Try.checked }
namespace Rows
def none {H : Type} : Left H := { results := [], args := [] }

/-- 'laws.FnExactValidGroup': WHATEVER THE INPUT: true; the input reads as it did. -/
def fnExactValidGroupSpec : ChangeSpec := { name := "fnExactValidGroup", fn := fun _ => fun
  | [d1, d2] => { results := [.lit (.bool true)], args := [d1, d2] }
  | _ => none }
def fnExactValidGroupRow : OpenClaim := { program := "ytcbbflemaefeeaa", sum := "506df593f220b999b828a2d541a8139b3050db5dc30e88501aefd8edd22596d0", func := "loop.example/faultcleanup/laws.FnExactValidGroup", spec := "fnExactValidGroup", unfollowed := true, recurses := true, apart := false }
def FnExactValidGroupSaid : Prop := fnExactValidGroupRow.holds Try.pinned (OpenSpec.ofChange fnExactValidGroupSpec)

/-- ITS FALSE NEIGHBOUR: 'it returns false'. Refute it at one input. -/
def fnExactValidGroupWrong : ChangeSpec := { name := "fnExactValidGroup", fn := fun _ => fun
  | [d1, d2] => { results := [.lit (.bool false)], args := [d1, d2] }
  | _ => none }
def FnExactValidGroupWrongFalsely : Prop := fnExactValidGroupRow.holds Try.pinned (OpenSpec.ofChange fnExactValidGroupWrong)

/-- 'laws.FnValidGroup': WHATEVER THE INPUT: true; the input reads as it did. -/
def fnValidGroupSpec : ChangeSpec := { name := "fnValidGroup", fn := fun _ => fun
  | [d] => { results := [.lit (.bool true)], args := [d] }
  | _ => none }
def fnValidGroupRow : OpenClaim := { program := "ytcbbflemaefeeaa", sum := "506df593f220b999b828a2d541a8139b3050db5dc30e88501aefd8edd22596d0", func := "loop.example/faultcleanup/laws.FnValidGroup", spec := "fnValidGroup", unfollowed := true, recurses := true, apart := false }
def FnValidGroupSaid : Prop := fnValidGroupRow.holds Try.pinned (OpenSpec.ofChange fnValidGroupSpec)

/-- ITS FALSE NEIGHBOUR: 'it returns false'. Refute it at one input. -/
def fnValidGroupWrong : ChangeSpec := { name := "fnValidGroup", fn := fun _ => fun
  | [d] => { results := [.lit (.bool false)], args := [d] }
  | _ => none }
def FnValidGroupWrongFalsely : Prop := fnValidGroupRow.holds Try.pinned (OpenSpec.ofChange fnValidGroupWrong)

/-- 'laws.FnGroupDepth': WHATEVER THE INPUT: true; the input reads as it did. -/
def fnGroupDepthSpec : ChangeSpec := { name := "fnGroupDepth", fn := fun _ => fun
  | [d] => { results := [.lit (.bool true)], args := [d] }
  | _ => none }
def fnGroupDepthRow : OpenClaim := { program := "ytcbbflemaefeeaa", sum := "506df593f220b999b828a2d541a8139b3050db5dc30e88501aefd8edd22596d0", func := "loop.example/faultcleanup/laws.FnGroupDepth", spec := "fnGroupDepth", unfollowed := true, recurses := true, apart := false }
def FnGroupDepthSaid : Prop := fnGroupDepthRow.holds Try.pinned (OpenSpec.ofChange fnGroupDepthSpec)

/-- ITS FALSE NEIGHBOUR: 'it returns false'. Refute it at one input. -/
def fnGroupDepthWrong : ChangeSpec := { name := "fnGroupDepth", fn := fun _ => fun
  | [d] => { results := [.lit (.bool false)], args := [d] }
  | _ => none }
def FnGroupDepthWrongFalsely : Prop := fnGroupDepthRow.holds Try.pinned (OpenSpec.ofChange fnGroupDepthWrong)

/-- 'laws.FnExactGroupDepth': WHATEVER THE INPUT: true; the input reads as it did. -/
def fnExactGroupDepthSpec : ChangeSpec := { name := "fnExactGroupDepth", fn := fun _ => fun
  | [d1, d2] => { results := [.lit (.bool true)], args := [d1, d2] }
  | _ => none }
def fnExactGroupDepthRow : OpenClaim := { program := "ytcbbflemaefeeaa", sum := "506df593f220b999b828a2d541a8139b3050db5dc30e88501aefd8edd22596d0", func := "loop.example/faultcleanup/laws.FnExactGroupDepth", spec := "fnExactGroupDepth", unfollowed := true, recurses := true, apart := false }
def FnExactGroupDepthSaid : Prop := fnExactGroupDepthRow.holds Try.pinned (OpenSpec.ofChange fnExactGroupDepthSpec)

/-- ITS FALSE NEIGHBOUR: 'it returns false'. Refute it at one input. -/
def fnExactGroupDepthWrong : ChangeSpec := { name := "fnExactGroupDepth", fn := fun _ => fun
  | [d1, d2] => { results := [.lit (.bool false)], args := [d1, d2] }
  | _ => none }
def FnExactGroupDepthWrongFalsely : Prop := fnExactGroupDepthRow.holds Try.pinned (OpenSpec.ofChange fnExactGroupDepthWrong)

/-- 'laws.FnLeavesOf': WHATEVER THE INPUT: true; the input reads as it did. -/
def fnLeavesOfSpec : ChangeSpec := { name := "fnLeavesOf", fn := fun _ => fun
  | [d] => { results := [.lit (.bool true)], args := [d] }
  | _ => none }
def fnLeavesOfRow : OpenClaim := { program := "ytcbbflemaefeeaa", sum := "506df593f220b999b828a2d541a8139b3050db5dc30e88501aefd8edd22596d0", func := "loop.example/faultcleanup/laws.FnLeavesOf", spec := "fnLeavesOf", unfollowed := true, recurses := true, apart := false }
def FnLeavesOfSaid : Prop := fnLeavesOfRow.holds Try.pinned (OpenSpec.ofChange fnLeavesOfSpec)

/-- ITS FALSE NEIGHBOUR: 'it returns false'. Refute it at one input. -/
def fnLeavesOfWrong : ChangeSpec := { name := "fnLeavesOf", fn := fun _ => fun
  | [d] => { results := [.lit (.bool false)], args := [d] }
  | _ => none }
def FnLeavesOfWrongFalsely : Prop := fnLeavesOfRow.holds Try.pinned (OpenSpec.ofChange fnLeavesOfWrong)

/- THE SECOND FORM. 'bulk': how many values and letters a reading holds, each counted each time it is reached (what is shared counts as often as it is met; a slice's spare places count too). A statement '..UptoSaid' is the law's where the arguments, and the package variables that the reading takes, are together of bulk at most 1048576: NARROWER than '..Said'. Prove '..Said' where nothing that the law and all that it calls make is longer than what came in: it says more and counts as full. Else prove '..UptoSaid'. A law counts once. -/
mutual
def uptoBulk {H : Type} : DataW H → Nat
  | .lit (.string bytes) => bytes.length + 1
  | .lit _ => 1
  | .nil => 1
  | .ptr d => uptoBulk d + 1
  | .slice elems spare => uptoBulkAll elems + uptoBulkAll spare + 1
  | .agg parts => uptoBulkAll parts + 1
  | .iface _ d => uptoBulk d + 1
  | .map entries => uptoBulkEntries entries + 1
  | .held _ => 1
def uptoBulkAll {H : Type} : List (DataW H) → Nat
  | [] => 0
  | d :: r => uptoBulk d + uptoBulkAll r
def uptoBulkEntries {H : Type} : List (Lit × DataW H) → Nat
  | [] => 0
  | x :: r => uptoBulkEntry x + uptoBulkEntries r
def uptoBulkEntry {H : Type} : Lit × DataW H → Nat
  | (.string bytes, d) => bytes.length + uptoBulk d + 1
  | (_, d) => uptoBulk d + 1
 end
def uptoSmall : (H : Type) → List (DataW H) → Bool := fun _ ds => decide (uptoBulkAll ds ≤ 1048576)
def OpenSpec.upto (s : _root_.Go.ChangeSpec) : _root_.Go.OpenSpec := { _root_.Go.OpenSpec.ofChange s with cond := some uptoSmall }

/-- 'laws.FnExactValidGroup', WHERE WHAT IT READS IS OF BULK AT MOST 1048576: true; the input reads as it did. -/
def fnExactValidGroupUptoRow : OpenClaim := { program := "ytcbbflemaefeeaa", sum := "506df593f220b999b828a2d541a8139b3050db5dc30e88501aefd8edd22596d0", func := "loop.example/faultcleanup/laws.FnExactValidGroup", spec := "fnExactValidGroup", unfollowed := true, recurses := true, apart := false, narrowed := true }
def FnExactValidGroupUptoSaid : Prop := fnExactValidGroupUptoRow.holds Try.pinned (OpenSpec.upto fnExactValidGroupSpec)

/-- 'laws.FnValidGroup', WHERE WHAT IT READS IS OF BULK AT MOST 1048576: true; the input reads as it did. -/
def fnValidGroupUptoRow : OpenClaim := { program := "ytcbbflemaefeeaa", sum := "506df593f220b999b828a2d541a8139b3050db5dc30e88501aefd8edd22596d0", func := "loop.example/faultcleanup/laws.FnValidGroup", spec := "fnValidGroup", unfollowed := true, recurses := true, apart := false, narrowed := true }
def FnValidGroupUptoSaid : Prop := fnValidGroupUptoRow.holds Try.pinned (OpenSpec.upto fnValidGroupSpec)

/-- 'laws.FnGroupDepth', WHERE WHAT IT READS IS OF BULK AT MOST 1048576: true; the input reads as it did. -/
def fnGroupDepthUptoRow : OpenClaim := { program := "ytcbbflemaefeeaa", sum := "506df593f220b999b828a2d541a8139b3050db5dc30e88501aefd8edd22596d0", func := "loop.example/faultcleanup/laws.FnGroupDepth", spec := "fnGroupDepth", unfollowed := true, recurses := true, apart := false, narrowed := true }
def FnGroupDepthUptoSaid : Prop := fnGroupDepthUptoRow.holds Try.pinned (OpenSpec.upto fnGroupDepthSpec)

/-- 'laws.FnExactGroupDepth', WHERE WHAT IT READS IS OF BULK AT MOST 1048576: true; the input reads as it did. -/
def fnExactGroupDepthUptoRow : OpenClaim := { program := "ytcbbflemaefeeaa", sum := "506df593f220b999b828a2d541a8139b3050db5dc30e88501aefd8edd22596d0", func := "loop.example/faultcleanup/laws.FnExactGroupDepth", spec := "fnExactGroupDepth", unfollowed := true, recurses := true, apart := false, narrowed := true }
def FnExactGroupDepthUptoSaid : Prop := fnExactGroupDepthUptoRow.holds Try.pinned (OpenSpec.upto fnExactGroupDepthSpec)

/-- 'laws.FnLeavesOf', WHERE WHAT IT READS IS OF BULK AT MOST 1048576: true; the input reads as it did. -/
def fnLeavesOfUptoRow : OpenClaim := { program := "ytcbbflemaefeeaa", sum := "506df593f220b999b828a2d541a8139b3050db5dc30e88501aefd8edd22596d0", func := "loop.example/faultcleanup/laws.FnLeavesOf", spec := "fnLeavesOf", unfollowed := true, recurses := true, apart := false, narrowed := true }
def FnLeavesOfUptoSaid : Prop := fnLeavesOfUptoRow.holds Try.pinned (OpenSpec.upto fnLeavesOfSpec)

end Rows
end Go.Proofs.Ytcbbflemaefeeaa
