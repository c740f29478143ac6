/-
  No cell of these rows narrows 'for every input' (looked for: loops, veiled, ifaces, maps, wideKeys, modest, calm, conditions, laid).
  DERIVED. THE GIVEN ROWS OF THIS SEAT. 8 by the template 'for every input the law returns true; each argument reads behind the call as it read before'; 0 by the template 'total and deterministic' (their statements: YtihglabpnladoaaTotals.lean).
  GIVEN WITH THE SEED: the statements are not yours to turn. If you find one false, say at which input.
  Laid BY PROGRAM, IN A SANDBOX (cutbox-rows.mjs): the forced cells as the released guide's own fill.sh prints them over the translation 778b4f9c24d2544d… (all of the seat's roots in one cut). By AI agents, Wed Nov 11 2026. No macro, syntax, notation, axiom, sorry.
-/
import Derived.Test.YtihglabpnladoaaChecked
import GoSem.Claim
import GoSem.ClaimJoined
import GoSem.ClaimMapViews
import Derived.JoinedTies
import Derived.KernelRfl
namespace Go.Proofs.Ytihglabpnladoaa
/- THE CELL 'sum', in the pinned program and in every row, IS THE sha256 OF THE DUMP (.gsa) THAT YtihglabpnladoaaProg.lean LOADS. Nothing in Lean hashes anything: it is a label: what it is worth is what the hold of that sum in a sandbox is worth. -/
noncomputable def Try.pinned : Pinned := { name := "ytihglabpnladoaa", sum := "778b4f9c24d2544d5ed2fde452e9a3d28492de67f7d62e72c95aa043fead6d2c", checked := Try.checked }
namespace Rows
def none {H : Type} : Left H := { results := [], args := [] }

/-- 'laws.FnExactConstants': WHATEVER THE INPUT: true; the input reads as it did. -/
def fnExactConstantsSpec : ChangeSpec := { name := "fnExactConstants", fn := fun _ => fun
  | [] => { results := [.lit (.bool true)], args := [] }
  | _ => none }
def fnExactConstantsRow : OpenClaim := { program := "ytihglabpnladoaa", sum := "778b4f9c24d2544d5ed2fde452e9a3d28492de67f7d62e72c95aa043fead6d2c", func := "loop.example/faultcleanup/laws.FnExactConstants", spec := "fnExactConstants", apart := false }
def FnExactConstantsSaid : Prop := fnExactConstantsRow.holds Try.pinned (OpenSpec.ofChange fnExactConstantsSpec)

/-- ITS FALSE NEIGHBOUR: 'it returns false'. Refute it at one input. -/
def fnExactConstantsWrong : ChangeSpec := { name := "fnExactConstants", fn := fun _ => fun
  | [] => { results := [.lit (.bool false)], args := [] }
  | _ => none }
def FnExactConstantsWrongFalsely : Prop := fnExactConstantsRow.holds Try.pinned (OpenSpec.ofChange fnExactConstantsWrong)

/-- 'laws.FnValidTree': WHATEVER THE INPUT: true; the input reads as it did. -/
def fnValidTreeSpec : ChangeSpec := { name := "fnValidTree", fn := fun _ => fun
  | [d] => { results := [.lit (.bool true)], args := [d] }
  | _ => none }
def fnValidTreeRow : OpenClaim := { program := "ytihglabpnladoaa", sum := "778b4f9c24d2544d5ed2fde452e9a3d28492de67f7d62e72c95aa043fead6d2c", func := "loop.example/faultcleanup/laws.FnValidTree", spec := "fnValidTree", unfollowed := true, recurses := true, apart := false }
def FnValidTreeSaid : Prop := fnValidTreeRow.holds Try.pinned (OpenSpec.ofChange fnValidTreeSpec)

/-- ITS FALSE NEIGHBOUR: 'it returns false'. Refute it at one input. -/
def fnValidTreeWrong : ChangeSpec := { name := "fnValidTree", fn := fun _ => fun
  | [d] => { results := [.lit (.bool false)], args := [d] }
  | _ => none }
def FnValidTreeWrongFalsely : Prop := fnValidTreeRow.holds Try.pinned (OpenSpec.ofChange fnValidTreeWrong)

/-- 'laws.FnClassNamed': WHATEVER THE INPUT: true; the input reads as it did. -/
def fnClassNamedSpec : ChangeSpec := { name := "fnClassNamed", fn := fun _ => fun
  | [d] => { results := [.lit (.bool true)], args := [d] }
  | _ => none }
def fnClassNamedRow : OpenClaim := { program := "ytihglabpnladoaa", sum := "778b4f9c24d2544d5ed2fde452e9a3d28492de67f7d62e72c95aa043fead6d2c", func := "loop.example/faultcleanup/laws.FnClassNamed", spec := "fnClassNamed", unfollowed := true, recurses := true, apart := false }
def FnClassNamedSaid : Prop := fnClassNamedRow.holds Try.pinned (OpenSpec.ofChange fnClassNamedSpec)

/-- ITS FALSE NEIGHBOUR: 'it returns false'. Refute it at one input. -/
def fnClassNamedWrong : ChangeSpec := { name := "fnClassNamed", fn := fun _ => fun
  | [d] => { results := [.lit (.bool false)], args := [d] }
  | _ => none }
def FnClassNamedWrongFalsely : Prop := fnClassNamedRow.holds Try.pinned (OpenSpec.ofChange fnClassNamedWrong)

/-- 'laws.FnExactValidTree': WHATEVER THE INPUT: true; the input reads as it did. -/
def fnExactValidTreeSpec : ChangeSpec := { name := "fnExactValidTree", fn := fun _ => fun
  | [d] => { results := [.lit (.bool true)], args := [d] }
  | _ => none }
def fnExactValidTreeRow : OpenClaim := { program := "ytihglabpnladoaa", sum := "778b4f9c24d2544d5ed2fde452e9a3d28492de67f7d62e72c95aa043fead6d2c", func := "loop.example/faultcleanup/laws.FnExactValidTree", spec := "fnExactValidTree", unfollowed := true, recurses := true, apart := false }
def FnExactValidTreeSaid : Prop := fnExactValidTreeRow.holds Try.pinned (OpenSpec.ofChange fnExactValidTreeSpec)

/-- ITS FALSE NEIGHBOUR: 'it returns false'. Refute it at one input. -/
def fnExactValidTreeWrong : ChangeSpec := { name := "fnExactValidTree", fn := fun _ => fun
  | [d] => { results := [.lit (.bool false)], args := [d] }
  | _ => none }
def FnExactValidTreeWrongFalsely : Prop := fnExactValidTreeRow.holds Try.pinned (OpenSpec.ofChange fnExactValidTreeWrong)

/-- 'laws.FnExactClassNamed': WHATEVER THE INPUT: true; the input reads as it did. -/
def fnExactClassNamedSpec : ChangeSpec := { name := "fnExactClassNamed", fn := fun _ => fun
  | [d1, d2] => { results := [.lit (.bool true)], args := [d1, d2] }
  | _ => none }
def fnExactClassNamedRow : OpenClaim := { program := "ytihglabpnladoaa", sum := "778b4f9c24d2544d5ed2fde452e9a3d28492de67f7d62e72c95aa043fead6d2c", func := "loop.example/faultcleanup/laws.FnExactClassNamed", spec := "fnExactClassNamed", unfollowed := true, recurses := true, apart := false }
def FnExactClassNamedSaid : Prop := fnExactClassNamedRow.holds Try.pinned (OpenSpec.ofChange fnExactClassNamedSpec)

/-- ITS FALSE NEIGHBOUR: 'it returns false'. Refute it at one input. -/
def fnExactClassNamedWrong : ChangeSpec := { name := "fnExactClassNamed", fn := fun _ => fun
  | [d1, d2] => { results := [.lit (.bool false)], args := [d1, d2] }
  | _ => none }
def FnExactClassNamedWrongFalsely : Prop := fnExactClassNamedRow.holds Try.pinned (OpenSpec.ofChange fnExactClassNamedWrong)

/-- 'laws.FnAboveOf': WHATEVER THE INPUT: true; the input reads as it did. -/
def fnAboveOfSpec : ChangeSpec := { name := "fnAboveOf", fn := fun _ => fun
  | [d] => { results := [.lit (.bool true)], args := [d] }
  | _ => none }
def fnAboveOfRow : OpenClaim := { program := "ytihglabpnladoaa", sum := "778b4f9c24d2544d5ed2fde452e9a3d28492de67f7d62e72c95aa043fead6d2c", func := "loop.example/faultcleanup/laws.FnAboveOf", spec := "fnAboveOf", unfollowed := true, recurses := true, apart := false }
def FnAboveOfSaid : Prop := fnAboveOfRow.holds Try.pinned (OpenSpec.ofChange fnAboveOfSpec)

/-- ITS FALSE NEIGHBOUR: 'it returns false'. Refute it at one input. -/
def fnAboveOfWrong : ChangeSpec := { name := "fnAboveOf", fn := fun _ => fun
  | [d] => { results := [.lit (.bool false)], args := [d] }
  | _ => none }
def FnAboveOfWrongFalsely : Prop := fnAboveOfRow.holds Try.pinned (OpenSpec.ofChange fnAboveOfWrong)

/-- 'laws.FnExactAboveOf': WHATEVER THE INPUT: true; the input reads as it did. -/
def fnExactAboveOfSpec : ChangeSpec := { name := "fnExactAboveOf", fn := fun _ => fun
  | [d1, d2] => { results := [.lit (.bool true)], args := [d1, d2] }
  | _ => none }
def fnExactAboveOfRow : OpenClaim := { program := "ytihglabpnladoaa", sum := "778b4f9c24d2544d5ed2fde452e9a3d28492de67f7d62e72c95aa043fead6d2c", func := "loop.example/faultcleanup/laws.FnExactAboveOf", spec := "fnExactAboveOf", unfollowed := true, recurses := true, apart := false }
def FnExactAboveOfSaid : Prop := fnExactAboveOfRow.holds Try.pinned (OpenSpec.ofChange fnExactAboveOfSpec)

/-- ITS FALSE NEIGHBOUR: 'it returns false'. Refute it at one input. -/
def fnExactAboveOfWrong : ChangeSpec := { name := "fnExactAboveOf", fn := fun _ => fun
  | [d1, d2] => { results := [.lit (.bool false)], args := [d1, d2] }
  | _ => none }
def FnExactAboveOfWrongFalsely : Prop := fnExactAboveOfRow.holds Try.pinned (OpenSpec.ofChange fnExactAboveOfWrong)

/-- 'laws.FnExactIsA': WHATEVER THE INPUT: true; the input reads as it did. -/
def fnExactIsASpec : ChangeSpec := { name := "fnExactIsA", fn := fun _ => fun
  | [d1, d2, d3] => { results := [.lit (.bool true)], args := [d1, d2, d3] }
  | _ => none }
def fnExactIsARow : OpenClaim := { program := "ytihglabpnladoaa", sum := "778b4f9c24d2544d5ed2fde452e9a3d28492de67f7d62e72c95aa043fead6d2c", func := "loop.example/faultcleanup/laws.FnExactIsA", spec := "fnExactIsA", unfollowed := true, recurses := true, apart := false }
def FnExactIsASaid : Prop := fnExactIsARow.holds Try.pinned (OpenSpec.ofChange fnExactIsASpec)

/-- ITS FALSE NEIGHBOUR: 'it returns false'. Refute it at one input. -/
def fnExactIsAWrong : ChangeSpec := { name := "fnExactIsA", fn := fun _ => fun
  | [d1, d2, d3] => { results := [.lit (.bool false)], args := [d1, d2, d3] }
  | _ => none }
def FnExactIsAWrongFalsely : Prop := fnExactIsARow.holds Try.pinned (OpenSpec.ofChange fnExactIsAWrong)

/- THE SECOND FORM. 'bulk': how many values and letters a reading holds, each counted each time it is reached (what is shared counts as often as it is met; a slice's spare places count too). A statement '..UptoSaid' is the law's where the arguments, and the package variables that the reading takes, are together of bulk at most 1048576: NARROWER than '..Said'. Prove '..Said' where nothing that the law and all that it calls make is longer than what came in: it says more and counts as full. Else prove '..UptoSaid'. A law counts once. -/
mutual
def uptoBulk {H : Type} : DataW H → Nat
  | .lit (.string bytes) => bytes.length + 1
  | .lit _ => 1
  | .nil => 1
  | .ptr d => uptoBulk d + 1
  | .slice elems spare => uptoBulkAll elems + uptoBulkAll spare + 1
  | .agg parts => uptoBulkAll parts + 1
  | .iface _ d => uptoBulk d + 1
  | .map entries => uptoBulkEntries entries + 1
  | .held _ => 1
def uptoBulkAll {H : Type} : List (DataW H) → Nat
  | [] => 0
  | d :: r => uptoBulk d + uptoBulkAll r
def uptoBulkEntries {H : Type} : List (Lit × DataW H) → Nat
  | [] => 0
  | x :: r => uptoBulkEntry x + uptoBulkEntries r
def uptoBulkEntry {H : Type} : Lit × DataW H → Nat
  | (.string bytes, d) => bytes.length + uptoBulk d + 1
  | (_, d) => uptoBulk d + 1
 end
def uptoSmall : (H : Type) → List (DataW H) → Bool := fun _ ds => decide (uptoBulkAll ds ≤ 1048576)
def OpenSpec.upto (s : _root_.Go.ChangeSpec) : _root_.Go.OpenSpec := { _root_.Go.OpenSpec.ofChange s with cond := some uptoSmall }

/-- 'laws.FnExactConstants', WHERE WHAT IT READS IS OF BULK AT MOST 1048576: true; the input reads as it did. -/
def fnExactConstantsUptoRow : OpenClaim := { program := "ytihglabpnladoaa", sum := "778b4f9c24d2544d5ed2fde452e9a3d28492de67f7d62e72c95aa043fead6d2c", func := "loop.example/faultcleanup/laws.FnExactConstants", spec := "fnExactConstants", apart := false, narrowed := true }
def FnExactConstantsUptoSaid : Prop := fnExactConstantsUptoRow.holds Try.pinned (OpenSpec.upto fnExactConstantsSpec)

/-- 'laws.FnValidTree', WHERE WHAT IT READS IS OF BULK AT MOST 1048576: true; the input reads as it did. -/
def fnValidTreeUptoRow : OpenClaim := { program := "ytihglabpnladoaa", sum := "778b4f9c24d2544d5ed2fde452e9a3d28492de67f7d62e72c95aa043fead6d2c", func := "loop.example/faultcleanup/laws.FnValidTree", spec := "fnValidTree", unfollowed := true, recurses := true, apart := false, narrowed := true }
def FnValidTreeUptoSaid : Prop := fnValidTreeUptoRow.holds Try.pinned (OpenSpec.upto fnValidTreeSpec)

/-- 'laws.FnClassNamed', WHERE WHAT IT READS IS OF BULK AT MOST 1048576: true; the input reads as it did. -/
def fnClassNamedUptoRow : OpenClaim := { program := "ytihglabpnladoaa", sum := "778b4f9c24d2544d5ed2fde452e9a3d28492de67f7d62e72c95aa043fead6d2c", func := "loop.example/faultcleanup/laws.FnClassNamed", spec := "fnClassNamed", unfollowed := true, recurses := true, apart := false, narrowed := true }
def FnClassNamedUptoSaid : Prop := fnClassNamedUptoRow.holds Try.pinned (OpenSpec.upto fnClassNamedSpec)

/-- 'laws.FnExactValidTree', WHERE WHAT IT READS IS OF BULK AT MOST 1048576: true; the input reads as it did. -/
def fnExactValidTreeUptoRow : OpenClaim := { program := "ytihglabpnladoaa", sum := "778b4f9c24d2544d5ed2fde452e9a3d28492de67f7d62e72c95aa043fead6d2c", func := "loop.example/faultcleanup/laws.FnExactValidTree", spec := "fnExactValidTree", unfollowed := true, recurses := true, apart := false, narrowed := true }
def FnExactValidTreeUptoSaid : Prop := fnExactValidTreeUptoRow.holds Try.pinned (OpenSpec.upto fnExactValidTreeSpec)

/-- 'laws.FnExactClassNamed', WHERE WHAT IT READS IS OF BULK AT MOST 1048576: true; the input reads as it did. -/
def fnExactClassNamedUptoRow : OpenClaim := { program := "ytihglabpnladoaa", sum := "778b4f9c24d2544d5ed2fde452e9a3d28492de67f7d62e72c95aa043fead6d2c", func := "loop.example/faultcleanup/laws.FnExactClassNamed", spec := "fnExactClassNamed", unfollowed := true, recurses := true, apart := false, narrowed := true }
def FnExactClassNamedUptoSaid : Prop := fnExactClassNamedUptoRow.holds Try.pinned (OpenSpec.upto fnExactClassNamedSpec)

/-- 'laws.FnAboveOf', WHERE WHAT IT READS IS OF BULK AT MOST 1048576: true; the input reads as it did. -/
def fnAboveOfUptoRow : OpenClaim := { program := "ytihglabpnladoaa", sum := "778b4f9c24d2544d5ed2fde452e9a3d28492de67f7d62e72c95aa043fead6d2c", func := "loop.example/faultcleanup/laws.FnAboveOf", spec := "fnAboveOf", unfollowed := true, recurses := true, apart := false, narrowed := true }
def FnAboveOfUptoSaid : Prop := fnAboveOfUptoRow.holds Try.pinned (OpenSpec.upto fnAboveOfSpec)

/-- 'laws.FnExactAboveOf', WHERE WHAT IT READS IS OF BULK AT MOST 1048576: true; the input reads as it did. -/
def fnExactAboveOfUptoRow : OpenClaim := { program := "ytihglabpnladoaa", sum := "778b4f9c24d2544d5ed2fde452e9a3d28492de67f7d62e72c95aa043fead6d2c", func := "loop.example/faultcleanup/laws.FnExactAboveOf", spec := "fnExactAboveOf", unfollowed := true, recurses := true, apart := false, narrowed := true }
def FnExactAboveOfUptoSaid : Prop := fnExactAboveOfUptoRow.holds Try.pinned (OpenSpec.upto fnExactAboveOfSpec)

/-- 'laws.FnExactIsA', WHERE WHAT IT READS IS OF BULK AT MOST 1048576: true; the input reads as it did. -/
def fnExactIsAUptoRow : OpenClaim := { program := "ytihglabpnladoaa", sum := "778b4f9c24d2544d5ed2fde452e9a3d28492de67f7d62e72c95aa043fead6d2c", func := "loop.example/faultcleanup/laws.FnExactIsA", spec := "fnExactIsA", unfollowed := true, recurses := true, apart := false, narrowed := true }
def FnExactIsAUptoSaid : Prop := fnExactIsAUptoRow.holds Try.pinned (OpenSpec.upto fnExactIsASpec)

end Rows
end Go.Proofs.Ytihglabpnladoaa
