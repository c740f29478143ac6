/-
  No cell of these rows narrows 'for every input' (looked for: loops, veiled, ifaces, maps, wideKeys, modest, calm, conditions, laid).
  DERIVED. THE GIVEN ROWS OF THIS SEAT. 6 by the template 'for every input the law returns true; each argument reads behind the call as it read before'; 0 by the template 'total and deterministic' (their statements: YtnoekddnacnopaaTotals.lean).
  GIVEN WITH THE SEED: the statements are not yours to turn. If you find one false, say at which input.
  Laid BY PROGRAM, IN A SANDBOX (cutbox-rows.mjs): the forced cells as the released guide's own fill.sh prints them over the translation 5cb81d9afa0186bb… (all of the seat's roots in one cut). By AI agents, Wed Nov 11 2026. No macro, syntax, notation, axiom, sorry.
-/
import Derived.Test.YtnoekddnacnopaaChecked
import GoSem.Claim
import GoSem.ClaimJoined
import GoSem.ClaimMapViews
import Derived.JoinedTies
import Derived.KernelRfl
namespace Go.Proofs.Ytnoekddnacnopaa
/- THE CELL 'sum', in the pinned program and in every row, IS THE sha256 OF THE DUMP (.gsa) THAT YtnoekddnacnopaaProg.lean LOADS. Nothing in Lean hashes anything: it is a label: what it is worth is what the hold of that sum in a sandbox is worth. -/
noncomputable def Try.pinned : Pinned := { name := "ytnoekddnacnopaa", sum := "5cb81d9afa0186bbc1c9ea5b25d8e3003a2b4b1f2622c9b7fc6ce21296dd239c", checked := Try.checked }
namespace Rows
def none {H : Type} : Left H := { results := [], args := [] }

/-- 'laws.FnExactBelowOf': WHATEVER THE INPUT: true; the input reads as it did. -/
def fnExactBelowOfSpec : ChangeSpec := { name := "fnExactBelowOf", fn := fun _ => fun
  | [d1, d2] => { results := [.lit (.bool true)], args := [d1, d2] }
  | _ => none }
def fnExactBelowOfRow : OpenClaim := { program := "ytnoekddnacnopaa", sum := "5cb81d9afa0186bbc1c9ea5b25d8e3003a2b4b1f2622c9b7fc6ce21296dd239c", func := "loop.example/faultcleanup/laws.FnExactBelowOf", spec := "fnExactBelowOf", unfollowed := true, recurses := true, apart := false }
def FnExactBelowOfSaid : Prop := fnExactBelowOfRow.holds Try.pinned (OpenSpec.ofChange fnExactBelowOfSpec)

/-- ITS FALSE NEIGHBOUR: 'it returns false'. Refute it at one input. -/
def fnExactBelowOfWrong : ChangeSpec := { name := "fnExactBelowOf", fn := fun _ => fun
  | [d1, d2] => { results := [.lit (.bool false)], args := [d1, d2] }
  | _ => none }
def FnExactBelowOfWrongFalsely : Prop := fnExactBelowOfRow.holds Try.pinned (OpenSpec.ofChange fnExactBelowOfWrong)

/-- 'laws.FnBelowOf': WHATEVER THE INPUT: true; the input reads as it did. -/
def fnBelowOfSpec : ChangeSpec := { name := "fnBelowOf", fn := fun _ => fun
  | [d] => { results := [.lit (.bool true)], args := [d] }
  | _ => none }
def fnBelowOfRow : OpenClaim := { program := "ytnoekddnacnopaa", sum := "5cb81d9afa0186bbc1c9ea5b25d8e3003a2b4b1f2622c9b7fc6ce21296dd239c", func := "loop.example/faultcleanup/laws.FnBelowOf", spec := "fnBelowOf", unfollowed := true, recurses := true, apart := false }
def FnBelowOfSaid : Prop := fnBelowOfRow.holds Try.pinned (OpenSpec.ofChange fnBelowOfSpec)

/-- ITS FALSE NEIGHBOUR: 'it returns false'. Refute it at one input. -/
def fnBelowOfWrong : ChangeSpec := { name := "fnBelowOf", fn := fun _ => fun
  | [d] => { results := [.lit (.bool false)], args := [d] }
  | _ => none }
def FnBelowOfWrongFalsely : Prop := fnBelowOfRow.holds Try.pinned (OpenSpec.ofChange fnBelowOfWrong)

/-- 'laws.FnIsA': WHATEVER THE INPUT: true; the input reads as it did. -/
def fnIsASpec : ChangeSpec := { name := "fnIsA", fn := fun _ => fun
  | [d] => { results := [.lit (.bool true)], args := [d] }
  | _ => none }
def fnIsARow : OpenClaim := { program := "ytnoekddnacnopaa", sum := "5cb81d9afa0186bbc1c9ea5b25d8e3003a2b4b1f2622c9b7fc6ce21296dd239c", func := "loop.example/faultcleanup/laws.FnIsA", spec := "fnIsA", unfollowed := true, recurses := true, apart := false }
def FnIsASaid : Prop := fnIsARow.holds Try.pinned (OpenSpec.ofChange fnIsASpec)

/-- ITS FALSE NEIGHBOUR: 'it returns false'. Refute it at one input. -/
def fnIsAWrong : ChangeSpec := { name := "fnIsA", fn := fun _ => fun
  | [d] => { results := [.lit (.bool false)], args := [d] }
  | _ => none }
def FnIsAWrongFalsely : Prop := fnIsARow.holds Try.pinned (OpenSpec.ofChange fnIsAWrong)

/-- 'laws.FnCommonClass': WHATEVER THE INPUT: true; the input reads as it did. -/
def fnCommonClassSpec : ChangeSpec := { name := "fnCommonClass", fn := fun _ => fun
  | [d] => { results := [.lit (.bool true)], args := [d] }
  | _ => none }
def fnCommonClassRow : OpenClaim := { program := "ytnoekddnacnopaa", sum := "5cb81d9afa0186bbc1c9ea5b25d8e3003a2b4b1f2622c9b7fc6ce21296dd239c", func := "loop.example/faultcleanup/laws.FnCommonClass", spec := "fnCommonClass", unfollowed := true, recurses := true, apart := false }
def FnCommonClassSaid : Prop := fnCommonClassRow.holds Try.pinned (OpenSpec.ofChange fnCommonClassSpec)

/-- ITS FALSE NEIGHBOUR: 'it returns false'. Refute it at one input. -/
def fnCommonClassWrong : ChangeSpec := { name := "fnCommonClass", fn := fun _ => fun
  | [d] => { results := [.lit (.bool false)], args := [d] }
  | _ => none }
def FnCommonClassWrongFalsely : Prop := fnCommonClassRow.holds Try.pinned (OpenSpec.ofChange fnCommonClassWrong)

/-- 'laws.FnExactCommonClass': WHATEVER THE INPUT: true; the input reads as it did. -/
def fnExactCommonClassSpec : ChangeSpec := { name := "fnExactCommonClass", fn := fun _ => fun
  | [d1, d2, d3] => { results := [.lit (.bool true)], args := [d1, d2, d3] }
  | _ => none }
def fnExactCommonClassRow : OpenClaim := { program := "ytnoekddnacnopaa", sum := "5cb81d9afa0186bbc1c9ea5b25d8e3003a2b4b1f2622c9b7fc6ce21296dd239c", func := "loop.example/faultcleanup/laws.FnExactCommonClass", spec := "fnExactCommonClass", unfollowed := true, recurses := true, apart := false }
def FnExactCommonClassSaid : Prop := fnExactCommonClassRow.holds Try.pinned (OpenSpec.ofChange fnExactCommonClassSpec)

/-- ITS FALSE NEIGHBOUR: 'it returns false'. Refute it at one input. -/
def fnExactCommonClassWrong : ChangeSpec := { name := "fnExactCommonClass", fn := fun _ => fun
  | [d1, d2, d3] => { results := [.lit (.bool false)], args := [d1, d2, d3] }
  | _ => none }
def FnExactCommonClassWrongFalsely : Prop := fnExactCommonClassRow.holds Try.pinned (OpenSpec.ofChange fnExactCommonClassWrong)

/-- 'laws.FnLeastCatches': WHATEVER THE INPUT: true; the input reads as it did. -/
def fnLeastCatchesSpec : ChangeSpec := { name := "fnLeastCatches", fn := fun _ => fun
  | [d] => { results := [.lit (.bool true)], args := [d] }
  | _ => none }
def fnLeastCatchesRow : OpenClaim := { program := "ytnoekddnacnopaa", sum := "5cb81d9afa0186bbc1c9ea5b25d8e3003a2b4b1f2622c9b7fc6ce21296dd239c", func := "loop.example/faultcleanup/laws.FnLeastCatches", spec := "fnLeastCatches", unfollowed := true, recurses := true, apart := false }
def FnLeastCatchesSaid : Prop := fnLeastCatchesRow.holds Try.pinned (OpenSpec.ofChange fnLeastCatchesSpec)

/-- ITS FALSE NEIGHBOUR: 'it returns false'. Refute it at one input. -/
def fnLeastCatchesWrong : ChangeSpec := { name := "fnLeastCatches", fn := fun _ => fun
  | [d] => { results := [.lit (.bool false)], args := [d] }
  | _ => none }
def FnLeastCatchesWrongFalsely : Prop := fnLeastCatchesRow.holds Try.pinned (OpenSpec.ofChange fnLeastCatchesWrong)

/- THE SECOND FORM. 'bulk': how many values and letters a reading holds, each counted each time it is reached (what is shared counts as often as it is met; a slice's spare places count too). A statement '..UptoSaid' is the law's where the arguments, and the package variables that the reading takes, are together of bulk at most 1048576: NARROWER than '..Said'. Prove '..Said' where nothing that the law and all that it calls make is longer than what came in: it says more and counts as full. Else prove '..UptoSaid'. A law counts once. -/
mutual
def uptoBulk {H : Type} : DataW H → Nat
  | .lit (.string bytes) => bytes.length + 1
  | .lit _ => 1
  | .nil => 1
  | .ptr d => uptoBulk d + 1
  | .slice elems spare => uptoBulkAll elems + uptoBulkAll spare + 1
  | .agg parts => uptoBulkAll parts + 1
  | .iface _ d => uptoBulk d + 1
  | .map entries => uptoBulkEntries entries + 1
  | .held _ => 1
def uptoBulkAll {H : Type} : List (DataW H) → Nat
  | [] => 0
  | d :: r => uptoBulk d + uptoBulkAll r
def uptoBulkEntries {H : Type} : List (Lit × DataW H) → Nat
  | [] => 0
  | x :: r => uptoBulkEntry x + uptoBulkEntries r
def uptoBulkEntry {H : Type} : Lit × DataW H → Nat
  | (.string bytes, d) => bytes.length + uptoBulk d + 1
  | (_, d) => uptoBulk d + 1
 end
def uptoSmall : (H : Type) → List (DataW H) → Bool := fun _ ds => decide (uptoBulkAll ds ≤ 1048576)
def OpenSpec.upto (s : _root_.Go.ChangeSpec) : _root_.Go.OpenSpec := { _root_.Go.OpenSpec.ofChange s with cond := some uptoSmall }

/-- 'laws.FnExactBelowOf', WHERE WHAT IT READS IS OF BULK AT MOST 1048576: true; the input reads as it did. -/
def fnExactBelowOfUptoRow : OpenClaim := { program := "ytnoekddnacnopaa", sum := "5cb81d9afa0186bbc1c9ea5b25d8e3003a2b4b1f2622c9b7fc6ce21296dd239c", func := "loop.example/faultcleanup/laws.FnExactBelowOf", spec := "fnExactBelowOf", unfollowed := true, recurses := true, apart := false, narrowed := true }
def FnExactBelowOfUptoSaid : Prop := fnExactBelowOfUptoRow.holds Try.pinned (OpenSpec.upto fnExactBelowOfSpec)

/-- 'laws.FnBelowOf', WHERE WHAT IT READS IS OF BULK AT MOST 1048576: true; the input reads as it did. -/
def fnBelowOfUptoRow : OpenClaim := { program := "ytnoekddnacnopaa", sum := "5cb81d9afa0186bbc1c9ea5b25d8e3003a2b4b1f2622c9b7fc6ce21296dd239c", func := "loop.example/faultcleanup/laws.FnBelowOf", spec := "fnBelowOf", unfollowed := true, recurses := true, apart := false, narrowed := true }
def FnBelowOfUptoSaid : Prop := fnBelowOfUptoRow.holds Try.pinned (OpenSpec.upto fnBelowOfSpec)

/-- 'laws.FnIsA', WHERE WHAT IT READS IS OF BULK AT MOST 1048576: true; the input reads as it did. -/
def fnIsAUptoRow : OpenClaim := { program := "ytnoekddnacnopaa", sum := "5cb81d9afa0186bbc1c9ea5b25d8e3003a2b4b1f2622c9b7fc6ce21296dd239c", func := "loop.example/faultcleanup/laws.FnIsA", spec := "fnIsA", unfollowed := true, recurses := true, apart := false, narrowed := true }
def FnIsAUptoSaid : Prop := fnIsAUptoRow.holds Try.pinned (OpenSpec.upto fnIsASpec)

/-- 'laws.FnCommonClass', WHERE WHAT IT READS IS OF BULK AT MOST 1048576: true; the input reads as it did. -/
def fnCommonClassUptoRow : OpenClaim := { program := "ytnoekddnacnopaa", sum := "5cb81d9afa0186bbc1c9ea5b25d8e3003a2b4b1f2622c9b7fc6ce21296dd239c", func := "loop.example/faultcleanup/laws.FnCommonClass", spec := "fnCommonClass", unfollowed := true, recurses := true, apart := false, narrowed := true }
def FnCommonClassUptoSaid : Prop := fnCommonClassUptoRow.holds Try.pinned (OpenSpec.upto fnCommonClassSpec)

/-- 'laws.FnExactCommonClass', WHERE WHAT IT READS IS OF BULK AT MOST 1048576: true; the input reads as it did. -/
def fnExactCommonClassUptoRow : OpenClaim := { program := "ytnoekddnacnopaa", sum := "5cb81d9afa0186bbc1c9ea5b25d8e3003a2b4b1f2622c9b7fc6ce21296dd239c", func := "loop.example/faultcleanup/laws.FnExactCommonClass", spec := "fnExactCommonClass", unfollowed := true, recurses := true, apart := false, narrowed := true }
def FnExactCommonClassUptoSaid : Prop := fnExactCommonClassUptoRow.holds Try.pinned (OpenSpec.upto fnExactCommonClassSpec)

/-- 'laws.FnLeastCatches', WHERE WHAT IT READS IS OF BULK AT MOST 1048576: true; the input reads as it did. -/
def fnLeastCatchesUptoRow : OpenClaim := { program := "ytnoekddnacnopaa", sum := "5cb81d9afa0186bbc1c9ea5b25d8e3003a2b4b1f2622c9b7fc6ce21296dd239c", func := "loop.example/faultcleanup/laws.FnLeastCatches", spec := "fnLeastCatches", unfollowed := true, recurses := true, apart := false, narrowed := true }
def FnLeastCatchesUptoSaid : Prop := fnLeastCatchesUptoRow.holds Try.pinned (OpenSpec.upto fnLeastCatchesSpec)

end Rows
end Go.Proofs.Ytnoekddnacnopaa
