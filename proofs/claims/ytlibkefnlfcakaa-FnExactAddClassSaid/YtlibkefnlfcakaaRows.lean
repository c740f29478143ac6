/-
  No cell of these rows narrows 'for every input' (looked for: loops, veiled, ifaces, maps, wideKeys, modest, calm, conditions, laid).
  DERIVED. THE GIVEN ROWS OF THIS SEAT. 6 by the template 'for every input the law returns true; each argument reads behind the call as it read before'; 0 by the template 'total and deterministic' (their statements: YtlibkefnlfcakaaTotals.lean).
  GIVEN WITH THE SEED: the statements are not yours to turn. If you find one false, say at which input.
  Laid BY PROGRAM, IN A SANDBOX (cutbox-rows.mjs): the forced cells as the released guide's own fill.sh prints them over the translation 61b70aebfe685d16… (all of the seat's roots in one cut). By AI agents, Wed Nov 11 2026. No macro, syntax, notation, axiom, sorry.
-/
import Derived.Test.YtlibkefnlfcakaaChecked
import GoSem.Claim
import GoSem.ClaimJoined
import GoSem.ClaimMapViews
import Derived.JoinedTies
import Derived.KernelRfl
namespace Go.Proofs.Ytlibkefnlfcakaa
/- THE CELL 'sum', in the pinned program and in every row, IS THE sha256 OF THE DUMP (.gsa) THAT YtlibkefnlfcakaaProg.lean LOADS. Nothing in Lean hashes anything: it is a label: what it is worth is what the hold of that sum in a sandbox is worth. -/
noncomputable def Try.pinned : Pinned := { name := "ytlibkefnlfcakaa", sum := "61b70aebfe685d163b89637d09fafdb3a8d72587ec5446f6b45cb26319966a29", checked := Try.checked }
namespace Rows
def none {H : Type} : Left H := { results := [], args := [] }

/-- 'laws.FnAddClass': WHATEVER THE INPUT: true; the input reads as it did. -/
def fnAddClassSpec : ChangeSpec := { name := "fnAddClass", fn := fun _ => fun
  | [d] => { results := [.lit (.bool true)], args := [d] }
  | _ => none }
def fnAddClassRow : OpenClaim := { program := "ytlibkefnlfcakaa", sum := "61b70aebfe685d163b89637d09fafdb3a8d72587ec5446f6b45cb26319966a29", func := "loop.example/faultcleanup/laws.FnAddClass", spec := "fnAddClass", unfollowed := true, recurses := true, apart := false }
def FnAddClassSaid : Prop := fnAddClassRow.holds Try.pinned (OpenSpec.ofChange fnAddClassSpec)

/-- ITS FALSE NEIGHBOUR: 'it returns false'. Refute it at one input. -/
def fnAddClassWrong : ChangeSpec := { name := "fnAddClass", fn := fun _ => fun
  | [d] => { results := [.lit (.bool false)], args := [d] }
  | _ => none }
def FnAddClassWrongFalsely : Prop := fnAddClassRow.holds Try.pinned (OpenSpec.ofChange fnAddClassWrong)

/-- 'laws.FnExactAddClass': WHATEVER THE INPUT: true; the input reads as it did. -/
def fnExactAddClassSpec : ChangeSpec := { name := "fnExactAddClass", fn := fun _ => fun
  | [d1, d2, d3] => { results := [.lit (.bool true)], args := [d1, d2, d3] }
  | _ => none }
def fnExactAddClassRow : OpenClaim := { program := "ytlibkefnlfcakaa", sum := "61b70aebfe685d163b89637d09fafdb3a8d72587ec5446f6b45cb26319966a29", func := "loop.example/faultcleanup/laws.FnExactAddClass", spec := "fnExactAddClass", unfollowed := true, recurses := true, apart := false }
def FnExactAddClassSaid : Prop := fnExactAddClassRow.holds Try.pinned (OpenSpec.ofChange fnExactAddClassSpec)

/-- ITS FALSE NEIGHBOUR: 'it returns false'. Refute it at one input. -/
def fnExactAddClassWrong : ChangeSpec := { name := "fnExactAddClass", fn := fun _ => fun
  | [d1, d2, d3] => { results := [.lit (.bool false)], args := [d1, d2, d3] }
  | _ => none }
def FnExactAddClassWrongFalsely : Prop := fnExactAddClassRow.holds Try.pinned (OpenSpec.ofChange fnExactAddClassWrong)

/-- 'laws.FnAddClassCatch': WHATEVER THE INPUT: true; the input reads as it did. -/
def fnAddClassCatchSpec : ChangeSpec := { name := "fnAddClassCatch", fn := fun _ => fun
  | [d] => { results := [.lit (.bool true)], args := [d] }
  | _ => none }
def fnAddClassCatchRow : OpenClaim := { program := "ytlibkefnlfcakaa", sum := "61b70aebfe685d163b89637d09fafdb3a8d72587ec5446f6b45cb26319966a29", func := "loop.example/faultcleanup/laws.FnAddClassCatch", spec := "fnAddClassCatch", unfollowed := true, recurses := true, apart := false }
def FnAddClassCatchSaid : Prop := fnAddClassCatchRow.holds Try.pinned (OpenSpec.ofChange fnAddClassCatchSpec)

/-- ITS FALSE NEIGHBOUR: 'it returns false'. Refute it at one input. -/
def fnAddClassCatchWrong : ChangeSpec := { name := "fnAddClassCatch", fn := fun _ => fun
  | [d] => { results := [.lit (.bool false)], args := [d] }
  | _ => none }
def FnAddClassCatchWrongFalsely : Prop := fnAddClassCatchRow.holds Try.pinned (OpenSpec.ofChange fnAddClassCatchWrong)

/-- 'laws.FnExactFirstCatch': WHATEVER THE INPUT: true; the input reads as it did. -/
def fnExactFirstCatchSpec : ChangeSpec := { name := "fnExactFirstCatch", fn := fun _ => fun
  | [d1, d2, d3] => { results := [.lit (.bool true)], args := [d1, d2, d3] }
  | _ => none }
def fnExactFirstCatchRow : OpenClaim := { program := "ytlibkefnlfcakaa", sum := "61b70aebfe685d163b89637d09fafdb3a8d72587ec5446f6b45cb26319966a29", func := "loop.example/faultcleanup/laws.FnExactFirstCatch", spec := "fnExactFirstCatch", unfollowed := true, recurses := true, apart := false }
def FnExactFirstCatchSaid : Prop := fnExactFirstCatchRow.holds Try.pinned (OpenSpec.ofChange fnExactFirstCatchSpec)

/-- ITS FALSE NEIGHBOUR: 'it returns false'. Refute it at one input. -/
def fnExactFirstCatchWrong : ChangeSpec := { name := "fnExactFirstCatch", fn := fun _ => fun
  | [d1, d2, d3] => { results := [.lit (.bool false)], args := [d1, d2, d3] }
  | _ => none }
def FnExactFirstCatchWrongFalsely : Prop := fnExactFirstCatchRow.holds Try.pinned (OpenSpec.ofChange fnExactFirstCatchWrong)

/-- 'laws.FnFirstCatch': WHATEVER THE INPUT: true; the input reads as it did. -/
def fnFirstCatchSpec : ChangeSpec := { name := "fnFirstCatch", fn := fun _ => fun
  | [d] => { results := [.lit (.bool true)], args := [d] }
  | _ => none }
def fnFirstCatchRow : OpenClaim := { program := "ytlibkefnlfcakaa", sum := "61b70aebfe685d163b89637d09fafdb3a8d72587ec5446f6b45cb26319966a29", func := "loop.example/faultcleanup/laws.FnFirstCatch", spec := "fnFirstCatch", unfollowed := true, recurses := true, apart := false }
def FnFirstCatchSaid : Prop := fnFirstCatchRow.holds Try.pinned (OpenSpec.ofChange fnFirstCatchSpec)

/-- ITS FALSE NEIGHBOUR: 'it returns false'. Refute it at one input. -/
def fnFirstCatchWrong : ChangeSpec := { name := "fnFirstCatch", fn := fun _ => fun
  | [d] => { results := [.lit (.bool false)], args := [d] }
  | _ => none }
def FnFirstCatchWrongFalsely : Prop := fnFirstCatchRow.holds Try.pinned (OpenSpec.ofChange fnFirstCatchWrong)

/-- 'laws.FnDeadCatches': WHATEVER THE INPUT: true; the input reads as it did. -/
def fnDeadCatchesSpec : ChangeSpec := { name := "fnDeadCatches", fn := fun _ => fun
  | [d] => { results := [.lit (.bool true)], args := [d] }
  | _ => none }
def fnDeadCatchesRow : OpenClaim := { program := "ytlibkefnlfcakaa", sum := "61b70aebfe685d163b89637d09fafdb3a8d72587ec5446f6b45cb26319966a29", func := "loop.example/faultcleanup/laws.FnDeadCatches", spec := "fnDeadCatches", unfollowed := true, recurses := true, apart := false }
def FnDeadCatchesSaid : Prop := fnDeadCatchesRow.holds Try.pinned (OpenSpec.ofChange fnDeadCatchesSpec)

/-- ITS FALSE NEIGHBOUR: 'it returns false'. Refute it at one input. -/
def fnDeadCatchesWrong : ChangeSpec := { name := "fnDeadCatches", fn := fun _ => fun
  | [d] => { results := [.lit (.bool false)], args := [d] }
  | _ => none }
def FnDeadCatchesWrongFalsely : Prop := fnDeadCatchesRow.holds Try.pinned (OpenSpec.ofChange fnDeadCatchesWrong)

/- THE SECOND FORM. 'bulk': how many values and letters a reading holds, each counted each time it is reached (what is shared counts as often as it is met; a slice's spare places count too). A statement '..UptoSaid' is the law's where the arguments, and the package variables that the reading takes, are together of bulk at most 1048576: NARROWER than '..Said'. Prove '..Said' where nothing that the law and all that it calls make is longer than what came in: it says more and counts as full. Else prove '..UptoSaid'. A law counts once. -/
mutual
def uptoBulk {H : Type} : DataW H → Nat
  | .lit (.string bytes) => bytes.length + 1
  | .lit _ => 1
  | .nil => 1
  | .ptr d => uptoBulk d + 1
  | .slice elems spare => uptoBulkAll elems + uptoBulkAll spare + 1
  | .agg parts => uptoBulkAll parts + 1
  | .iface _ d => uptoBulk d + 1
  | .map entries => uptoBulkEntries entries + 1
  | .held _ => 1
def uptoBulkAll {H : Type} : List (DataW H) → Nat
  | [] => 0
  | d :: r => uptoBulk d + uptoBulkAll r
def uptoBulkEntries {H : Type} : List (Lit × DataW H) → Nat
  | [] => 0
  | x :: r => uptoBulkEntry x + uptoBulkEntries r
def uptoBulkEntry {H : Type} : Lit × DataW H → Nat
  | (.string bytes, d) => bytes.length + uptoBulk d + 1
  | (_, d) => uptoBulk d + 1
 end
def uptoSmall : (H : Type) → List (DataW H) → Bool := fun _ ds => decide (uptoBulkAll ds ≤ 1048576)
def OpenSpec.upto (s : _root_.Go.ChangeSpec) : _root_.Go.OpenSpec := { _root_.Go.OpenSpec.ofChange s with cond := some uptoSmall }

/-- 'laws.FnAddClass', WHERE WHAT IT READS IS OF BULK AT MOST 1048576: true; the input reads as it did. -/
def fnAddClassUptoRow : OpenClaim := { program := "ytlibkefnlfcakaa", sum := "61b70aebfe685d163b89637d09fafdb3a8d72587ec5446f6b45cb26319966a29", func := "loop.example/faultcleanup/laws.FnAddClass", spec := "fnAddClass", unfollowed := true, recurses := true, apart := false, narrowed := true }
def FnAddClassUptoSaid : Prop := fnAddClassUptoRow.holds Try.pinned (OpenSpec.upto fnAddClassSpec)

/-- 'laws.FnExactAddClass', WHERE WHAT IT READS IS OF BULK AT MOST 1048576: true; the input reads as it did. -/
def fnExactAddClassUptoRow : OpenClaim := { program := "ytlibkefnlfcakaa", sum := "61b70aebfe685d163b89637d09fafdb3a8d72587ec5446f6b45cb26319966a29", func := "loop.example/faultcleanup/laws.FnExactAddClass", spec := "fnExactAddClass", unfollowed := true, recurses := true, apart := false, narrowed := true }
def FnExactAddClassUptoSaid : Prop := fnExactAddClassUptoRow.holds Try.pinned (OpenSpec.upto fnExactAddClassSpec)

/-- 'laws.FnAddClassCatch', WHERE WHAT IT READS IS OF BULK AT MOST 1048576: true; the input reads as it did. -/
def fnAddClassCatchUptoRow : OpenClaim := { program := "ytlibkefnlfcakaa", sum := "61b70aebfe685d163b89637d09fafdb3a8d72587ec5446f6b45cb26319966a29", func := "loop.example/faultcleanup/laws.FnAddClassCatch", spec := "fnAddClassCatch", unfollowed := true, recurses := true, apart := false, narrowed := true }
def FnAddClassCatchUptoSaid : Prop := fnAddClassCatchUptoRow.holds Try.pinned (OpenSpec.upto fnAddClassCatchSpec)

/-- 'laws.FnExactFirstCatch', WHERE WHAT IT READS IS OF BULK AT MOST 1048576: true; the input reads as it did. -/
def fnExactFirstCatchUptoRow : OpenClaim := { program := "ytlibkefnlfcakaa", sum := "61b70aebfe685d163b89637d09fafdb3a8d72587ec5446f6b45cb26319966a29", func := "loop.example/faultcleanup/laws.FnExactFirstCatch", spec := "fnExactFirstCatch", unfollowed := true, recurses := true, apart := false, narrowed := true }
def FnExactFirstCatchUptoSaid : Prop := fnExactFirstCatchUptoRow.holds Try.pinned (OpenSpec.upto fnExactFirstCatchSpec)

/-- 'laws.FnFirstCatch', WHERE WHAT IT READS IS OF BULK AT MOST 1048576: true; the input reads as it did. -/
def fnFirstCatchUptoRow : OpenClaim := { program := "ytlibkefnlfcakaa", sum := "61b70aebfe685d163b89637d09fafdb3a8d72587ec5446f6b45cb26319966a29", func := "loop.example/faultcleanup/laws.FnFirstCatch", spec := "fnFirstCatch", unfollowed := true, recurses := true, apart := false, narrowed := true }
def FnFirstCatchUptoSaid : Prop := fnFirstCatchUptoRow.holds Try.pinned (OpenSpec.upto fnFirstCatchSpec)

/-- 'laws.FnDeadCatches', WHERE WHAT IT READS IS OF BULK AT MOST 1048576: true; the input reads as it did. -/
def fnDeadCatchesUptoRow : OpenClaim := { program := "ytlibkefnlfcakaa", sum := "61b70aebfe685d163b89637d09fafdb3a8d72587ec5446f6b45cb26319966a29", func := "loop.example/faultcleanup/laws.FnDeadCatches", spec := "fnDeadCatches", unfollowed := true, recurses := true, apart := false, narrowed := true }
def FnDeadCatchesUptoSaid : Prop := fnDeadCatchesUptoRow.holds Try.pinned (OpenSpec.upto fnDeadCatchesSpec)

end Rows
end Go.Proofs.Ytlibkefnlfcakaa
