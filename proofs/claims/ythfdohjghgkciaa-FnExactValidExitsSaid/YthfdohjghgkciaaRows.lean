/-
  No cell of these rows narrows 'for every input' (looked for: loops, veiled, ifaces, maps, wideKeys, modest, calm, conditions, laid).
  DERIVED. THE GIVEN ROWS OF THIS SEAT. 3 by the template 'for every input the law returns true; each argument reads behind the call as it read before'; 0 by the template 'total and deterministic' (their statements: YthfdohjghgkciaaTotals.lean).
  GIVEN WITH THE SEED: the statements are not yours to turn. If you find one false, say at which input.
  Laid BY PROGRAM, IN A SANDBOX (cutbox-rows.mjs): the forced cells as the released guide's own fill.sh prints them over the translation b9c51e234017b1de… (all of the seat's roots in one cut). By AI agents, Wed Nov 11 2026. No macro, syntax, notation, axiom, sorry.
-/
import Derived.Test.YthfdohjghgkciaaChecked
import GoSem.Claim
import GoSem.ClaimJoined
import GoSem.ClaimMapViews
import Derived.JoinedTies
import Derived.KernelRfl
namespace Go.Proofs.Ythfdohjghgkciaa
/- THE CELL 'sum', in the pinned program and in every row, IS THE sha256 OF THE DUMP (.gsa) THAT YthfdohjghgkciaaProg.lean LOADS. Nothing in Lean hashes anything: it is a label: what it is worth is what the hold of that sum in a sandbox is worth. -/
noncomputable def Try.pinned : Pinned := { name := "ythfdohjghgkciaa", sum := "b9c51e234017b1de014950ed13d96d60173d6b7aa9f804d48872c0804c94e2e9", checked := Try.checked }
namespace Rows
def none {H : Type} : Left H := { results := [], args := [] }

/-- 'laws.FnValidExits': WHATEVER THE INPUT: true; the input reads as it did. -/
def fnValidExitsSpec : ChangeSpec := { name := "fnValidExits", fn := fun _ => fun
  | [d] => { results := [.lit (.bool true)], args := [d] }
  | _ => none }
def fnValidExitsRow : OpenClaim := { program := "ythfdohjghgkciaa", sum := "b9c51e234017b1de014950ed13d96d60173d6b7aa9f804d48872c0804c94e2e9", func := "loop.example/faultcleanup/laws.FnValidExits", spec := "fnValidExits", unfollowed := true, recurses := true, apart := false }
def FnValidExitsSaid : Prop := fnValidExitsRow.holds Try.pinned (OpenSpec.ofChange fnValidExitsSpec)

/-- ITS FALSE NEIGHBOUR: 'it returns false'. Refute it at one input. -/
def fnValidExitsWrong : ChangeSpec := { name := "fnValidExits", fn := fun _ => fun
  | [d] => { results := [.lit (.bool false)], args := [d] }
  | _ => none }
def FnValidExitsWrongFalsely : Prop := fnValidExitsRow.holds Try.pinned (OpenSpec.ofChange fnValidExitsWrong)

/-- 'laws.FnExactValidExits': WHATEVER THE INPUT: true; the input reads as it did. -/
def fnExactValidExitsSpec : ChangeSpec := { name := "fnExactValidExits", fn := fun _ => fun
  | [d1, d2] => { results := [.lit (.bool true)], args := [d1, d2] }
  | _ => none }
def fnExactValidExitsRow : OpenClaim := { program := "ythfdohjghgkciaa", sum := "b9c51e234017b1de014950ed13d96d60173d6b7aa9f804d48872c0804c94e2e9", func := "loop.example/faultcleanup/laws.FnExactValidExits", spec := "fnExactValidExits", unfollowed := true, recurses := true, apart := false }
def FnExactValidExitsSaid : Prop := fnExactValidExitsRow.holds Try.pinned (OpenSpec.ofChange fnExactValidExitsSpec)

/-- ITS FALSE NEIGHBOUR: 'it returns false'. Refute it at one input. -/
def fnExactValidExitsWrong : ChangeSpec := { name := "fnExactValidExits", fn := fun _ => fun
  | [d1, d2] => { results := [.lit (.bool false)], args := [d1, d2] }
  | _ => none }
def FnExactValidExitsWrongFalsely : Prop := fnExactValidExitsRow.holds Try.pinned (OpenSpec.ofChange fnExactValidExitsWrong)

/-- 'laws.FnPopExit': WHATEVER THE INPUT: true; the input reads as it did. -/
def fnPopExitSpec : ChangeSpec := { name := "fnPopExit", fn := fun _ => fun
  | [d] => { results := [.lit (.bool true)], args := [d] }
  | _ => none }
def fnPopExitRow : OpenClaim := { program := "ythfdohjghgkciaa", sum := "b9c51e234017b1de014950ed13d96d60173d6b7aa9f804d48872c0804c94e2e9", func := "loop.example/faultcleanup/laws.FnPopExit", spec := "fnPopExit", unfollowed := true, recurses := true, apart := false }
def FnPopExitSaid : Prop := fnPopExitRow.holds Try.pinned (OpenSpec.ofChange fnPopExitSpec)

/-- ITS FALSE NEIGHBOUR: 'it returns false'. Refute it at one input. -/
def fnPopExitWrong : ChangeSpec := { name := "fnPopExit", fn := fun _ => fun
  | [d] => { results := [.lit (.bool false)], args := [d] }
  | _ => none }
def FnPopExitWrongFalsely : Prop := fnPopExitRow.holds Try.pinned (OpenSpec.ofChange fnPopExitWrong)

/- THE SECOND FORM. 'bulk': how many values and letters a reading holds, each counted each time it is reached (what is shared counts as often as it is met; a slice's spare places count too). A statement '..UptoSaid' is the law's where the arguments, and the package variables that the reading takes, are together of bulk at most 1048576: NARROWER than '..Said'. Prove '..Said' where nothing that the law and all that it calls make is longer than what came in: it says more and counts as full. Else prove '..UptoSaid'. A law counts once. -/
mutual
def uptoBulk {H : Type} : DataW H → Nat
  | .lit (.string bytes) => bytes.length + 1
  | .lit _ => 1
  | .nil => 1
  | .ptr d => uptoBulk d + 1
  | .slice elems spare => uptoBulkAll elems + uptoBulkAll spare + 1
  | .agg parts => uptoBulkAll parts + 1
  | .iface _ d => uptoBulk d + 1
  | .map entries => uptoBulkEntries entries + 1
  | .held _ => 1
def uptoBulkAll {H : Type} : List (DataW H) → Nat
  | [] => 0
  | d :: r => uptoBulk d + uptoBulkAll r
def uptoBulkEntries {H : Type} : List (Lit × DataW H) → Nat
  | [] => 0
  | x :: r => uptoBulkEntry x + uptoBulkEntries r
def uptoBulkEntry {H : Type} : Lit × DataW H → Nat
  | (.string bytes, d) => bytes.length + uptoBulk d + 1
  | (_, d) => uptoBulk d + 1
 end
def uptoSmall : (H : Type) → List (DataW H) → Bool := fun _ ds => decide (uptoBulkAll ds ≤ 1048576)
def OpenSpec.upto (s : _root_.Go.ChangeSpec) : _root_.Go.OpenSpec := { _root_.Go.OpenSpec.ofChange s with cond := some uptoSmall }

/-- 'laws.FnValidExits', WHERE WHAT IT READS IS OF BULK AT MOST 1048576: true; the input reads as it did. -/
def fnValidExitsUptoRow : OpenClaim := { program := "ythfdohjghgkciaa", sum := "b9c51e234017b1de014950ed13d96d60173d6b7aa9f804d48872c0804c94e2e9", func := "loop.example/faultcleanup/laws.FnValidExits", spec := "fnValidExits", unfollowed := true, recurses := true, apart := false, narrowed := true }
def FnValidExitsUptoSaid : Prop := fnValidExitsUptoRow.holds Try.pinned (OpenSpec.upto fnValidExitsSpec)

/-- 'laws.FnExactValidExits', WHERE WHAT IT READS IS OF BULK AT MOST 1048576: true; the input reads as it did. -/
def fnExactValidExitsUptoRow : OpenClaim := { program := "ythfdohjghgkciaa", sum := "b9c51e234017b1de014950ed13d96d60173d6b7aa9f804d48872c0804c94e2e9", func := "loop.example/faultcleanup/laws.FnExactValidExits", spec := "fnExactValidExits", unfollowed := true, recurses := true, apart := false, narrowed := true }
def FnExactValidExitsUptoSaid : Prop := fnExactValidExitsUptoRow.holds Try.pinned (OpenSpec.upto fnExactValidExitsSpec)

/-- 'laws.FnPopExit', WHERE WHAT IT READS IS OF BULK AT MOST 1048576: true; the input reads as it did. -/
def fnPopExitUptoRow : OpenClaim := { program := "ythfdohjghgkciaa", sum := "b9c51e234017b1de014950ed13d96d60173d6b7aa9f804d48872c0804c94e2e9", func := "loop.example/faultcleanup/laws.FnPopExit", spec := "fnPopExit", unfollowed := true, recurses := true, apart := false, narrowed := true }
def FnPopExitUptoSaid : Prop := fnPopExitUptoRow.holds Try.pinned (OpenSpec.upto fnPopExitSpec)

end Rows
end Go.Proofs.Ythfdohjghgkciaa
