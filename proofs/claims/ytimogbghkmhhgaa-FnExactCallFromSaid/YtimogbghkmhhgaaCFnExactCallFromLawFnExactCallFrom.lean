/- The law's statement over the given row, out of the walk and the plain proof. Conditions: none beyond the statement's own. -/
import Derived.Test.YtimogbghkmhhgaaRows
import Derived.Test.YtimogbghkmhhgaaCFnExactCallFromPTx12
import Derived.Test.YtimogbghkmhhgaaCFnExactCallFromPureOpen
import Derived.Test.YtimogbghkmhhgaaCFnExactCallFromPureFnExactCallFrom
import Derived.WalkKit
import Derived.ProofKit
import Derived.OpenShut
import Derived.ShutString
import Derived.ChangeOld
import Derived.Below
import Derived.SizedLaws
namespace Go.Proofs.Ytimogbghkmhhgaa.fnExactCallFrom
open Go.ChangeShapes Go.WideShapes Go.ChangeAt Go.RowKit Go.Proofs.Ytimogbghkmhhgaa.PT Go.Proofs.YtimogbghkmhhgaaW.PrintWords
open Go.ChangeMaps (open_string shut_string)
set_option linter.unusedVariables false
theorem own : ownKnob Try.prog.godebug = none := by kernel_rfl
theorem laidOut : laidOutB Try.prog = true := by kernel_rfl
set_option maxRecDepth 100000 in
theorem lifted (os : Os) (started : os.Started) (H : Type) (enc : TypeId × Value → H) :
    ReturnsInHanded {} Try.checked os 5 .any (Rows.fnExactCallFromSpec.pre6 enc Try.prog Try.f5 Rows.fnExactCallFromRow.domain false) (Rows.fnExactCallFromSpec.post enc Try.prog Try.f5 false true false false) := by
  refine returnsInHanded_of_change_sized (C := Try.checked) own started (by kernel_rfl) Try.func5
    (ChangeSpec.witness6 (enc := enc) (C := Try.checked) false ⟨#[], #[.slice none 0 0, .agg #[.string ByteArray.empty, .int .i64 0]], []⟩ 8 (by kernel_rfl) (by kernel_rfl) (by kernel_rfl) (by kernel_rfl)) ?_
  intro W base args ds gs before hval0 hW hcnd hsz0 _
  have hval : ∀ (j : Nat) t v, Try.f5.params[j]? = some t → args[j]? = some v → Value.okWide Try.prog W .any base t v := hval0
  have hW' := hW
  obtain ⟨p, q, hA0, hV, rfl, hfz, hnd⟩ := hW
  have hA : DataW.TrodAll enc Try.prog W 0 (fun _ => true) true Try.f5.params.toList args.toList ds p := hA0
  rw [Try.params5] at hA hval
  obtain ⟨v0, vs0, d0, ds0, p0, q0, hargs, rfl, rfl, h0, r0⟩ := trodAll_cons hA
  obtain ⟨v1, vs1, d1, ds1, p1, q1, rfl, rfl, rfl, h1, r1⟩ := trodAll_cons r0
  obtain ⟨rfl, rfl, rfl⟩ := trodAll_nil r1
  obtain rfl : args = #[v0, v1] := by cases args; simp_all
  obtain ⟨rfl, rfl⟩ := trodVars_none hV
  have k0 := h0
  have lt0 : ∀ x ∈ p0, x.block < W.heap.size := by obtain ⟨m, hm⟩ := k0; exact DataW.trod_lt m _ _ _ hm
  obtain ⟨a0, len0, cap0, rfl⟩ := okWide_slice Try.underlying39 (hval 0 39 v0 rfl rfl)
  obtain ⟨l0, rfl, hr0, hc0, hm0, hk0⟩ := Open.open_arg (α := S40) (d := k40) (ok := fun y => y.f0.size ≤ maxLen ∧ (Lit.int .i64 y.f1).wf = true) Try.underlying39 (Open.Opens.iso (fun x : S40 => (x.f0, x.f1)) (fun p => ⟨p.1, p.2⟩) (fun _ => rfl) (Open.Opens.struct2 Try.underlying40 (Open.Opens.string Try.underlying9) (Open.Opens.int Try.underlying3) (by kernel_rfl) (by kernel_rfl) (by kernel_rfl))) (by kernel_rfl) h0
  have k1 := h1
  have lt1 : ∀ x ∈ p1, x.block < W.heap.size := by obtain ⟨m, hm⟩ := k1; exact DataW.trod_lt m _ _ _ hm
  obtain ⟨x1, e1, y1⟩ : ∃ x : S40, v1 = .agg #[.string x.f0, .int .i64 x.f1] ∧ (x.f0.size ≤ maxLen ∧ (Lit.int .i64 x.f1).wf = true) := by
    obtain ⟨x, cs, hc, hK, hok⟩ := Open.open_flat (d := k40) (ok := fun y => y.f0.size ≤ maxLen ∧ (Lit.int .i64 y.f1).wf = true) Try.underlying40 (Open.Opens.iso (fun x : S40 => (x.f0, x.f1)) (fun p => ⟨p.1, p.2⟩) (fun _ => rfl) (Open.Opens.struct2 Try.underlying40 (Open.Opens.string Try.underlying9) (Open.Opens.int Try.underlying3) (by kernel_rfl) (by kernel_rfl) (by kernel_rfl))) (hval 1 40 v1 rfl rfl) h1
    obtain ⟨_, _, rfl, rfl, rfl⟩ := hK
    exact ⟨x, hc, hok⟩
  subst e1
  clear hA0 hval0 hsz0
  obtain ⟨k, h⟩ := Pure.FnExactCallFrom l0 hm0 hk0 x1.f0 y1.1 x1.f1 y1.2
  refine (PT.laws_FnExactCallFrom.calls k _ _ l0 x1.f0 x1.f1 true W hr0 hc0 h).mono fun e W' ⟨he, bel⟩ => ?_
  subst he
  exact ⟨_, rfl, _, _, _, [], _, [], hW', trodAll_mk1 (shut_bool Try.underlying4 _), (trodAll_cons_mk (Below.trod laidOut (by kernel_rfl) (of_decide_eq_true (by kernel_rfl)) k0 bel lt0) (trodAll_cons_mk (Below.trod laidOut (by kernel_rfl) (of_decide_eq_true (by kernel_rfl)) k1 bel lt1) trodAll_mk0)), rfl, bel.frame _, fun h => by cases h⟩
theorem over : Rows.fnExactCallFromRow.holds Try.pinned (OpenSpec.ofChange Rows.fnExactCallFromSpec) :=
  OpenClaim.holds_of_wide 5 Try.f5 rfl rfl rfl rfl rfl rfl rfl ⟨rfl, rfl, rfl, rfl, rfl⟩ rfl rfl rfl rfl rfl (by kernel_rfl) Try.func5 (by kernel_rfl)
    (of_decide_eq_true (by kernel_rfl)) (by unfold Func.isWrapper; first | (rw [if_pos (by decide +kernel)]; kernel_rfl) | (rw [if_neg (by decide +kernel)]; exact ⟨rfl, rfl⟩))
    (fun os started H enc _ => lifted os started H enc)
theorem proved : Rows.FnExactCallFromSaid := over
#print axioms proved
end Go.Proofs.Ytimogbghkmhhgaa.fnExactCallFrom
namespace Go.Proofs.Ytimogbghkmhhgaa
theorem fnExactCallFrom_holds : Rows.FnExactCallFromSaid := fnExactCallFrom.proved
end Go.Proofs.Ytimogbghkmhhgaa
