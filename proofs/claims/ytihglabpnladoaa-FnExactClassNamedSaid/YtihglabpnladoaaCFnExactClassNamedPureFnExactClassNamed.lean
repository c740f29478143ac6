/- The plain proof: what the printed functions tell. Conditions: none beyond the statement's own. -/
import Derived.Test.YtihglabpnladoaaCFnExactClassNamedPureExClass
import Derived.Test.YtihglabpnladoaaCFnExactClassNamedPureFnClassNamed
import Derived.Test.YtihglabpnladoaaCFnExactClassNamedPTx9
namespace Go.Proofs.Ytihglabpnladoaa.Pure
open Go.RowKit Go.Proofs.Ytihglabpnladoaa.PT Go.Proofs.YtihglabpnladoaaW.PrintWords Go.Proofs.YtihglabpnladoaaW.PrintLast
set_option linter.unusedVariables false
theorem FnExactClassNamed : ∀ (l0 : List S78), l0.length ≤ maxLen → (∀ y ∈ l0, y.f0.size ≤ maxLen ∧ (Lit.int .i64 y.f1).wf = true) → ∀ (a1 : ByteArray), a1.size ≤ maxLen → ∃ k, laws_FnExactClassNamed.f k l0 a1 = some true := by
  intro l hl hs n hn
  apply Evs.done
  unfold laws_FnExactClassNamed.f
  refine Evs.ite (fun _ => Evs.ret rfl) (fun _ => ?_)
  refine Evs.bind (szTree_ev l 1048576 hl (fun y hy => (hs y hy).1) (by omega) (by omega)) (fun r hr => Evs.ite (fun _ => Evs.ret rfl) (fun h => ?_))
  have hg := hr.2.2 (by omega)
  have sm := conv_small hg
  refine Evs.bind (toTree_ev l hg.1) (fun t ht => Evs.bind (sClassNamed_ev t n (by rw [ht]; exact sm)) (fun a ha => ?_))
  refine Evs.bind (toTree_ev l hg.1) (fun u hu => Evs.bind (ClassNamed_ev u n (by rw [hu]; exact sm)) (fun b hb => ?_))
  subst ht hu
  refine Evs.yes (hb.uniq ha) (Evs.bind (toTree_ev l hg.1) (fun u hu => ?_))
  subst hu
  exact Evs.bind (eqTree_ev _ (by rw [conv_length]; omega)) (fun c hc => Evs.yes hc (Evs.ret rfl))
end Go.Proofs.Ytihglabpnladoaa.Pure
