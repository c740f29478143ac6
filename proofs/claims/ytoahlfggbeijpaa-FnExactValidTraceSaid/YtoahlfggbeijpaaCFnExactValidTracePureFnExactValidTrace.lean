/- The plain proof: what the printed functions tell. Conditions: none beyond the statement's own. -/
import Derived.Test.YtoahlfggbeijpaaCFnExactValidTracePureExFrame
import Derived.Test.YtoahlfggbeijpaaCFnExactValidTracePTx3
namespace Go.Proofs.Ytoahlfggbeijpaa.Pure
open Go.RowKit Go.Proofs.Ytoahlfggbeijpaa.PT Go.Proofs.YtoahlfggbeijpaaW.PrintWords Go.Proofs.YtoahlfggbeijpaaW.PrintLast
set_option linter.unusedVariables false
theorem FnExactValidTrace : ∀ (l0 : List S56), l0.length ≤ maxLen → (∀ y ∈ l0, y.f0.size ≤ maxLen ∧ (Lit.int .i64 y.f1).wf = true) → ∃ k, laws_FnExactValidTrace.f k l0 = some true := by
  intro l hl hs
  apply Evs.done
  unfold laws_FnExactValidTrace.f
  refine Evs.bind (szFrame_ev l 1048576 hl (fun y hy => (hs y hy).1) (by omega) (by omega)) (fun r hr => Evs.ite (fun _ => Evs.ret rfl) (fun h => ?_))
  have hg := hr.2.2 (by omega)
  have sm := conv_small hg
  refine Evs.bind (toFrame_ev l hg.1) (fun t ht => Evs.bind (sValidTrace_ev t (by rw [ht]; exact sm)) (fun a ha => ?_))
  refine Evs.bind (toFrame_ev l hg.1) (fun u hu => Evs.bind (ValidTrace_ev u (by rw [hu]; exact sm)) (fun b hb => ?_))
  subst ht hu
  have e : b = a := by rw [Bool.eq_iff_iff, ha, hb]
  refine Evs.no (by simp [e]) (Evs.bind (toFrame_ev l hg.1) (fun u hu => ?_))
  subst hu
  exact Evs.bind (eqFrame_ev _ (by rw [conv_length]; omega)) (fun c hc => Evs.yes hc (Evs.ret rfl))
end Go.Proofs.Ytoahlfggbeijpaa.Pure
