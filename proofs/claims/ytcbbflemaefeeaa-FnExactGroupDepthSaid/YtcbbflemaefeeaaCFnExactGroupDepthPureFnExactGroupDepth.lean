/- The plain proof: what the printed functions tell. Conditions: none beyond the statement's own. -/
import Derived.Test.YtcbbflemaefeeaaCFnExactGroupDepthPureExPart
import Derived.Test.YtcbbflemaefeeaaCFnExactGroupDepthPureKids
import Derived.Test.YtcbbflemaefeeaaCFnExactGroupDepthPTx17
namespace Go.Proofs.Ytcbbflemaefeeaa.Pure
open Go.RowKit Go.Proofs.Ytcbbflemaefeeaa.PT Go.Proofs.YtcbbflemaefeeaaW.PrintWords Go.Proofs.YtcbbflemaefeeaaW.PrintLast
set_option linter.unusedVariables false
theorem FnExactGroupDepth : ∀ (l0 : List S66), l0.length ≤ maxLen → (∀ y ∈ l0, y.f0.size ≤ maxLen ∧ (Lit.int .i64 y.f1).wf = true) → ∀ (l1 : List S53), l1.length ≤ maxLen → (∀ y ∈ l1, (Lit.int .i64 y.f0).wf = true ∧ (True ∧ ((Lit.int .i64 y.f2).wf = true ∧ (Lit.int .i64 y.f3).wf = true))) → ∃ k, laws_FnExactGroupDepth.f k l0 l1 = some true := by
  intro l hl hs e he _
  rw [maxLen_eq] at he
  apply Evs.done
  unfold laws_FnExactGroupDepth.f
  refine Evs.bind (szTree_ev l 1048576 hl (fun y hy => (hs y hy).1) (by omega) (by omega)) (fun r hr => Evs.ite (fun _ => Evs.ret rfl) (fun h => ?_))
  have hg := hr.2.2 (by omega)
  have hr1 := hr.2.1
  have sm := conv_small hg
  refine Evs.bind (szPart_ev e r he (by omega) hr1) (fun x hx => Evs.ite (fun _ => Evs.ret rfl) (fun h' => ?_))
  have hE := hx (by omega)
  refine Evs.bind (toTree_ev l hg.1) (fun t ht => Evs.bind (toPart_ev e hE) (fun u hu => ?_))
  subst ht hu
  refine Evs.bind (sGroupDepth_ev _ _ sm (by rw [convP_length]; omega)) (fun v hv => Evs.bind (toTree_ev l hg.1) (fun t ht => Evs.bind (toPart_ev e hE) (fun u hu => ?_)))
  subst ht hu
  refine Evs.bind (GroupDepth_ev _ _ sm (by rw [convP_length]; omega)) (fun w hw => Evs.yes (hw.uniq hv) (Evs.bind (toTree_ev l hg.1) (fun t ht => ?_)))
  subst ht
  refine Evs.bind (eqTree_ev _ (by rw [conv_length]; omega)) (fun c hc => Evs.yes hc (Evs.bind (toPart_ev e hE) (fun u hu => ?_)))
  subst hu
  exact Evs.bind (eqPart_ev _ (by rw [convP_length]; omega)) (fun c hc => Evs.yes hc (Evs.ret rfl))
end Go.Proofs.Ytcbbflemaefeeaa.Pure
