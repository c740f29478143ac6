/- The plain proof: what the printed functions tell. Conditions: none beyond the statement's own. -/
import Derived.Test.YtihglabpnladoaaCFnExactIsAPureExClass
import Derived.Test.YtihglabpnladoaaCFnExactIsAPureBelow
import Derived.Test.YtihglabpnladoaaCFnExactIsAPTx13
namespace Go.Proofs.Ytihglabpnladoaa.Pure
open Go.RowKit Go.Proofs.Ytihglabpnladoaa.PT Go.Proofs.YtihglabpnladoaaW.PrintWords Go.Proofs.YtihglabpnladoaaW.PrintLast
set_option linter.unusedVariables false
theorem FnExactIsA : ∀ (l0 : List S78), l0.length ≤ maxLen → (∀ y ∈ l0, y.f0.size ≤ maxLen ∧ (Lit.int .i64 y.f1).wf = true) → ∀ (a1 : Int), (Lit.int .i64 a1).wf = true → ∀ (a2 : Int), (Lit.int .i64 a2).wf = true → ∃ k, laws_FnExactIsA.f k l0 a1 a2 = some true := by
  intro l hl hs a1 h1 a2 h2
  apply Evs.done
  unfold laws_FnExactIsA.f
  refine Evs.bind (szTree_ev l 1048576 hl (fun y hy => (hs y hy).1) (by omega) (by omega)) (fun r hr => Evs.ite (fun _ => Evs.ret rfl) (fun h => ?_))
  have hg := hr.2.2 (by omega)
  have sm := conv_small hg
  refine Evs.bind (toTree_ev l hg.1) (fun t ht => Evs.bind (sIsA_ev t a1 a2 (by rw [ht]; exact sm)) (fun a ha => ?_))
  refine Evs.bind (toTree_ev l hg.1) (fun u hu => Evs.bind (IsA_ev u a1 a2 (by rw [hu]; exact sm)) (fun b hb => ?_))
  subst ht hu
  have e : b = a := by rw [Bool.eq_iff_iff, ha, hb]
  refine Evs.no (by simp [e]) (Evs.bind (toTree_ev l hg.1) (fun u hu => ?_))
  subst hu
  exact Evs.bind (eqTree_ev _ (by rw [conv_length]; omega)) (fun c hc => Evs.yes hc (Evs.ret rfl))
end Go.Proofs.Ytihglabpnladoaa.Pure
